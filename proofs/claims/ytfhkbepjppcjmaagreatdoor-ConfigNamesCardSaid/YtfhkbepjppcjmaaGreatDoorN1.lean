import Derived.Test.YtfhkbepjppcjmaaGreatDoorB9
import Derived.Test.YtfhkbepjppcjmaaGreatDoorProg
import Derived.KernelRfl
namespace Go.Proofs.YtfhkbepjppcjmaaGreatDoor
open Go Go.Abs
theorem okp : okProg Tryz.prog 100 = true := by kernel_rfl
end Go.Proofs.YtfhkbepjppcjmaaGreatDoor
