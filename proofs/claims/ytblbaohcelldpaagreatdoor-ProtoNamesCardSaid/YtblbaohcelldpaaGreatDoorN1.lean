import Derived.Test.YtblbaohcelldpaaGreatDoorB9
import Derived.Test.YtblbaohcelldpaaGreatDoorProg
import Derived.KernelRfl
namespace Go.Proofs.YtblbaohcelldpaaGreatDoor
open Go Go.Abs
theorem okp : okProg Tryz.prog 100 = true := by kernel_rfl
end Go.Proofs.YtblbaohcelldpaaGreatDoor
