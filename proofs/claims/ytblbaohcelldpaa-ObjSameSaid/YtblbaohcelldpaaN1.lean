import Derived.Test.YtblbaohcelldpaaB9
import Derived.Test.YtblbaohcelldpaaProg
import Derived.KernelRfl
namespace Go.Proofs.Ytblbaohcelldpaa
open Go Go.Abs
theorem okp : okProg Try.prog 100 = true := by kernel_rfl
end Go.Proofs.Ytblbaohcelldpaa
