/- The program's operands are plain and its functions no model's own. -/
import Derived.Test.YtblbaohcelldpaaGreatB9
import Derived.Test.YtblbaohcelldpaaGreatProg
import Derived.KernelRfl
namespace Go.Proofs.YtblbaohcelldpaaGreat
open Go Go.Abs
theorem okp : okProg Tryz.prog 100 = true := by kernel_rfl
end Go.Proofs.YtblbaohcelldpaaGreat
