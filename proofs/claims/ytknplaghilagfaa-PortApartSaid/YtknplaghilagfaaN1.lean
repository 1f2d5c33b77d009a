import Derived.Test.YtknplaghilagfaaB9
import Derived.Test.YtknplaghilagfaaProg
import Derived.KernelRfl
namespace Go.Proofs.Ytknplaghilagfaa
open Go Go.Abs
theorem okp : okProg Try.prog 100 = true := by kernel_rfl
end Go.Proofs.Ytknplaghilagfaa
