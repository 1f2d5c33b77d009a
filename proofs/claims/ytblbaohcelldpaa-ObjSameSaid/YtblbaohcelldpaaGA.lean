/- The examples are as they are told: 'awake' returns true, and leaves the heap as it was. -/
import Derived.Test.YtblbaohcelldpaaD10
import Derived.Test.YtblbaohcelldpaaN1
import Derived.KernelRfl
namespace Go.Proofs.Ytblbaohcelldpaa.Ob
open Go Go.Abs
set_option linter.unusedVariables false
noncomputable section
set_option maxRecDepth 100000 in
theorem awake_ran : Abs.retTrue (Abs.ev Try.prog (fun _ => none) 10000 (.call 6 [] (hOf 100 [] []))) = true := by kernel_rfl
end
end Go.Proofs.Ytblbaohcelldpaa.Ob
