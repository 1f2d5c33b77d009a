/- What calls of the program do, told of the few objects that they see; printed by a program of mine from a run of the evaluator. -/
import Derived.Test.YtfhkbepjppcjmaaGreatDoorCXG
import Derived.Test.YtfhkbepjppcjmaaGreatDoorCX00
import Derived.Test.YtfhkbepjppcjmaaGreatDoorCX01
import Derived.Test.YtfhkbepjppcjmaaGreatDoorCX02
import Derived.Test.YtfhkbepjppcjmaaGreatDoorCX03
import Derived.Test.YtfhkbepjppcjmaaGreatDoorCX04
import Derived.Test.YtfhkbepjppcjmaaGreatDoorCX05
import Derived.Test.YtfhkbepjppcjmaaGreatDoorCX06
import Derived.Test.YtfhkbepjppcjmaaGreatDoorCX07
import Derived.Test.YtfhkbepjppcjmaaGreatDoorCX08
import Derived.Test.YtfhkbepjppcjmaaGreatDoorCX09
import Derived.Test.YtfhkbepjppcjmaaGreatDoorCX10
import Derived.Test.YtfhkbepjppcjmaaGreatDoorCX11
import Derived.Test.YtfhkbepjppcjmaaGreatDoorCX12
namespace Go.Proofs.YtfhkbepjppcjmaaGreatDoor.configNames
open Go Go.Abs
set_option linter.unusedVariables false
noncomputable section
set_option maxRecDepth 100000 in
theorem ran : retTrue (ev Tryz.prog (orcOf 100 [c238, c142, c2, c3, c4, c5, c6, c254, c41, c269, c284, c304, c327, c364, c392, c434, c487, c504, c524, c569, c601, c614, c152, c553, c623, c635, c660, c684, c697, c708, c718, c728, c741, c759, c169, c794, c811, c752, c830, c835, c849, c872, c903, c925, c948, c978, c1006, c1015, c1020, c1030, c1050, c1058, c1065, c1071, c177, c1089, c1108, c1130, c1140, c1149, c4009, c4148]) 1000000 (.call 3 [] (hOf 100 gl0 []))) = true := by kernel_rfl
theorem known : ∀ c ∈ ([c238, c142, c2, c3, c4, c5, c6, c254, c41, c269, c284, c304, c327, c364, c392, c434, c487, c504, c524, c569, c601, c614, c152, c553, c623, c635, c660, c684, c697, c708, c718, c728, c741, c759, c169, c794, c811, c752, c830, c835, c849, c872, c903, c925, c948, c978, c1006, c1015, c1020, c1030, c1050, c1058, c1065, c1071, c177, c1089, c1108, c1130, c1140, c1149, c4009, c4148] : List Ctr), Valid Tryz.prog 100 c := (andCtr v238 (andCtr v142 (andCtr v2 (andCtr v3 (andCtr v4 (andCtr v5 (andCtr v6 (andCtr v254 (andCtr v41 (andCtr v269 (andCtr v284 (andCtr v304 (andCtr v327 (andCtr v364 (andCtr v392 (andCtr v434 (andCtr v487 (andCtr v504 (andCtr v524 (andCtr v569 (andCtr v601 (andCtr v614 (andCtr v152 (andCtr v553 (andCtr v623 (andCtr v635 (andCtr v660 (andCtr v684 (andCtr v697 (andCtr v708 (andCtr v718 (andCtr v728 (andCtr v741 (andCtr v759 (andCtr v169 (andCtr v794 (andCtr v811 (andCtr v752 (andCtr v830 (andCtr v835 (andCtr v849 (andCtr v872 (andCtr v903 (andCtr v925 (andCtr v948 (andCtr v978 (andCtr v1006 (andCtr v1015 (andCtr v1020 (andCtr v1030 (andCtr v1050 (andCtr v1058 (andCtr v1065 (andCtr v1071 (andCtr v177 (andCtr v1089 (andCtr v1108 (andCtr v1130 (andCtr v1140 (andCtr v1149 (andCtr v4009 (andCtr v4148 noCtr))))))))))))))))))))))))))))))))))))))))))))))))))))))))))))))
end
end Go.Proofs.YtfhkbepjppcjmaaGreatDoor.configNames
