/- What calls of the program do, told of the few objects that they see; printed by a program of mine from a run of the evaluator. -/
import Derived.Test.YtfhkbepjppcjmaaGreatDoorCXG
namespace Go.Proofs.YtfhkbepjppcjmaaGreatDoor.configNames
open Go Go.Abs
set_option linter.unusedVariables false
noncomputable section
def c3 : Ctr := ⟨52, [vL], gl0, [], re (vL), [], []⟩
set_option maxRecDepth 100000 in
theorem v3 : Valid Tryz.prog 100 c3 := made_valid (orc := orcOf 100 []) (N := 1000000) (ms := []) okp (orcOf_ok noCtr) (by kernel_rfl)
def c13 : Ctr := ⟨118, [vb false, vi 7], gl0, [], re (.nilIface), [], []⟩
set_option maxRecDepth 100000 in
theorem v13 : Valid Tryz.prog 100 c13 := made_valid (orc := orcOf 100 []) (N := 1000000) (ms := []) okp (orcOf_ok noCtr) (by kernel_rfl)
def c46 : Ctr := ⟨264, [], gl0, [], re (va [vb false, vb false, .nilFunc, .nilFunc, vu 0, vi 0, vi 0, vb true, vb false, vf 294 [] [], vf 293 [] [], vu 0, vi 0, vi 0, vb true, vb false, vf 294 [] [], vf 293 [] [], vu 0, vi 0, vi 0, vb true, vb false, vf 294 [] [], vf 293 [] [], vu 0, vi 0, vi 0, vb true, vb false, vf 294 [] [], vf 293 [] [], vu 0, vi 0, vi 0, vb true, vb false, vf 294 [] [], vf 293 [] [], vu 0, vi 0, vi 0, vb true, vb false, vf 294 [] [], vf 293 [] [], vu 0, vi 0, vi 0, vb true, vb false, vf 294 [] [], vf 293 [] [], vu 0, vi 0, vi 0, vb true, vb false, vf 294 [] [], vf 293 [] [], vu 0, vi 0, vi 0, vb true, vb false, vf 293 [] [], vf 293 [] [], vu 0, vi 0, vi 9216, vb true, vb false, vf 293 [] [], vf 293 [] [], vu 0, vi 0, vi 9216, vb true, vb false, vf 191 [] [], vf 293 [] [], vu 0, vi 0, vi 9216, vb false, vb true, vf 294 [] [], vf 294 [] [], vu 0, vi 1, vi 32, vb false, vb false, vf 293 [] [], vf 293 [] [], vu 2, vi 0, vi 0, vb false, vb false, vf 293 [] [], vf 293 [] [], vu 3, vi 0, vi 0, vb false, vb false, vf 294 [] [], vf 293 [] [], vu 4, vi 0, vi 0, vb false, vb false, vf 293 [] [], vf 293 [] [], vu 5, vi 0, vi 0, vb true, vb false, vf 294 [] [], vf 293 [] [], vu 6, vi 0, vi 0, vb false, vb false, vf 294 [] [], vf 294 [] [], vu 6, vi 0, vi 0, vb false, vb false, vf 294 [] [], vf 294 [] [], vu 6, vi 0, vi 0, vb false, vb false, vf 294 [] [], vf 293 [] [], vu 0, vi 0, vi 0, vb false, vb false, vf 293 [] [], vf 293 [] [], vu 0, vi 0, vi 2147483647, vb false, vb false, vf 293 [] [], vf 293 [] [], vu 0, vi 0, vi 0, vb false, vb false, vf 293 [] [], vf 293 [] [], vu 0, vi 0, vi 0]), [], []⟩
set_option maxRecDepth 100000 in
theorem v46 : Valid Tryz.prog 100 c46 := made_valid (orc := orcOf 100 []) (N := 1000000) (ms := []) okp (orcOf_ok noCtr) (by kernel_rfl)
def c101 : Ctr := ⟨194, [vi 1, vi 1], gl0, [], re (vi 0), [], []⟩
set_option maxRecDepth 100000 in
theorem v101 : Valid Tryz.prog 100 c101 := made_valid (orc := orcOf 100 []) (N := 1000000) (ms := []) okp (orcOf_ok noCtr) (by kernel_rfl)
def c136 : Ctr := ⟨261, [vp 100 0, va [vi 0, vi 1]], gl0, [k15, .map [vi 1] [vl 105 0 1 1] [0] 1, .map [vi 1] [vl 106 0 1 1] [0] 1, .map [] [] [] 0, k16, ao 3 1 [vi 1], k2], re (vi 2), [some k15, some (.map [vi 1] [vl 105 0 1 1] [0] 1), some (.map [vi 1] [vl 106 0 1 1] [0] 1), some (.map [] [] [] 0), some k16, some (ao 3 1 [vi 1]), some k2], []⟩
set_option maxRecDepth 100000 in
theorem v136 : Valid Tryz.prog 100 c136 := made_valid (orc := orcOf 100 []) (N := 1000000) (ms := []) okp (orcOf_ok noCtr) (by kernel_rfl)
def c169 : Ctr := ⟨28, [vI 94 (va [vi 8]), vI 96 (vp 100 0)], gl0, [ao 94 1 [vi 0]], re (vb true), [some (ao 94 1 [vi 8])], []⟩
theorem v169 : Valid Tryz.prog 100 c169 := asHit.as_valid _
def c467 : Ctr := ⟨259, [k63], gl0, [k42, k46, k25, k64, k65, .cells [vi 1, vi 0, vi 0] 45 3 true true, .cells [vi 1, vi 4] 47 2 true true, .cells [vi 1] 3 1 true true, .cells [vi 1] 3 1 true true, k2, k56, .cells [vq 0, vi 1] 56 2 true true], re (vp 112 0), [some k42, some k46, some k25, some k64, some k65, some (.cells [vi 1, vi 0, vi 0] 45 3 true true), some (.cells [vi 1, vi 4] 47 2 true true), some (.cells [vi 1] 3 1 true true), some (.cells [vi 1] 3 1 true true), some k2, some k56, some (.cells [vq 0, vi 1] 56 2 true true)], [k66, .map [vi 1] [vl 117 0 1 1] [0] 1, k67, k68, k69, ao 3 1 [vi 1]]⟩
set_option maxRecDepth 100000 in
theorem v467 : Valid Tryz.prog 100 c467 := made_valid (orc := orcOf 100 []) (N := 1000000) (ms := [116, 113, 114, 115, 130, 118]) okp (orcOf_ok noCtr) (by kernel_rfl)
def c598 : Ctr := ⟨132, [vl 100 0 2 2], gl0, [k85], re (vt [vf 184 [] [vp 101 0, vp 102 0, vp 103 0, vp 104 0, vp 105 0], vb false]), [some k85], [ao 72 1 [vl 100 0 2 2], ao 270 1 [.map (some 106)], ao 4 1 [vb false], ao 270 1 [.map (some 107)], ao 203 1 [vf 184 [] [vp 101 0, vp 102 0, vp 103 0, vp 104 0, vp 105 0]], .map [vi 1, vi 2] [vi 0, vi 0] [0, 1] 2, .map [vi 1, vi 2] [vi 1, vi 1] [0, 1] 2]⟩
set_option maxRecDepth 100000 in
theorem v598 : Valid Tryz.prog 100 c598 := made_valid (orc := orcOf 100 []) (N := 1000000) (ms := [101, 105, 106, 104, 107, 103, 102]) okp (orcOf_ok noCtr) (by kernel_rfl)
def c623 : Ctr := ⟨28, [vI 94 (va [vi 6]), vI 96 (vp 100 0)], gl0, [ao 94 1 [vi 0]], re (vb true), [some (ao 94 1 [vi 6])], []⟩
theorem v623 : Valid Tryz.prog 100 c623 := asHit.as_valid _
def c846 : Ctr := ⟨235, [va [vi 1, vu 1, vl 100 0 1 1, vi 2, vi 1], vl 101 0 1 1], gl0, [.cells [vi 1] 3 1 true true, .cells [vi 1] 3 1 true true], re (vt [vp 102 0, vi 0]), [some (.cells [vi 1] 3 1 true true), some (.cells [vi 1] 3 1 true true)], [ao 353 10 [vi 1, vu 1, vl 103 0 1 1, vi 2, vi 1, vl 104 0 1 1, vi 1, vL, vi 0, vI 387 (va [vp 105 0])], .cells [vi 1] 3 1 true true, .cells [vi 1] 3 1 true true, ao 420 2 [vl 106 0 8 8, vi 0], ao 477 3 [vb false, vs [], vi 0, vb false, vs [], vi 0, vb false, vs [], vi 0, vb false, vs [], vi 0, vb false, vs [], vi 0, vb false, vs [], vi 0, vb false, vs [], vi 0, vb false, vs [], vi 0]]⟩
set_option maxRecDepth 100000 in
theorem v846 : Valid Tryz.prog 100 c846 := made_valid (orc := orcOf 100 []) (N := 1000000) (ms := [108, 105, 107, 110, 109]) okp (orcOf_ok noCtr) (by kernel_rfl)
def c1213 : Ctr := ⟨259, [k112], gl0, [k42, k46, k25, k64, k65, .cells [vi 1, vi 0, vi 0] 45 3 true true, .cells [vi 1, vi 4] 47 2 true true, k111, .cells [vi 1] 3 1 true true, k2, k56, .cells [vq 0, vi 1] 56 2 true true], re (vp 112 0), [some k42, some k46, some k25, some k64, some k65, some (.cells [vi 1, vi 0, vi 0] 45 3 true true), some (.cells [vi 1, vi 4] 47 2 true true), some k111, some (.cells [vi 1] 3 1 true true), some k2, some k56, some (.cells [vq 0, vi 1] 56 2 true true)], [k66, .map [vi 1] [vl 117 0 1 1] [0] 1, k67, k68, k69, ao 3 1 [vi 1]]⟩
set_option maxRecDepth 100000 in
theorem v1213 : Valid Tryz.prog 100 c1213 := made_valid (orc := orcOf 100 []) (N := 1000000) (ms := [116, 113, 114, 115, 130, 118]) okp (orcOf_ok noCtr) (by kernel_rfl)
def c1274 : Ctr := ⟨168, [vl 100 0 7 7, vi 8, vf 128 [] []], gl0, [k115], re (vt [vi 7, vb false]), [some k115], []⟩
set_option maxRecDepth 100000 in
theorem v1274 : Valid Tryz.prog 100 c1274 := made_valid (orc := orcOf 100 []) (N := 1000000) (ms := []) okp (orcOf_ok noCtr) (by kernel_rfl)
def c1303 : Ctr := ⟨259, [k119], gl0, [k42, k46, k25, k64, k65, .cells [vi 1, vi 0, vi 0] 45 3 true true, .cells [vi 1, vi 4] 47 2 true true, k120, .cells [vi 1] 3 1 true true, k2, k56, .cells [vq 0, vi 1] 56 2 true true], re (vp 112 0), [some k42, some k46, some k25, some k64, some k65, some (.cells [vi 1, vi 0, vi 0] 45 3 true true), some (.cells [vi 1, vi 4] 47 2 true true), some k120, some (.cells [vi 1] 3 1 true true), some k2, some k56, some (.cells [vq 0, vi 1] 56 2 true true)], [k66, .map [vi 1] [vl 117 0 1 1] [0] 1, k67, k68, k69, ao 3 1 [vi 1]]⟩
set_option maxRecDepth 100000 in
theorem v1303 : Valid Tryz.prog 100 c1303 := made_valid (orc := orcOf 100 []) (N := 1000000) (ms := [116, 113, 114, 115, 130, 118]) okp (orcOf_ok noCtr) (by kernel_rfl)
def c1320 : Ctr := ⟨168, [vl 100 0 9 9, vi 10, vf 128 [] []], gl0, [k120], re (vt [vi 9, vb false]), [some k120], []⟩
set_option maxRecDepth 100000 in
theorem v1320 : Valid Tryz.prog 100 c1320 := made_valid (orc := orcOf 100 []) (N := 1000000) (ms := []) okp (orcOf_ok noCtr) (by kernel_rfl)
def c1399 : Ctr := ⟨259, [k127], gl0, [k42, k46, k25, k64, k65, .cells [vi 1, vi 0, vi 0] 45 3 true true, .cells [vi 1, vi 4] 47 2 true true, k128, .cells [vi 1] 3 1 true true, k2, k56, .cells [vq 0, vi 1] 56 2 true true], re (vp 112 0), [some k42, some k46, some k25, some k64, some k65, some (.cells [vi 1, vi 0, vi 0] 45 3 true true), some (.cells [vi 1, vi 4] 47 2 true true), some k128, some (.cells [vi 1] 3 1 true true), some k2, some k56, some (.cells [vq 0, vi 1] 56 2 true true)], [k66, .map [vi 1] [vl 117 0 1 1] [0] 1, k67, k68, k69, ao 3 1 [vi 1]]⟩
set_option maxRecDepth 100000 in
theorem v1399 : Valid Tryz.prog 100 c1399 := made_valid (orc := orcOf 100 []) (N := 1000000) (ms := [116, 113, 114, 115, 130, 118]) okp (orcOf_ok noCtr) (by kernel_rfl)
def c1416 : Ctr := ⟨168, [vl 100 0 13 13, vi 14, vf 128 [] []], gl0, [k128], re (vt [vi 13, vb false]), [some k128], []⟩
set_option maxRecDepth 100000 in
theorem v1416 : Valid Tryz.prog 100 c1416 := made_valid (orc := orcOf 100 []) (N := 1000000) (ms := []) okp (orcOf_ok noCtr) (by kernel_rfl)
def c1499 : Ctr := ⟨259, [va [vl 100 0 1 1, vl 101 0 4 4, vl 102 0 1 1, vL, vl 103 0 2 2, vl 104 0 1 1, vl 105 0 1 1, vl 106 0 1 1, vl 107 0 17 17]], gl0, [k42, k46, k25, k64, k65, .cells [vi 1, vi 0, vi 0] 45 3 true true, .cells [vi 1, vi 4] 47 2 true true, k135, .cells [vi 1] 3 1 true true, k2, k56, .cells [vq 0, vi 1] 56 2 true true], re (vp 112 0), [some k42, some k46, some k25, some k64, some k65, some (.cells [vi 1, vi 0, vi 0] 45 3 true true), some (.cells [vi 1, vi 4] 47 2 true true), some k135, some (.cells [vi 1] 3 1 true true), some k2, some k56, some (.cells [vq 0, vi 1] 56 2 true true)], [k66, .map [vi 1] [vl 117 0 1 1] [0] 1, k67, k68, k69, ao 3 1 [vi 1]]⟩
set_option maxRecDepth 100000 in
theorem v1499 : Valid Tryz.prog 100 c1499 := made_valid (orc := orcOf 100 []) (N := 1000000) (ms := [116, 113, 114, 115, 130, 118]) okp (orcOf_ok noCtr) (by kernel_rfl)
def c1517 : Ctr := ⟨214, [vl 100 0 17 17, vi 18, vf 215 [] [vp 101 0]], gl0, [k135, ao 203 1 [vf 128 [] []]], re (vt [vi 17, vb false]), [some k135, some (ao 203 1 [vf 128 [] []])], []⟩
set_option maxRecDepth 100000 in
theorem v1517 : Valid Tryz.prog 100 c1517 := made_valid (orc := orcOf 100 []) (N := 1000000) (ms := []) okp (orcOf_ok noCtr) (by kernel_rfl)
def c1603 : Ctr := ⟨259, [va [vl 100 0 1 1, vl 101 0 4 4, vl 102 0 1 1, vL, vl 103 0 2 2, vl 104 0 1 1, vl 105 0 1 1, vl 106 0 1 1, vl 107 0 21 21]], gl0, [k42, k46, k25, k64, k65, .cells [vi 1, vi 0, vi 0] 45 3 true true, .cells [vi 1, vi 4] 47 2 true true, k143, .cells [vi 1] 3 1 true true, k2, k56, .cells [vq 0, vi 1] 56 2 true true], re (vp 112 0), [some k42, some k46, some k25, some k64, some k65, some (.cells [vi 1, vi 0, vi 0] 45 3 true true), some (.cells [vi 1, vi 4] 47 2 true true), some k143, some (.cells [vi 1] 3 1 true true), some k2, some k56, some (.cells [vq 0, vi 1] 56 2 true true)], [k66, .map [vi 1] [vl 117 0 1 1] [0] 1, k67, k68, k69, ao 3 1 [vi 1]]⟩
set_option maxRecDepth 100000 in
theorem v1603 : Valid Tryz.prog 100 c1603 := made_valid (orc := orcOf 100 []) (N := 1000000) (ms := [116, 113, 114, 115, 130, 118]) okp (orcOf_ok noCtr) (by kernel_rfl)
def c1621 : Ctr := ⟨214, [vl 100 0 21 21, vi 22, vf 215 [] [vp 101 0]], gl0, [k143, ao 203 1 [vf 128 [] []]], re (vt [vi 21, vb false]), [some k143, some (ao 203 1 [vf 128 [] []])], []⟩
set_option maxRecDepth 100000 in
theorem v1621 : Valid Tryz.prog 100 c1621 := made_valid (orc := orcOf 100 []) (N := 1000000) (ms := []) okp (orcOf_ok noCtr) (by kernel_rfl)
def c1707 : Ctr := ⟨259, [va [vl 100 0 1 1, vl 101 0 4 4, vl 102 0 1 1, vL, vl 103 0 2 2, vl 104 0 1 1, vl 105 0 1 1, vl 106 0 1 1, vl 107 0 25 25]], gl0, [k42, k46, k25, k64, k65, .cells [vi 1, vi 0, vi 0] 45 3 true true, .cells [vi 1, vi 4] 47 2 true true, k151, .cells [vi 1] 3 1 true true, k2, k56, .cells [vq 0, vi 1] 56 2 true true], re (vp 112 0), [some k42, some k46, some k25, some k64, some k65, some (.cells [vi 1, vi 0, vi 0] 45 3 true true), some (.cells [vi 1, vi 4] 47 2 true true), some k151, some (.cells [vi 1] 3 1 true true), some k2, some k56, some (.cells [vq 0, vi 1] 56 2 true true)], [k66, .map [vi 1] [vl 117 0 1 1] [0] 1, k67, k68, k69, ao 3 1 [vi 1]]⟩
set_option maxRecDepth 100000 in
theorem v1707 : Valid Tryz.prog 100 c1707 := made_valid (orc := orcOf 100 []) (N := 1000000) (ms := [116, 113, 114, 115, 130, 118]) okp (orcOf_ok noCtr) (by kernel_rfl)
def c1725 : Ctr := ⟨214, [vl 100 0 25 25, vi 26, vf 215 [] [vp 101 0]], gl0, [k151, ao 203 1 [vf 128 [] []]], re (vt [vi 25, vb false]), [some k151, some (ao 203 1 [vf 128 [] []])], []⟩
set_option maxRecDepth 100000 in
theorem v1725 : Valid Tryz.prog 100 c1725 := made_valid (orc := orcOf 100 []) (N := 1000000) (ms := []) okp (orcOf_ok noCtr) (by kernel_rfl)
def c1811 : Ctr := ⟨259, [va [vl 100 0 1 1, vl 101 0 4 4, vl 102 0 1 1, vL, vl 103 0 2 2, vl 104 0 1 1, vl 105 0 1 1, vl 106 0 1 1, vl 107 0 29 29]], gl0, [k42, k46, k25, k64, k65, .cells [vi 1, vi 0, vi 0] 45 3 true true, .cells [vi 1, vi 4] 47 2 true true, k159, .cells [vi 1] 3 1 true true, k2, k56, .cells [vq 0, vi 1] 56 2 true true], re (vp 112 0), [some k42, some k46, some k25, some k64, some k65, some (.cells [vi 1, vi 0, vi 0] 45 3 true true), some (.cells [vi 1, vi 4] 47 2 true true), some k159, some (.cells [vi 1] 3 1 true true), some k2, some k56, some (.cells [vq 0, vi 1] 56 2 true true)], [k66, .map [vi 1] [vl 117 0 1 1] [0] 1, k67, k68, k69, ao 3 1 [vi 1]]⟩
set_option maxRecDepth 100000 in
theorem v1811 : Valid Tryz.prog 100 c1811 := made_valid (orc := orcOf 100 []) (N := 1000000) (ms := [116, 113, 114, 115, 130, 118]) okp (orcOf_ok noCtr) (by kernel_rfl)
def c1829 : Ctr := ⟨214, [vl 100 0 29 29, vi 30, vf 215 [] [vp 101 0]], gl0, [k159, ao 203 1 [vf 128 [] []]], re (vt [vi 29, vb false]), [some k159, some (ao 203 1 [vf 128 [] []])], []⟩
set_option maxRecDepth 100000 in
theorem v1829 : Valid Tryz.prog 100 c1829 := made_valid (orc := orcOf 100 []) (N := 1000000) (ms := []) okp (orcOf_ok noCtr) (by kernel_rfl)
def c1911 : Ctr := ⟨214, [vl 100 0 32 32, vi 33, vf 215 [] [vp 101 0]], gl0, [k165, ao 203 1 [vf 128 [] []]], re (vt [vi 32, vb false]), [some k165, some (ao 203 1 [vf 128 [] []])], []⟩
set_option maxRecDepth 100000 in
theorem v1911 : Valid Tryz.prog 100 c1911 := made_valid (orc := orcOf 100 []) (N := 1000000) (ms := []) okp (orcOf_ok noCtr) (by kernel_rfl)
def c1919 : Ctr := ⟨259, [va [vl 100 0 1 1, vl 101 0 4 4, vl 102 0 1 1, vL, vl 103 0 2 2, vl 104 0 1 1, vl 105 0 1 1, vl 106 0 1 1, vl 107 0 33 33]], gl0, [k42, k46, k25, k64, k65, .cells [vi 1, vi 0, vi 0] 45 3 true true, .cells [vi 1, vi 4] 47 2 true true, k167, .cells [vi 1] 3 1 true true, k2, k56, .cells [vq 0, vi 1] 56 2 true true], re (vp 112 0), [some k42, some k46, some k25, some k64, some k65, some (.cells [vi 1, vi 0, vi 0] 45 3 true true), some (.cells [vi 1, vi 4] 47 2 true true), some k167, some (.cells [vi 1] 3 1 true true), some k2, some k56, some (.cells [vq 0, vi 1] 56 2 true true)], [k66, .map [vi 1] [vl 117 0 1 1] [0] 1, k67, k68, k69, ao 3 1 [vi 1]]⟩
set_option maxRecDepth 100000 in
theorem v1919 : Valid Tryz.prog 100 c1919 := made_valid (orc := orcOf 100 []) (N := 1000000) (ms := [116, 113, 114, 115, 130, 118]) okp (orcOf_ok noCtr) (by kernel_rfl)
def c2023 : Ctr := ⟨214, [vl 100 0 36 36, vi 37, vf 215 [] [vp 101 0]], gl0, [k173, ao 203 1 [vf 128 [] []]], re (vt [vi 36, vb false]), [some k173, some (ao 203 1 [vf 128 [] []])], []⟩
set_option maxRecDepth 100000 in
theorem v2023 : Valid Tryz.prog 100 c2023 := made_valid (orc := orcOf 100 []) (N := 1000000) (ms := []) okp (orcOf_ok noCtr) (by kernel_rfl)
def c2031 : Ctr := ⟨259, [va [vl 100 0 1 1, vl 101 0 4 4, vl 102 0 1 1, vL, vl 103 0 2 2, vl 104 0 1 1, vl 105 0 1 1, vl 106 0 1 1, vl 107 0 37 37]], gl0, [k42, k46, k25, k64, k65, .cells [vi 1, vi 0, vi 0] 45 3 true true, .cells [vi 1, vi 4] 47 2 true true, k175, .cells [vi 1] 3 1 true true, k2, k56, .cells [vq 0, vi 1] 56 2 true true], re (vp 112 0), [some k42, some k46, some k25, some k64, some k65, some (.cells [vi 1, vi 0, vi 0] 45 3 true true), some (.cells [vi 1, vi 4] 47 2 true true), some k175, some (.cells [vi 1] 3 1 true true), some k2, some k56, some (.cells [vq 0, vi 1] 56 2 true true)], [k66, .map [vi 1] [vl 117 0 1 1] [0] 1, k67, k68, k69, ao 3 1 [vi 1]]⟩
set_option maxRecDepth 100000 in
theorem v2031 : Valid Tryz.prog 100 c2031 := made_valid (orc := orcOf 100 []) (N := 1000000) (ms := [116, 113, 114, 115, 130, 118]) okp (orcOf_ok noCtr) (by kernel_rfl)
def c2135 : Ctr := ⟨214, [vl 100 0 40 40, vi 41, vf 215 [] [vp 101 0]], gl0, [k181, ao 203 1 [vf 128 [] []]], re (vt [vi 40, vb false]), [some k181, some (ao 203 1 [vf 128 [] []])], []⟩
set_option maxRecDepth 100000 in
theorem v2135 : Valid Tryz.prog 100 c2135 := made_valid (orc := orcOf 100 []) (N := 1000000) (ms := []) okp (orcOf_ok noCtr) (by kernel_rfl)
def c2143 : Ctr := ⟨259, [va [vl 100 0 1 1, vl 101 0 4 4, vl 102 0 1 1, vL, vl 103 0 2 2, vl 104 0 1 1, vl 105 0 1 1, vl 106 0 1 1, vl 107 0 41 41]], gl0, [k42, k46, k25, k64, k65, .cells [vi 1, vi 0, vi 0] 45 3 true true, .cells [vi 1, vi 4] 47 2 true true, k183, .cells [vi 1] 3 1 true true, k2, k56, .cells [vq 0, vi 1] 56 2 true true], re (vp 112 0), [some k42, some k46, some k25, some k64, some k65, some (.cells [vi 1, vi 0, vi 0] 45 3 true true), some (.cells [vi 1, vi 4] 47 2 true true), some k183, some (.cells [vi 1] 3 1 true true), some k2, some k56, some (.cells [vq 0, vi 1] 56 2 true true)], [k66, .map [vi 1] [vl 117 0 1 1] [0] 1, k67, k68, k69, ao 3 1 [vi 1]]⟩
set_option maxRecDepth 100000 in
theorem v2143 : Valid Tryz.prog 100 c2143 := made_valid (orc := orcOf 100 []) (N := 1000000) (ms := [116, 113, 114, 115, 130, 118]) okp (orcOf_ok noCtr) (by kernel_rfl)
def c2247 : Ctr := ⟨214, [vl 100 0 44 44, vi 45, vf 215 [] [vp 101 0]], gl0, [k189, ao 203 1 [vf 128 [] []]], re (vt [vi 44, vb false]), [some k189, some (ao 203 1 [vf 128 [] []])], []⟩
set_option maxRecDepth 100000 in
theorem v2247 : Valid Tryz.prog 100 c2247 := made_valid (orc := orcOf 100 []) (N := 1000000) (ms := []) okp (orcOf_ok noCtr) (by kernel_rfl)
def c2255 : Ctr := ⟨259, [va [vl 100 0 1 1, vl 101 0 4 4, vl 102 0 1 1, vL, vl 103 0 2 2, vl 104 0 1 1, vl 105 0 1 1, vl 106 0 1 1, vl 107 0 45 45]], gl0, [k42, k46, k25, k64, k65, .cells [vi 1, vi 0, vi 0] 45 3 true true, .cells [vi 1, vi 4] 47 2 true true, k191, .cells [vi 1] 3 1 true true, k2, k56, .cells [vq 0, vi 1] 56 2 true true], re (vp 112 0), [some k42, some k46, some k25, some k64, some k65, some (.cells [vi 1, vi 0, vi 0] 45 3 true true), some (.cells [vi 1, vi 4] 47 2 true true), some k191, some (.cells [vi 1] 3 1 true true), some k2, some k56, some (.cells [vq 0, vi 1] 56 2 true true)], [k66, .map [vi 1] [vl 117 0 1 1] [0] 1, k67, k68, k69, ao 3 1 [vi 1]]⟩
set_option maxRecDepth 100000 in
theorem v2255 : Valid Tryz.prog 100 c2255 := made_valid (orc := orcOf 100 []) (N := 1000000) (ms := [116, 113, 114, 115, 130, 118]) okp (orcOf_ok noCtr) (by kernel_rfl)
def c2359 : Ctr := ⟨214, [vl 100 0 48 48, vi 49, vf 215 [] [vp 101 0]], gl0, [k197, ao 203 1 [vf 128 [] []]], re (vt [vi 48, vb false]), [some k197, some (ao 203 1 [vf 128 [] []])], []⟩
set_option maxRecDepth 100000 in
theorem v2359 : Valid Tryz.prog 100 c2359 := made_valid (orc := orcOf 100 []) (N := 1000000) (ms := []) okp (orcOf_ok noCtr) (by kernel_rfl)
def c2367 : Ctr := ⟨259, [va [vl 100 0 1 1, vl 101 0 4 4, vl 102 0 1 1, vL, vl 103 0 2 2, vl 104 0 1 1, vl 105 0 1 1, vl 106 0 1 1, vl 107 0 49 49]], gl0, [k42, k46, k25, k64, k65, .cells [vi 1, vi 0, vi 0] 45 3 true true, .cells [vi 1, vi 4] 47 2 true true, k199, .cells [vi 1] 3 1 true true, k2, k56, .cells [vq 0, vi 1] 56 2 true true], re (vp 112 0), [some k42, some k46, some k25, some k64, some k65, some (.cells [vi 1, vi 0, vi 0] 45 3 true true), some (.cells [vi 1, vi 4] 47 2 true true), some k199, some (.cells [vi 1] 3 1 true true), some k2, some k56, some (.cells [vq 0, vi 1] 56 2 true true)], [k66, .map [vi 1] [vl 117 0 1 1] [0] 1, k67, k68, k69, ao 3 1 [vi 1]]⟩
set_option maxRecDepth 100000 in
theorem v2367 : Valid Tryz.prog 100 c2367 := made_valid (orc := orcOf 100 []) (N := 1000000) (ms := [116, 113, 114, 115, 130, 118]) okp (orcOf_ok noCtr) (by kernel_rfl)
def c2471 : Ctr := ⟨214, [vl 100 0 52 52, vi 53, vf 215 [] [vp 101 0]], gl0, [k205, ao 203 1 [vf 128 [] []]], re (vt [vi 52, vb false]), [some k205, some (ao 203 1 [vf 128 [] []])], []⟩
set_option maxRecDepth 100000 in
theorem v2471 : Valid Tryz.prog 100 c2471 := made_valid (orc := orcOf 100 []) (N := 1000000) (ms := []) okp (orcOf_ok noCtr) (by kernel_rfl)
def c2479 : Ctr := ⟨259, [va [vl 100 0 1 1, vl 101 0 4 4, vl 102 0 1 1, vL, vl 103 0 2 2, vl 104 0 1 1, vl 105 0 1 1, vl 106 0 1 1, vl 107 0 53 53]], gl0, [k42, k46, k25, k64, k65, .cells [vi 1, vi 0, vi 0] 45 3 true true, .cells [vi 1, vi 4] 47 2 true true, k207, .cells [vi 1] 3 1 true true, k2, k56, .cells [vq 0, vi 1] 56 2 true true], re (vp 112 0), [some k42, some k46, some k25, some k64, some k65, some (.cells [vi 1, vi 0, vi 0] 45 3 true true), some (.cells [vi 1, vi 4] 47 2 true true), some k207, some (.cells [vi 1] 3 1 true true), some k2, some k56, some (.cells [vq 0, vi 1] 56 2 true true)], [k66, .map [vi 1] [vl 117 0 1 1] [0] 1, k67, k68, k69, ao 3 1 [vi 1]]⟩
set_option maxRecDepth 100000 in
theorem v2479 : Valid Tryz.prog 100 c2479 := made_valid (orc := orcOf 100 []) (N := 1000000) (ms := [116, 113, 114, 115, 130, 118]) okp (orcOf_ok noCtr) (by kernel_rfl)
def c2583 : Ctr := ⟨214, [vl 100 0 56 56, vi 57, vf 215 [] [vp 101 0]], gl0, [k213, ao 203 1 [vf 128 [] []]], re (vt [vi 56, vb false]), [some k213, some (ao 203 1 [vf 128 [] []])], []⟩
set_option maxRecDepth 100000 in
theorem v2583 : Valid Tryz.prog 100 c2583 := made_valid (orc := orcOf 100 []) (N := 1000000) (ms := []) okp (orcOf_ok noCtr) (by kernel_rfl)
def c2591 : Ctr := ⟨259, [va [vl 100 0 1 1, vl 101 0 4 4, vl 102 0 1 1, vL, vl 103 0 2 2, vl 104 0 1 1, vl 105 0 1 1, vl 106 0 1 1, vl 107 0 57 57]], gl0, [k42, k46, k25, k64, k65, .cells [vi 1, vi 0, vi 0] 45 3 true true, .cells [vi 1, vi 4] 47 2 true true, k215, .cells [vi 1] 3 1 true true, k2, k56, .cells [vq 0, vi 1] 56 2 true true], re (vp 112 0), [some k42, some k46, some k25, some k64, some k65, some (.cells [vi 1, vi 0, vi 0] 45 3 true true), some (.cells [vi 1, vi 4] 47 2 true true), some k215, some (.cells [vi 1] 3 1 true true), some k2, some k56, some (.cells [vq 0, vi 1] 56 2 true true)], [k66, .map [vi 1] [vl 117 0 1 1] [0] 1, k67, k68, k69, ao 3 1 [vi 1]]⟩
set_option maxRecDepth 100000 in
theorem v2591 : Valid Tryz.prog 100 c2591 := made_valid (orc := orcOf 100 []) (N := 1000000) (ms := [116, 113, 114, 115, 130, 118]) okp (orcOf_ok noCtr) (by kernel_rfl)
def c2695 : Ctr := ⟨214, [vl 100 0 60 60, vi 61, vf 215 [] [vp 101 0]], gl0, [k221, ao 203 1 [vf 128 [] []]], re (vt [vi 60, vb false]), [some k221, some (ao 203 1 [vf 128 [] []])], []⟩
set_option maxRecDepth 100000 in
theorem v2695 : Valid Tryz.prog 100 c2695 := made_valid (orc := orcOf 100 []) (N := 1000000) (ms := []) okp (orcOf_ok noCtr) (by kernel_rfl)
def c2703 : Ctr := ⟨259, [va [vl 100 0 1 1, vl 101 0 4 4, vl 102 0 1 1, vL, vl 103 0 2 2, vl 104 0 1 1, vl 105 0 1 1, vl 106 0 1 1, vl 107 0 61 61]], gl0, [k42, k46, k25, k64, k65, .cells [vi 1, vi 0, vi 0] 45 3 true true, .cells [vi 1, vi 4] 47 2 true true, k223, .cells [vi 1] 3 1 true true, k2, k56, .cells [vq 0, vi 1] 56 2 true true], re (vp 112 0), [some k42, some k46, some k25, some k64, some k65, some (.cells [vi 1, vi 0, vi 0] 45 3 true true), some (.cells [vi 1, vi 4] 47 2 true true), some k223, some (.cells [vi 1] 3 1 true true), some k2, some k56, some (.cells [vq 0, vi 1] 56 2 true true)], [k66, .map [vi 1] [vl 117 0 1 1] [0] 1, k67, k68, k69, ao 3 1 [vi 1]]⟩
set_option maxRecDepth 100000 in
theorem v2703 : Valid Tryz.prog 100 c2703 := made_valid (orc := orcOf 100 []) (N := 1000000) (ms := [116, 113, 114, 115, 130, 118]) okp (orcOf_ok noCtr) (by kernel_rfl)
def c2804 : Ctr := ⟨259, [k232], gl0, [k42, k46, k25, k64, k65, k231, .cells [vi 1, vi 4] 47 2 true true, k229, .cells [vi 1] 3 1 true true, k2, k56, .cells [vq 0, vi 1] 56 2 true true], re (vp 112 0), [some k42, some k46, some k25, some k64, some k65, some k231, some (.cells [vi 1, vi 4] 47 2 true true), some k229, some (.cells [vi 1] 3 1 true true), some k2, some k56, some (.cells [vq 0, vi 1] 56 2 true true)], [k66, .map [vi 1] [vl 117 0 1 1] [0] 1, k67, k68, k69, ao 3 1 [vi 1]]⟩
set_option maxRecDepth 100000 in
theorem v2804 : Valid Tryz.prog 100 c2804 := made_valid (orc := orcOf 100 []) (N := 1000000) (ms := [116, 113, 114, 115, 130, 118]) okp (orcOf_ok noCtr) (by kernel_rfl)
def c2879 : Ctr := ⟨259, [k240], gl0, [k42, k46, k25, k64, k65, k239, .cells [vi 1, vi 4] 47 2 true true, k229, .cells [vi 1] 3 1 true true, k2, k56, .cells [vq 0, vi 1] 56 2 true true], re (vp 112 0), [some k42, some k46, some k25, some k64, some k65, some k239, some (.cells [vi 1, vi 4] 47 2 true true), some k229, some (.cells [vi 1] 3 1 true true), some k2, some k56, some (.cells [vq 0, vi 1] 56 2 true true)], [k66, .map [vi 1] [vl 117 0 1 1] [0] 1, k67, k68, k69, ao 3 1 [vi 1]]⟩
set_option maxRecDepth 100000 in
theorem v2879 : Valid Tryz.prog 100 c2879 := made_valid (orc := orcOf 100 []) (N := 1000000) (ms := [116, 113, 114, 115, 130, 118]) okp (orcOf_ok noCtr) (by kernel_rfl)
def c2958 : Ctr := ⟨259, [va [vl 100 0 1 1, vl 101 0 4 4, vl 102 0 1 1, vL, vl 103 0 2 2, vl 104 0 1 1, vl 105 0 10 10, vl 106 0 1 1, vl 107 0 64 64]], gl0, [k42, k46, k25, k64, k65, k247, .cells [vi 1, vi 4] 47 2 true true, k229, .cells [vi 1] 3 1 true true, k2, k56, .cells [vq 0, vi 1] 56 2 true true], re (vp 112 0), [some k42, some k46, some k25, some k64, some k65, some k247, some (.cells [vi 1, vi 4] 47 2 true true), some k229, some (.cells [vi 1] 3 1 true true), some k2, some k56, some (.cells [vq 0, vi 1] 56 2 true true)], [k66, .map [vi 1] [vl 117 0 1 1] [0] 1, k67, k68, k69, ao 3 1 [vi 1]]⟩
set_option maxRecDepth 100000 in
theorem v2958 : Valid Tryz.prog 100 c2958 := made_valid (orc := orcOf 100 []) (N := 1000000) (ms := [116, 113, 114, 115, 130, 118]) okp (orcOf_ok noCtr) (by kernel_rfl)
def c2991 : Ctr := ⟨164, [vl 100 0 11 11, vi 12, vf 124 [] []], gl0, [k249], re (vt [vi 11, vb false]), [some k249], []⟩
set_option maxRecDepth 100000 in
theorem v2991 : Valid Tryz.prog 100 c2991 := made_valid (orc := orcOf 100 []) (N := 1000000) (ms := []) okp (orcOf_ok noCtr) (by kernel_rfl)
def c3038 : Ctr := ⟨259, [k257], gl0, [k42, k46, k25, k64, k65, k256, .cells [vi 1, vi 4] 47 2 true true, k229, .cells [vi 1] 3 1 true true, k2, k56, .cells [vq 0, vi 1] 56 2 true true], re (vp 112 0), [some k42, some k46, some k25, some k64, some k65, some k256, some (.cells [vi 1, vi 4] 47 2 true true), some k229, some (.cells [vi 1] 3 1 true true), some k2, some k56, some (.cells [vq 0, vi 1] 56 2 true true)], [k66, .map [vi 1] [vl 117 0 1 1] [0] 1, k67, k68, k69, ao 3 1 [vi 1]]⟩
set_option maxRecDepth 100000 in
theorem v3038 : Valid Tryz.prog 100 c3038 := made_valid (orc := orcOf 100 []) (N := 1000000) (ms := [116, 113, 114, 115, 130, 118]) okp (orcOf_ok noCtr) (by kernel_rfl)
def c3111 : Ctr := ⟨64, [vl 100 0 16 16, vl 100 0 16 16], gl0, [k262], re (vb true), [some k262], []⟩
set_option maxRecDepth 100000 in
theorem v3111 : Valid Tryz.prog 100 c3111 := made_valid (orc := orcOf 100 []) (N := 1000000) (ms := []) okp (orcOf_ok noCtr) (by kernel_rfl)
def c3218 : Ctr := ⟨259, [k274], gl0, [k42, k46, k30, k276, k83, k62, k262, .cells [vi 1, vi 4] 47 2 true true, k229, .cells [vi 1] 3 1 true true, k2, k56, .cells [vq 0, vi 1] 56 2 true true], re (vp 113 0), [some k42, some k46, some k30, some k276, some k83, some k62, some k262, some (.cells [vi 1, vi 4] 47 2 true true), some k229, some (.cells [vi 1] 3 1 true true), some k2, some k56, some (.cells [vq 0, vi 1] 56 2 true true)], [k268, .map [vi 1] [vl 118 0 3 3] [0] 1, k269, k270, k69, .cells [vi 1, vi 1, vi 1] 3 1 true true]⟩
set_option maxRecDepth 100000 in
theorem v3218 : Valid Tryz.prog 100 c3218 := made_valid (orc := orcOf 100 []) (N := 1000000) (ms := [117, 114, 115, 116, 137, 127]) okp (orcOf_ok noCtr) (by kernel_rfl)
def c3309 : Ctr := ⟨260, [vp 100 0], gl0, [k290, .map [vi 1] [vl 105 0 3 3] [0] 1, k291, k292, k289, .cells [vi 1, vi 1, vi 1] 3 1 true true, k2, k56, k2, .cells [vq 0, vi 1] 56 2 true true], re (vb false), [some k290, some (.map [vi 1] [vl 105 0 3 3] [0] 1), some k291, some k292, some k289, some (.cells [vi 1, vi 1, vi 1] 3 1 true true), some k2, some k56, some k2, some (.cells [vq 0, vi 1] 56 2 true true)], []⟩
set_option maxRecDepth 100000 in
theorem v3309 : Valid Tryz.prog 100 c3309 := made_valid (orc := orcOf 100 []) (N := 1000000) (ms := []) okp (orcOf_ok noCtr) (by kernel_rfl)
def c3412 : Ctr := ⟨259, [k319], gl0, [k42, k46, k30, k276, k320, k313, k262, .cells [vi 1, vi 4] 47 2 true true, k229, .cells [vi 1] 3 1 true true, k2, k56, k2, k317, .cells [vq 0, vi 1] 56 2 true true, k294], re (vp 116 0), [some k42, some k46, some k30, some k276, some k320, some k313, some k262, some (.cells [vi 1, vi 4] 47 2 true true), some k229, some (.cells [vi 1] 3 1 true true), some k2, some k56, some k2, some k317, some (.cells [vq 0, vi 1] 56 2 true true), some k294], [ao 370 4 [.map (some 117), .map (some 118), .map (some 119), vl 120 0 7 7], .map [vi 1] [vl 121 0 3 3] [0] 1, k321, k322, k323, .cells [vi 1, vi 1, vi 1] 3 1 true true]⟩
set_option maxRecDepth 100000 in
theorem v3412 : Valid Tryz.prog 100 c3412 := made_valid (orc := orcOf 100 []) (N := 1000000) (ms := [120, 117, 118, 119, 150, 130]) okp (orcOf_ok noCtr) (by kernel_rfl)
def c3458 : Ctr := ⟨229, [vp 100 0, vi 11], gl0, [k331, k42, k46, k36, k276, k332, k316, k262, .cells [vi 1, vi 4] 47 2 true true, k229, .cells [vi 1] 3 1 true true, k2, k56, k2, k317, .cells [vq 0, vi 1] 56 2 true true, k294], re (vb true), [some k331, some k42, some k46, some k36, some k276, some k332, some k316, some k262, some (.cells [vi 1, vi 4] 47 2 true true), some k229, some (.cells [vi 1] 3 1 true true), some k2, some k56, some k2, some k317, some (.cells [vq 0, vi 1] 56 2 true true), some k294], []⟩
set_option maxRecDepth 100000 in
theorem v3458 : Valid Tryz.prog 100 c3458 := made_valid (orc := orcOf 100 []) (N := 1000000) (ms := []) okp (orcOf_ok noCtr) (by kernel_rfl)
def c3482 : Ctr := ⟨290, [vp 100 0, va [vi 2, vi 10]], gl0, [k346, .map [vi 1] [vl 105 0 3 3] [0] 1, k325, k347, k345, .cells [vi 1, vi 1, vi 1] 3 1 true true, k2, k56, k2, k317, .cells [vq 0, vi 1] 56 2 true true, k294, k330], re (vl 113 0 16 16), [some k346, some (.map [vi 1] [vl 105 0 3 3] [0] 1), some k325, some k347, some k345, some (.cells [vi 1, vi 1, vi 1] 3 1 true true), some k2, some k56, some k2, some k317, some (.cells [vq 0, vi 1] 56 2 true true), some k294, some k330], [k309]⟩
set_option maxRecDepth 100000 in
theorem v3482 : Valid Tryz.prog 100 c3482 := made_valid (orc := orcOf 100 []) (N := 1000000) (ms := [161]) okp (orcOf_ok noCtr) (by kernel_rfl)
def c3520 : Ctr := ⟨231, [vp 100 0, va [vu 3, vi 11]], gl0, [k350, k42, k46, k36, k276, k332, k351, k262, .cells [vi 1, vi 4] 47 2 true true, k229, .cells [vi 1] 3 1 true true, k2, k56, k2, k317, .cells [vq 0, vi 1] 56 2 true true, k294, k330], re (vb true), [some k350, some k42, some k46, some k36, some k276, some k332, some k351, some k262, some (.cells [vi 1, vi 4] 47 2 true true), some k229, some (.cells [vi 1] 3 1 true true), some k2, some k56, some k2, some k317, some (.cells [vq 0, vi 1] 56 2 true true), some k294, some k330], []⟩
set_option maxRecDepth 100000 in
theorem v3520 : Valid Tryz.prog 100 c3520 := made_valid (orc := orcOf 100 []) (N := 1000000) (ms := []) okp (orcOf_ok noCtr) (by kernel_rfl)
def c3556 : Ctr := ⟨290, [vp 100 0, va [vi 2, vi 11]], gl0, [k361, .map [vi 1] [vl 105 0 3 3] [0] 1, k362, k363, k360, .cells [vi 1, vi 1, vi 1] 3 1 true true, k2, k56, k2, k317, k354, .cells [vq 0, vi 1] 56 2 true true, k294, k330], re (vl 114 0 16 16), [some k361, some (.map [vi 1] [vl 105 0 3 3] [0] 1), some k362, some k363, some k360, some (.cells [vi 1, vi 1, vi 1] 3 1 true true), some k2, some k56, some k2, some k317, some k354, some (.cells [vq 0, vi 1] 56 2 true true), some k294, some k330], [k349]⟩
set_option maxRecDepth 100000 in
theorem v3556 : Valid Tryz.prog 100 c3556 := made_valid (orc := orcOf 100 []) (N := 1000000) (ms := [162]) okp (orcOf_ok noCtr) (by kernel_rfl)
def c3579 : Ctr := ⟨284, [va [vq 0, vi 12], vp 100 0], gl0, [ao 360 1 [vf 283 [] []]], re (vb false), [some (ao 360 1 [vf 283 [] []])], []⟩
set_option maxRecDepth 100000 in
theorem v3579 : Valid Tryz.prog 100 c3579 := made_valid (orc := orcOf 100 []) (N := 1000000) (ms := []) okp (orcOf_ok noCtr) (by kernel_rfl)
def c3678 : Ctr := ⟨259, [k391], gl0, [k42, k46, k30, k276, k392, k387, k262, .cells [vi 1, vi 4] 47 2 true true, k229, .cells [vi 1] 3 1 true true, k2, k56, k2, k317, k354, k388, .cells [vq 0, vi 1] 56 2 true true, k294, k330, k367], re (vp 120 0), [some k42, some k46, some k30, some k276, some k392, some k387, some k262, some (.cells [vi 1, vi 4] 47 2 true true), some k229, some (.cells [vi 1] 3 1 true true), some k2, some k56, some k2, some k317, some k354, some k388, some (.cells [vq 0, vi 1] 56 2 true true), some k294, some k330, some k367], [k393, .map [vi 1] [vl 125 0 3 3] [0] 1, k394, k395, k396, .cells [vi 1, vi 1, vi 1] 3 1 true true]⟩
set_option maxRecDepth 100000 in
theorem v3678 : Valid Tryz.prog 100 c3678 := made_valid (orc := orcOf 100 []) (N := 1000000) (ms := [124, 121, 122, 123, 168, 134]) okp (orcOf_ok noCtr) (by kernel_rfl)
def c3690 : Ctr := ⟨290, [vp 100 0, va [vi 2, vi 10]], gl0, [k397, .map [vi 1] [vl 105 0 3 3] [0] 1, k398, k399, k396, .cells [vi 1, vi 1, vi 1] 3 1 true true, k2, k56, k2, k317, k354, k388, .cells [vq 0, vi 1] 56 2 true true, k294, k330, k367], re (vl 116 0 16 16), [some k397, some (.map [vi 1] [vl 105 0 3 3] [0] 1), some k398, some k399, some k396, some (.cells [vi 1, vi 1, vi 1] 3 1 true true), some k2, some k56, some k2, some k317, some k354, some k388, some (.cells [vq 0, vi 1] 56 2 true true), some k294, some k330, some k367], [k309]⟩
set_option maxRecDepth 100000 in
theorem v3690 : Valid Tryz.prog 100 c3690 := made_valid (orc := orcOf 100 []) (N := 1000000) (ms := [164]) okp (orcOf_ok noCtr) (by kernel_rfl)
def c3768 : Ctr := ⟨290, [vp 100 0, va [vi 2, vi 11]], gl0, [k418, .map [vi 1] [vl 105 0 3 3] [0] 1, k398, k419, k417, .cells [vi 1, vi 1, vi 1] 3 1 true true, k2, k56, k2, k317, k354, k388, .cells [vq 0, vi 1] 56 2 true true, k294, k330, k367, k403], re (vl 117 0 16 16), [some k418, some (.map [vi 1] [vl 105 0 3 3] [0] 1), some k398, some k419, some k417, some (.cells [vi 1, vi 1, vi 1] 3 1 true true), some k2, some k56, some k2, some k317, some k354, some k388, some (.cells [vq 0, vi 1] 56 2 true true), some k294, some k330, some k367, some k403], [k349]⟩
set_option maxRecDepth 100000 in
theorem v3768 : Valid Tryz.prog 100 c3768 := made_valid (orc := orcOf 100 []) (N := 1000000) (ms := [165]) okp (orcOf_ok noCtr) (by kernel_rfl)
def c3831 : Ctr := ⟨290, [vp 100 0, va [vi 2, vi 11]], gl0, [k418, .map [vi 1] [vl 105 0 3 3] [0] 1, k398, k419, k417, .cells [vi 1, vi 1, vi 1] 3 1 true true, k388, k56, k2, k317, k354, k388, .cells [vq 0, vi 1] 56 2 true true, k294, k330, k367, k403], re (vl 117 0 16 16), [some k418, some (.map [vi 1] [vl 105 0 3 3] [0] 1), some k398, some k419, some k417, some (.cells [vi 1, vi 1, vi 1] 3 1 true true), some k388, some k56, some k2, some k317, some k354, some k388, some (.cells [vq 0, vi 1] 56 2 true true), some k294, some k330, some k367, some k403], [k349]⟩
set_option maxRecDepth 100000 in
theorem v3831 : Valid Tryz.prog 100 c3831 := made_valid (orc := orcOf 100 []) (N := 1000000) (ms := [165]) okp (orcOf_ok noCtr) (by kernel_rfl)
def c3901 : Ctr := ⟨205, [vl 100 0 5 5, vi 13, vf 206 [] [vp 101 0]], gl0, [k424, ao 194 1 [vf 122 [] []], .cells [vq 0, vi 1] 56 2 true true, k294, k330, k367, k403], re (vt [vi 4, vb true]), [some k424, some (ao 194 1 [vf 122 [] []]), some (.cells [vq 0, vi 1] 56 2 true true), some k294, some k330, some k367, some k403], []⟩
set_option maxRecDepth 100000 in
theorem v3901 : Valid Tryz.prog 100 c3901 := made_valid (orc := orcOf 100 []) (N := 1000000) (ms := []) okp (orcOf_ok noCtr) (by kernel_rfl)
def c3921 : Ctr := ⟨259, [k413], gl0, [k42, k46, k30, k276, k392, k414, k262, .cells [vi 1, vi 4] 47 2 true true, k229, .cells [vi 1] 3 1 true true, k444, k56, k2, k317, k354, k388, .cells [vq 0, vi 1] 56 2 true true, k294, k330, k367, k403], re (vp 121 0), [some k42, some k46, some k30, some k276, some k392, some k414, some k262, some (.cells [vi 1, vi 4] 47 2 true true), some k229, some (.cells [vi 1] 3 1 true true), some k444, some k56, some k2, some k317, some k354, some k388, some (.cells [vq 0, vi 1] 56 2 true true), some k294, some k330, some k367, some k403], [k415, .map [vi 1] [vl 126 0 3 3] [0] 1, k394, k416, k417, .cells [vi 1, vi 1, vi 1] 3 1 true true]⟩
set_option maxRecDepth 100000 in
theorem v3921 : Valid Tryz.prog 100 c3921 := made_valid (orc := orcOf 100 []) (N := 1000000) (ms := [125, 122, 123, 124, 173, 135]) okp (orcOf_ok noCtr) (by kernel_rfl)
def c3926 : Ctr := ⟨290, [vp 100 0, va [vi 2, vi 12]], gl0, [k418, .map [vi 1] [vl 105 0 3 3] [0] 1, k398, k419, k417, .cells [vi 1, vi 1, vi 1] 3 1 true true, k444, k56, k2, k317, k354, k388, .cells [vq 0, vi 1] 56 2 true true, k294, k330, k367, k403], re (vl 117 0 16 16), [some k418, some (.map [vi 1] [vl 105 0 3 3] [0] 1), some k398, some k419, some k417, some (.cells [vi 1, vi 1, vi 1] 3 1 true true), some k444, some k56, some k2, some k317, some k354, some k388, some (.cells [vq 0, vi 1] 56 2 true true), some k294, some k330, some k367, some k403], [k384]⟩
set_option maxRecDepth 100000 in
theorem v3926 : Valid Tryz.prog 100 c3926 := made_valid (orc := orcOf 100 []) (N := 1000000) (ms := [165]) okp (orcOf_ok noCtr) (by kernel_rfl)
def c3997 : Ctr := ⟨60, [vl 100 0 6 6, vl 100 0 6 6, vf 61 [] []], gl0, [k423, k388, k56, k2, k317, k354, k388], re (vb true), [some k423, some k388, some k56, some k2, some k317, some k354, some k388], []⟩
set_option maxRecDepth 100000 in
theorem v3997 : Valid Tryz.prog 100 c3997 := made_valid (orc := orcOf 100 []) (N := 1000000) (ms := []) okp (orcOf_ok noCtr) (by kernel_rfl)
def c4002 : Ctr := ⟨109, [vl 100 0 16 16, vl 100 0 16 16], gl0, [k367], re (vb true), [some k367], []⟩
set_option maxRecDepth 100000 in
theorem v4002 : Valid Tryz.prog 100 c4002 := made_valid (orc := orcOf 100 []) (N := 1000000) (ms := []) okp (orcOf_ok noCtr) (by kernel_rfl)
def c4070 : Ctr := ⟨290, [vp 100 0, va [vi 2, vi 11]], gl0, [k397, .map [] [] [] 0, k459, k460, k458, k388, k56, k2, k317, k354, k388, .cells [vq 0, vi 1] 56 2 true true, k294, k330, k367, k403], re (vl 116 0 16 16), [some k397, some (.map [] [] [] 0), some k459, some k460, some k458, some k388, some k56, some k2, some k317, some k354, some k388, some (.cells [vq 0, vi 1] 56 2 true true), some k294, some k330, some k367, some k403], [k349]⟩
set_option maxRecDepth 100000 in
theorem v4070 : Valid Tryz.prog 100 c4070 := made_valid (orc := orcOf 100 []) (N := 1000000) (ms := [164]) okp (orcOf_ok noCtr) (by kernel_rfl)
end
end Go.Proofs.YtfhkbepjppcjmaaGreatDoor.configNames
