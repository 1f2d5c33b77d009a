/- What calls of the program do, told of the few objects that they see; printed by a program of mine from a run of the evaluator. -/
import Derived.Test.YtfhkbepjppcjmaaGreatDoorCXG
namespace Go.Proofs.YtfhkbepjppcjmaaGreatDoor.configNames
open Go Go.Abs
set_option linter.unusedVariables false
noncomputable section
def c6 : Ctr := ⟨73, [vL], gl0, [], re (vL), [], []⟩
set_option maxRecDepth 100000 in
theorem v6 : Valid Tryz.prog 100 c6 := made_valid (orc := orcOf 100 []) (N := 1000000) (ms := []) okp (orcOf_ok noCtr) (by kernel_rfl)
def c91 : Ctr := ⟨224, [vl 100 0 1 1, vi 1], gl0, [ao 3 1 [vi 1]], re (vl 101 0 1 1), [some (ao 3 1 [vi 1])], [ao 3 1 [vi 1]]⟩
set_option maxRecDepth 100000 in
theorem v91 : Valid Tryz.prog 100 c91 := made_valid (orc := orcOf 100 []) (N := 1000000) (ms := [101]) okp (orcOf_ok noCtr) (by kernel_rfl)
def c152 : Ctr := ⟨28, [vI 94 (va [vi 9]), vI 96 (vp 100 0)], gl0, [ao 94 1 [vi 0]], re (vb true), [some (ao 94 1 [vi 9])], []⟩
theorem v152 : Valid Tryz.prog 100 c152 := asHit.as_valid _
def c357 : Ctr := ⟨68, [vl 100 0 1 1], gl0, [k42], re (vi 0), [some k42], []⟩
set_option maxRecDepth 100000 in
theorem v357 : Valid Tryz.prog 100 c357 := made_valid (orc := orcOf 100 []) (N := 1000000) (ms := []) okp (orcOf_ok noCtr) (by kernel_rfl)
def c478 : Ctr := ⟨260, [vp 100 0], gl0, [k70, .map [vi 1] [vl 105 0 1 1] [0] 1, k71, k72, k69, ao 3 1 [vi 1], k2, k56, .cells [vq 0, vi 1] 56 2 true true], re (vb false), [some k70, some (.map [vi 1] [vl 105 0 1 1] [0] 1), some k71, some k72, some k69, some (ao 3 1 [vi 1]), some k2, some k56, some (.cells [vq 0, vi 1] 56 2 true true)], []⟩
set_option maxRecDepth 100000 in
theorem v478 : Valid Tryz.prog 100 c478 := made_valid (orc := orcOf 100 []) (N := 1000000) (ms := []) okp (orcOf_ok noCtr) (by kernel_rfl)
def c504 : Ctr := ⟨28, [vI 94 (va [vi 3]), vI 96 (vp 100 0)], gl0, [ao 94 1 [vi 0]], re (vb true), [some (ao 94 1 [vi 3])], []⟩
theorem v504 : Valid Tryz.prog 100 c504 := asHit.as_valid _
def c509 : Ctr := ⟨55, [vl 100 0 4 4, vl 100 0 4 4], gl0, [k46], re (vb true), [some k46], []⟩
set_option maxRecDepth 100000 in
theorem v509 : Valid Tryz.prog 100 c509 := made_valid (orc := orcOf 100 []) (N := 1000000) (ms := []) okp (orcOf_ok noCtr) (by kernel_rfl)
def c588 : Ctr := ⟨130, [vl 100 0 2 2], gl0, [k85], re (vb true), [some k85], []⟩
set_option maxRecDepth 100000 in
theorem v588 : Valid Tryz.prog 100 c588 := made_valid (orc := orcOf 100 []) (N := 1000000) (ms := []) okp (orcOf_ok noCtr) (by kernel_rfl)
def c1177 : Ctr := ⟨259, [k108], gl0, [k42, k46, k25, k64, k65, .cells [vi 1, vi 0, vi 0] 45 3 true true, .cells [vi 1, vi 4] 47 2 true true, .cells [vi 1, vi 2, vi 3] 3 1 true true, .cells [vi 1] 3 1 true true, k2, k56, .cells [vq 0, vi 1] 56 2 true true], re (vp 112 0), [some k42, some k46, some k25, some k64, some k65, some (.cells [vi 1, vi 0, vi 0] 45 3 true true), some (.cells [vi 1, vi 4] 47 2 true true), some (.cells [vi 1, vi 2, vi 3] 3 1 true true), some (.cells [vi 1] 3 1 true true), some k2, some k56, some (.cells [vq 0, vi 1] 56 2 true true)], [k66, .map [vi 1] [vl 117 0 1 1] [0] 1, k67, k68, k69, ao 3 1 [vi 1]]⟩
set_option maxRecDepth 100000 in
theorem v1177 : Valid Tryz.prog 100 c1177 := made_valid (orc := orcOf 100 []) (N := 1000000) (ms := [116, 113, 114, 115, 130, 118]) okp (orcOf_ok noCtr) (by kernel_rfl)
def c1257 : Ctr := ⟨259, [k116], gl0, [k42, k46, k25, k64, k65, .cells [vi 1, vi 0, vi 0] 45 3 true true, .cells [vi 1, vi 4] 47 2 true true, k115, .cells [vi 1] 3 1 true true, k2, k56, .cells [vq 0, vi 1] 56 2 true true], re (vp 112 0), [some k42, some k46, some k25, some k64, some k65, some (.cells [vi 1, vi 0, vi 0] 45 3 true true), some (.cells [vi 1, vi 4] 47 2 true true), some k115, some (.cells [vi 1] 3 1 true true), some k2, some k56, some (.cells [vq 0, vi 1] 56 2 true true)], [k66, .map [vi 1] [vl 117 0 1 1] [0] 1, k67, k68, k69, ao 3 1 [vi 1]]⟩
set_option maxRecDepth 100000 in
theorem v1257 : Valid Tryz.prog 100 c1257 := made_valid (orc := orcOf 100 []) (N := 1000000) (ms := [116, 113, 114, 115, 130, 118]) okp (orcOf_ok noCtr) (by kernel_rfl)
def c1296 : Ctr := ⟨168, [vl 100 0 8 8, vi 9, vf 128 [] []], gl0, [k118], re (vt [vi 8, vb false]), [some k118], []⟩
set_option maxRecDepth 100000 in
theorem v1296 : Valid Tryz.prog 100 c1296 := made_valid (orc := orcOf 100 []) (N := 1000000) (ms := []) okp (orcOf_ok noCtr) (by kernel_rfl)
def c1351 : Ctr := ⟨259, [k123], gl0, [k42, k46, k25, k64, k65, .cells [vi 1, vi 0, vi 0] 45 3 true true, .cells [vi 1, vi 4] 47 2 true true, k124, .cells [vi 1] 3 1 true true, k2, k56, .cells [vq 0, vi 1] 56 2 true true], re (vp 112 0), [some k42, some k46, some k25, some k64, some k65, some (.cells [vi 1, vi 0, vi 0] 45 3 true true), some (.cells [vi 1, vi 4] 47 2 true true), some k124, some (.cells [vi 1] 3 1 true true), some k2, some k56, some (.cells [vq 0, vi 1] 56 2 true true)], [k66, .map [vi 1] [vl 117 0 1 1] [0] 1, k67, k68, k69, ao 3 1 [vi 1]]⟩
set_option maxRecDepth 100000 in
theorem v1351 : Valid Tryz.prog 100 c1351 := made_valid (orc := orcOf 100 []) (N := 1000000) (ms := [116, 113, 114, 115, 130, 118]) okp (orcOf_ok noCtr) (by kernel_rfl)
def c1392 : Ctr := ⟨168, [vl 100 0 12 12, vi 13, vf 128 [] []], gl0, [k126], re (vt [vi 12, vb false]), [some k126], []⟩
set_option maxRecDepth 100000 in
theorem v1392 : Valid Tryz.prog 100 c1392 := made_valid (orc := orcOf 100 []) (N := 1000000) (ms := []) okp (orcOf_ok noCtr) (by kernel_rfl)
def c1447 : Ctr := ⟨259, [va [vl 100 0 1 1, vl 101 0 4 4, vl 102 0 1 1, vL, vl 103 0 2 2, vl 104 0 1 1, vl 105 0 1 1, vl 106 0 1 1, vl 107 0 15 15]], gl0, [k42, k46, k25, k64, k65, .cells [vi 1, vi 0, vi 0] 45 3 true true, .cells [vi 1, vi 4] 47 2 true true, k131, .cells [vi 1] 3 1 true true, k2, k56, .cells [vq 0, vi 1] 56 2 true true], re (vp 112 0), [some k42, some k46, some k25, some k64, some k65, some (.cells [vi 1, vi 0, vi 0] 45 3 true true), some (.cells [vi 1, vi 4] 47 2 true true), some k131, some (.cells [vi 1] 3 1 true true), some k2, some k56, some (.cells [vq 0, vi 1] 56 2 true true)], [k66, .map [vi 1] [vl 117 0 1 1] [0] 1, k67, k68, k69, ao 3 1 [vi 1]]⟩
set_option maxRecDepth 100000 in
theorem v1447 : Valid Tryz.prog 100 c1447 := made_valid (orc := orcOf 100 []) (N := 1000000) (ms := [116, 113, 114, 115, 130, 118]) okp (orcOf_ok noCtr) (by kernel_rfl)
def c1543 : Ctr := ⟨214, [vl 100 0 18 18, vi 19, vf 215 [] [vp 101 0]], gl0, [k137, ao 203 1 [vf 128 [] []]], re (vt [vi 18, vb false]), [some k137, some (ao 203 1 [vf 128 [] []])], []⟩
set_option maxRecDepth 100000 in
theorem v1543 : Valid Tryz.prog 100 c1543 := made_valid (orc := orcOf 100 []) (N := 1000000) (ms := []) okp (orcOf_ok noCtr) (by kernel_rfl)
def c1551 : Ctr := ⟨259, [va [vl 100 0 1 1, vl 101 0 4 4, vl 102 0 1 1, vL, vl 103 0 2 2, vl 104 0 1 1, vl 105 0 1 1, vl 106 0 1 1, vl 107 0 19 19]], gl0, [k42, k46, k25, k64, k65, .cells [vi 1, vi 0, vi 0] 45 3 true true, .cells [vi 1, vi 4] 47 2 true true, k139, .cells [vi 1] 3 1 true true, k2, k56, .cells [vq 0, vi 1] 56 2 true true], re (vp 112 0), [some k42, some k46, some k25, some k64, some k65, some (.cells [vi 1, vi 0, vi 0] 45 3 true true), some (.cells [vi 1, vi 4] 47 2 true true), some k139, some (.cells [vi 1] 3 1 true true), some k2, some k56, some (.cells [vq 0, vi 1] 56 2 true true)], [k66, .map [vi 1] [vl 117 0 1 1] [0] 1, k67, k68, k69, ao 3 1 [vi 1]]⟩
set_option maxRecDepth 100000 in
theorem v1551 : Valid Tryz.prog 100 c1551 := made_valid (orc := orcOf 100 []) (N := 1000000) (ms := [116, 113, 114, 115, 130, 118]) okp (orcOf_ok noCtr) (by kernel_rfl)
def c1647 : Ctr := ⟨214, [vl 100 0 22 22, vi 23, vf 215 [] [vp 101 0]], gl0, [k145, ao 203 1 [vf 128 [] []]], re (vt [vi 22, vb false]), [some k145, some (ao 203 1 [vf 128 [] []])], []⟩
set_option maxRecDepth 100000 in
theorem v1647 : Valid Tryz.prog 100 c1647 := made_valid (orc := orcOf 100 []) (N := 1000000) (ms := []) okp (orcOf_ok noCtr) (by kernel_rfl)
def c1655 : Ctr := ⟨259, [va [vl 100 0 1 1, vl 101 0 4 4, vl 102 0 1 1, vL, vl 103 0 2 2, vl 104 0 1 1, vl 105 0 1 1, vl 106 0 1 1, vl 107 0 23 23]], gl0, [k42, k46, k25, k64, k65, .cells [vi 1, vi 0, vi 0] 45 3 true true, .cells [vi 1, vi 4] 47 2 true true, k147, .cells [vi 1] 3 1 true true, k2, k56, .cells [vq 0, vi 1] 56 2 true true], re (vp 112 0), [some k42, some k46, some k25, some k64, some k65, some (.cells [vi 1, vi 0, vi 0] 45 3 true true), some (.cells [vi 1, vi 4] 47 2 true true), some k147, some (.cells [vi 1] 3 1 true true), some k2, some k56, some (.cells [vq 0, vi 1] 56 2 true true)], [k66, .map [vi 1] [vl 117 0 1 1] [0] 1, k67, k68, k69, ao 3 1 [vi 1]]⟩
set_option maxRecDepth 100000 in
theorem v1655 : Valid Tryz.prog 100 c1655 := made_valid (orc := orcOf 100 []) (N := 1000000) (ms := [116, 113, 114, 115, 130, 118]) okp (orcOf_ok noCtr) (by kernel_rfl)
def c1751 : Ctr := ⟨214, [vl 100 0 26 26, vi 27, vf 215 [] [vp 101 0]], gl0, [k153, ao 203 1 [vf 128 [] []]], re (vt [vi 26, vb false]), [some k153, some (ao 203 1 [vf 128 [] []])], []⟩
set_option maxRecDepth 100000 in
theorem v1751 : Valid Tryz.prog 100 c1751 := made_valid (orc := orcOf 100 []) (N := 1000000) (ms := []) okp (orcOf_ok noCtr) (by kernel_rfl)
def c1759 : Ctr := ⟨259, [va [vl 100 0 1 1, vl 101 0 4 4, vl 102 0 1 1, vL, vl 103 0 2 2, vl 104 0 1 1, vl 105 0 1 1, vl 106 0 1 1, vl 107 0 27 27]], gl0, [k42, k46, k25, k64, k65, .cells [vi 1, vi 0, vi 0] 45 3 true true, .cells [vi 1, vi 4] 47 2 true true, k155, .cells [vi 1] 3 1 true true, k2, k56, .cells [vq 0, vi 1] 56 2 true true], re (vp 112 0), [some k42, some k46, some k25, some k64, some k65, some (.cells [vi 1, vi 0, vi 0] 45 3 true true), some (.cells [vi 1, vi 4] 47 2 true true), some k155, some (.cells [vi 1] 3 1 true true), some k2, some k56, some (.cells [vq 0, vi 1] 56 2 true true)], [k66, .map [vi 1] [vl 117 0 1 1] [0] 1, k67, k68, k69, ao 3 1 [vi 1]]⟩
set_option maxRecDepth 100000 in
theorem v1759 : Valid Tryz.prog 100 c1759 := made_valid (orc := orcOf 100 []) (N := 1000000) (ms := [116, 113, 114, 115, 130, 118]) okp (orcOf_ok noCtr) (by kernel_rfl)
def c1855 : Ctr := ⟨214, [vl 100 0 30 30, vi 31, vf 215 [] [vp 101 0]], gl0, [k161, ao 203 1 [vf 128 [] []]], re (vt [vi 30, vb false]), [some k161, some (ao 203 1 [vf 128 [] []])], []⟩
set_option maxRecDepth 100000 in
theorem v1855 : Valid Tryz.prog 100 c1855 := made_valid (orc := orcOf 100 []) (N := 1000000) (ms := []) okp (orcOf_ok noCtr) (by kernel_rfl)
def c1863 : Ctr := ⟨259, [va [vl 100 0 1 1, vl 101 0 4 4, vl 102 0 1 1, vL, vl 103 0 2 2, vl 104 0 1 1, vl 105 0 1 1, vl 106 0 1 1, vl 107 0 31 31]], gl0, [k42, k46, k25, k64, k65, .cells [vi 1, vi 0, vi 0] 45 3 true true, .cells [vi 1, vi 4] 47 2 true true, k163, .cells [vi 1] 3 1 true true, k2, k56, .cells [vq 0, vi 1] 56 2 true true], re (vp 112 0), [some k42, some k46, some k25, some k64, some k65, some (.cells [vi 1, vi 0, vi 0] 45 3 true true), some (.cells [vi 1, vi 4] 47 2 true true), some k163, some (.cells [vi 1] 3 1 true true), some k2, some k56, some (.cells [vq 0, vi 1] 56 2 true true)], [k66, .map [vi 1] [vl 117 0 1 1] [0] 1, k67, k68, k69, ao 3 1 [vi 1]]⟩
set_option maxRecDepth 100000 in
theorem v1863 : Valid Tryz.prog 100 c1863 := made_valid (orc := orcOf 100 []) (N := 1000000) (ms := [116, 113, 114, 115, 130, 118]) okp (orcOf_ok noCtr) (by kernel_rfl)
def c1967 : Ctr := ⟨214, [vl 100 0 34 34, vi 35, vf 215 [] [vp 101 0]], gl0, [k169, ao 203 1 [vf 128 [] []]], re (vt [vi 34, vb false]), [some k169, some (ao 203 1 [vf 128 [] []])], []⟩
set_option maxRecDepth 100000 in
theorem v1967 : Valid Tryz.prog 100 c1967 := made_valid (orc := orcOf 100 []) (N := 1000000) (ms := []) okp (orcOf_ok noCtr) (by kernel_rfl)
def c1975 : Ctr := ⟨259, [va [vl 100 0 1 1, vl 101 0 4 4, vl 102 0 1 1, vL, vl 103 0 2 2, vl 104 0 1 1, vl 105 0 1 1, vl 106 0 1 1, vl 107 0 35 35]], gl0, [k42, k46, k25, k64, k65, .cells [vi 1, vi 0, vi 0] 45 3 true true, .cells [vi 1, vi 4] 47 2 true true, k171, .cells [vi 1] 3 1 true true, k2, k56, .cells [vq 0, vi 1] 56 2 true true], re (vp 112 0), [some k42, some k46, some k25, some k64, some k65, some (.cells [vi 1, vi 0, vi 0] 45 3 true true), some (.cells [vi 1, vi 4] 47 2 true true), some k171, some (.cells [vi 1] 3 1 true true), some k2, some k56, some (.cells [vq 0, vi 1] 56 2 true true)], [k66, .map [vi 1] [vl 117 0 1 1] [0] 1, k67, k68, k69, ao 3 1 [vi 1]]⟩
set_option maxRecDepth 100000 in
theorem v1975 : Valid Tryz.prog 100 c1975 := made_valid (orc := orcOf 100 []) (N := 1000000) (ms := [116, 113, 114, 115, 130, 118]) okp (orcOf_ok noCtr) (by kernel_rfl)
def c2079 : Ctr := ⟨214, [vl 100 0 38 38, vi 39, vf 215 [] [vp 101 0]], gl0, [k177, ao 203 1 [vf 128 [] []]], re (vt [vi 38, vb false]), [some k177, some (ao 203 1 [vf 128 [] []])], []⟩
set_option maxRecDepth 100000 in
theorem v2079 : Valid Tryz.prog 100 c2079 := made_valid (orc := orcOf 100 []) (N := 1000000) (ms := []) okp (orcOf_ok noCtr) (by kernel_rfl)
def c2087 : Ctr := ⟨259, [va [vl 100 0 1 1, vl 101 0 4 4, vl 102 0 1 1, vL, vl 103 0 2 2, vl 104 0 1 1, vl 105 0 1 1, vl 106 0 1 1, vl 107 0 39 39]], gl0, [k42, k46, k25, k64, k65, .cells [vi 1, vi 0, vi 0] 45 3 true true, .cells [vi 1, vi 4] 47 2 true true, k179, .cells [vi 1] 3 1 true true, k2, k56, .cells [vq 0, vi 1] 56 2 true true], re (vp 112 0), [some k42, some k46, some k25, some k64, some k65, some (.cells [vi 1, vi 0, vi 0] 45 3 true true), some (.cells [vi 1, vi 4] 47 2 true true), some k179, some (.cells [vi 1] 3 1 true true), some k2, some k56, some (.cells [vq 0, vi 1] 56 2 true true)], [k66, .map [vi 1] [vl 117 0 1 1] [0] 1, k67, k68, k69, ao 3 1 [vi 1]]⟩
set_option maxRecDepth 100000 in
theorem v2087 : Valid Tryz.prog 100 c2087 := made_valid (orc := orcOf 100 []) (N := 1000000) (ms := [116, 113, 114, 115, 130, 118]) okp (orcOf_ok noCtr) (by kernel_rfl)
def c2191 : Ctr := ⟨214, [vl 100 0 42 42, vi 43, vf 215 [] [vp 101 0]], gl0, [k185, ao 203 1 [vf 128 [] []]], re (vt [vi 42, vb false]), [some k185, some (ao 203 1 [vf 128 [] []])], []⟩
set_option maxRecDepth 100000 in
theorem v2191 : Valid Tryz.prog 100 c2191 := made_valid (orc := orcOf 100 []) (N := 1000000) (ms := []) okp (orcOf_ok noCtr) (by kernel_rfl)
def c2199 : Ctr := ⟨259, [va [vl 100 0 1 1, vl 101 0 4 4, vl 102 0 1 1, vL, vl 103 0 2 2, vl 104 0 1 1, vl 105 0 1 1, vl 106 0 1 1, vl 107 0 43 43]], gl0, [k42, k46, k25, k64, k65, .cells [vi 1, vi 0, vi 0] 45 3 true true, .cells [vi 1, vi 4] 47 2 true true, k187, .cells [vi 1] 3 1 true true, k2, k56, .cells [vq 0, vi 1] 56 2 true true], re (vp 112 0), [some k42, some k46, some k25, some k64, some k65, some (.cells [vi 1, vi 0, vi 0] 45 3 true true), some (.cells [vi 1, vi 4] 47 2 true true), some k187, some (.cells [vi 1] 3 1 true true), some k2, some k56, some (.cells [vq 0, vi 1] 56 2 true true)], [k66, .map [vi 1] [vl 117 0 1 1] [0] 1, k67, k68, k69, ao 3 1 [vi 1]]⟩
set_option maxRecDepth 100000 in
theorem v2199 : Valid Tryz.prog 100 c2199 := made_valid (orc := orcOf 100 []) (N := 1000000) (ms := [116, 113, 114, 115, 130, 118]) okp (orcOf_ok noCtr) (by kernel_rfl)
def c2303 : Ctr := ⟨214, [vl 100 0 46 46, vi 47, vf 215 [] [vp 101 0]], gl0, [k193, ao 203 1 [vf 128 [] []]], re (vt [vi 46, vb false]), [some k193, some (ao 203 1 [vf 128 [] []])], []⟩
set_option maxRecDepth 100000 in
theorem v2303 : Valid Tryz.prog 100 c2303 := made_valid (orc := orcOf 100 []) (N := 1000000) (ms := []) okp (orcOf_ok noCtr) (by kernel_rfl)
def c2311 : Ctr := ⟨259, [va [vl 100 0 1 1, vl 101 0 4 4, vl 102 0 1 1, vL, vl 103 0 2 2, vl 104 0 1 1, vl 105 0 1 1, vl 106 0 1 1, vl 107 0 47 47]], gl0, [k42, k46, k25, k64, k65, .cells [vi 1, vi 0, vi 0] 45 3 true true, .cells [vi 1, vi 4] 47 2 true true, k195, .cells [vi 1] 3 1 true true, k2, k56, .cells [vq 0, vi 1] 56 2 true true], re (vp 112 0), [some k42, some k46, some k25, some k64, some k65, some (.cells [vi 1, vi 0, vi 0] 45 3 true true), some (.cells [vi 1, vi 4] 47 2 true true), some k195, some (.cells [vi 1] 3 1 true true), some k2, some k56, some (.cells [vq 0, vi 1] 56 2 true true)], [k66, .map [vi 1] [vl 117 0 1 1] [0] 1, k67, k68, k69, ao 3 1 [vi 1]]⟩
set_option maxRecDepth 100000 in
theorem v2311 : Valid Tryz.prog 100 c2311 := made_valid (orc := orcOf 100 []) (N := 1000000) (ms := [116, 113, 114, 115, 130, 118]) okp (orcOf_ok noCtr) (by kernel_rfl)
def c2415 : Ctr := ⟨214, [vl 100 0 50 50, vi 51, vf 215 [] [vp 101 0]], gl0, [k201, ao 203 1 [vf 128 [] []]], re (vt [vi 50, vb false]), [some k201, some (ao 203 1 [vf 128 [] []])], []⟩
set_option maxRecDepth 100000 in
theorem v2415 : Valid Tryz.prog 100 c2415 := made_valid (orc := orcOf 100 []) (N := 1000000) (ms := []) okp (orcOf_ok noCtr) (by kernel_rfl)
def c2423 : Ctr := ⟨259, [va [vl 100 0 1 1, vl 101 0 4 4, vl 102 0 1 1, vL, vl 103 0 2 2, vl 104 0 1 1, vl 105 0 1 1, vl 106 0 1 1, vl 107 0 51 51]], gl0, [k42, k46, k25, k64, k65, .cells [vi 1, vi 0, vi 0] 45 3 true true, .cells [vi 1, vi 4] 47 2 true true, k203, .cells [vi 1] 3 1 true true, k2, k56, .cells [vq 0, vi 1] 56 2 true true], re (vp 112 0), [some k42, some k46, some k25, some k64, some k65, some (.cells [vi 1, vi 0, vi 0] 45 3 true true), some (.cells [vi 1, vi 4] 47 2 true true), some k203, some (.cells [vi 1] 3 1 true true), some k2, some k56, some (.cells [vq 0, vi 1] 56 2 true true)], [k66, .map [vi 1] [vl 117 0 1 1] [0] 1, k67, k68, k69, ao 3 1 [vi 1]]⟩
set_option maxRecDepth 100000 in
theorem v2423 : Valid Tryz.prog 100 c2423 := made_valid (orc := orcOf 100 []) (N := 1000000) (ms := [116, 113, 114, 115, 130, 118]) okp (orcOf_ok noCtr) (by kernel_rfl)
def c2527 : Ctr := ⟨214, [vl 100 0 54 54, vi 55, vf 215 [] [vp 101 0]], gl0, [k209, ao 203 1 [vf 128 [] []]], re (vt [vi 54, vb false]), [some k209, some (ao 203 1 [vf 128 [] []])], []⟩
set_option maxRecDepth 100000 in
theorem v2527 : Valid Tryz.prog 100 c2527 := made_valid (orc := orcOf 100 []) (N := 1000000) (ms := []) okp (orcOf_ok noCtr) (by kernel_rfl)
def c2535 : Ctr := ⟨259, [va [vl 100 0 1 1, vl 101 0 4 4, vl 102 0 1 1, vL, vl 103 0 2 2, vl 104 0 1 1, vl 105 0 1 1, vl 106 0 1 1, vl 107 0 55 55]], gl0, [k42, k46, k25, k64, k65, .cells [vi 1, vi 0, vi 0] 45 3 true true, .cells [vi 1, vi 4] 47 2 true true, k211, .cells [vi 1] 3 1 true true, k2, k56, .cells [vq 0, vi 1] 56 2 true true], re (vp 112 0), [some k42, some k46, some k25, some k64, some k65, some (.cells [vi 1, vi 0, vi 0] 45 3 true true), some (.cells [vi 1, vi 4] 47 2 true true), some k211, some (.cells [vi 1] 3 1 true true), some k2, some k56, some (.cells [vq 0, vi 1] 56 2 true true)], [k66, .map [vi 1] [vl 117 0 1 1] [0] 1, k67, k68, k69, ao 3 1 [vi 1]]⟩
set_option maxRecDepth 100000 in
theorem v2535 : Valid Tryz.prog 100 c2535 := made_valid (orc := orcOf 100 []) (N := 1000000) (ms := [116, 113, 114, 115, 130, 118]) okp (orcOf_ok noCtr) (by kernel_rfl)
def c2639 : Ctr := ⟨214, [vl 100 0 58 58, vi 59, vf 215 [] [vp 101 0]], gl0, [k217, ao 203 1 [vf 128 [] []]], re (vt [vi 58, vb false]), [some k217, some (ao 203 1 [vf 128 [] []])], []⟩
set_option maxRecDepth 100000 in
theorem v2639 : Valid Tryz.prog 100 c2639 := made_valid (orc := orcOf 100 []) (N := 1000000) (ms := []) okp (orcOf_ok noCtr) (by kernel_rfl)
def c2647 : Ctr := ⟨259, [va [vl 100 0 1 1, vl 101 0 4 4, vl 102 0 1 1, vL, vl 103 0 2 2, vl 104 0 1 1, vl 105 0 1 1, vl 106 0 1 1, vl 107 0 59 59]], gl0, [k42, k46, k25, k64, k65, .cells [vi 1, vi 0, vi 0] 45 3 true true, .cells [vi 1, vi 4] 47 2 true true, k219, .cells [vi 1] 3 1 true true, k2, k56, .cells [vq 0, vi 1] 56 2 true true], re (vp 112 0), [some k42, some k46, some k25, some k64, some k65, some (.cells [vi 1, vi 0, vi 0] 45 3 true true), some (.cells [vi 1, vi 4] 47 2 true true), some k219, some (.cells [vi 1] 3 1 true true), some k2, some k56, some (.cells [vq 0, vi 1] 56 2 true true)], [k66, .map [vi 1] [vl 117 0 1 1] [0] 1, k67, k68, k69, ao 3 1 [vi 1]]⟩
set_option maxRecDepth 100000 in
theorem v2647 : Valid Tryz.prog 100 c2647 := made_valid (orc := orcOf 100 []) (N := 1000000) (ms := [116, 113, 114, 115, 130, 118]) okp (orcOf_ok noCtr) (by kernel_rfl)
def c2751 : Ctr := ⟨214, [vl 100 0 62 62, vi 63, vf 215 [] [vp 101 0]], gl0, [k225, ao 203 1 [vf 128 [] []]], re (vt [vi 62, vb false]), [some k225, some (ao 203 1 [vf 128 [] []])], []⟩
set_option maxRecDepth 100000 in
theorem v2751 : Valid Tryz.prog 100 c2751 := made_valid (orc := orcOf 100 []) (N := 1000000) (ms := []) okp (orcOf_ok noCtr) (by kernel_rfl)
def c2759 : Ctr := ⟨259, [va [vl 100 0 1 1, vl 101 0 4 4, vl 102 0 1 1, vL, vl 103 0 2 2, vl 104 0 1 1, vl 105 0 1 1, vl 106 0 1 1, vl 107 0 63 63]], gl0, [k42, k46, k25, k64, k65, .cells [vi 1, vi 0, vi 0] 45 3 true true, .cells [vi 1, vi 4] 47 2 true true, k227, .cells [vi 1] 3 1 true true, k2, k56, .cells [vq 0, vi 1] 56 2 true true], re (vp 112 0), [some k42, some k46, some k25, some k64, some k65, some (.cells [vi 1, vi 0, vi 0] 45 3 true true), some (.cells [vi 1, vi 4] 47 2 true true), some k227, some (.cells [vi 1] 3 1 true true), some k2, some k56, some (.cells [vq 0, vi 1] 56 2 true true)], [k66, .map [vi 1] [vl 117 0 1 1] [0] 1, k67, k68, k69, ao 3 1 [vi 1]]⟩
set_option maxRecDepth 100000 in
theorem v2759 : Valid Tryz.prog 100 c2759 := made_valid (orc := orcOf 100 []) (N := 1000000) (ms := [116, 113, 114, 115, 130, 118]) okp (orcOf_ok noCtr) (by kernel_rfl)
def c2841 : Ctr := ⟨259, [k236], gl0, [k42, k46, k25, k64, k65, k235, .cells [vi 1, vi 4] 47 2 true true, k229, .cells [vi 1] 3 1 true true, k2, k56, .cells [vq 0, vi 1] 56 2 true true], re (vp 112 0), [some k42, some k46, some k25, some k64, some k65, some k235, some (.cells [vi 1, vi 4] 47 2 true true), some k229, some (.cells [vi 1] 3 1 true true), some k2, some k56, some (.cells [vq 0, vi 1] 56 2 true true)], [k66, .map [vi 1] [vl 117 0 1 1] [0] 1, k67, k68, k69, ao 3 1 [vi 1]]⟩
set_option maxRecDepth 100000 in
theorem v2841 : Valid Tryz.prog 100 c2841 := made_valid (orc := orcOf 100 []) (N := 1000000) (ms := [116, 113, 114, 115, 130, 118]) okp (orcOf_ok noCtr) (by kernel_rfl)
def c2918 : Ctr := ⟨259, [va [vl 100 0 1 1, vl 101 0 4 4, vl 102 0 1 1, vL, vl 103 0 2 2, vl 104 0 1 1, vl 105 0 8 8, vl 106 0 1 1, vl 107 0 64 64]], gl0, [k42, k46, k25, k64, k65, k243, .cells [vi 1, vi 4] 47 2 true true, k229, .cells [vi 1] 3 1 true true, k2, k56, .cells [vq 0, vi 1] 56 2 true true], re (vp 112 0), [some k42, some k46, some k25, some k64, some k65, some k243, some (.cells [vi 1, vi 4] 47 2 true true), some k229, some (.cells [vi 1] 3 1 true true), some k2, some k56, some (.cells [vq 0, vi 1] 56 2 true true)], [k66, .map [vi 1] [vl 117 0 1 1] [0] 1, k67, k68, k69, ao 3 1 [vi 1]]⟩
set_option maxRecDepth 100000 in
theorem v2918 : Valid Tryz.prog 100 c2918 := made_valid (orc := orcOf 100 []) (N := 1000000) (ms := [116, 113, 114, 115, 130, 118]) okp (orcOf_ok noCtr) (by kernel_rfl)
def c2931 : Ctr := ⟨164, [vl 100 0 8 8, vi 9, vf 124 [] []], gl0, [k243], re (vt [vi 8, vb false]), [some k243], []⟩
set_option maxRecDepth 100000 in
theorem v2931 : Valid Tryz.prog 100 c2931 := made_valid (orc := orcOf 100 []) (N := 1000000) (ms := []) okp (orcOf_ok noCtr) (by kernel_rfl)
def c2998 : Ctr := ⟨259, [va [vl 100 0 1 1, vl 101 0 4 4, vl 102 0 1 1, vL, vl 103 0 2 2, vl 104 0 1 1, vl 105 0 12 12, vl 106 0 1 1, vl 107 0 64 64]], gl0, [k42, k46, k25, k64, k65, k251, .cells [vi 1, vi 4] 47 2 true true, k229, .cells [vi 1] 3 1 true true, k2, k56, .cells [vq 0, vi 1] 56 2 true true], re (vp 112 0), [some k42, some k46, some k25, some k64, some k65, some k251, some (.cells [vi 1, vi 4] 47 2 true true), some k229, some (.cells [vi 1] 3 1 true true), some k2, some k56, some (.cells [vq 0, vi 1] 56 2 true true)], [k66, .map [vi 1] [vl 117 0 1 1] [0] 1, k67, k68, k69, ao 3 1 [vi 1]]⟩
set_option maxRecDepth 100000 in
theorem v2998 : Valid Tryz.prog 100 c2998 := made_valid (orc := orcOf 100 []) (N := 1000000) (ms := [116, 113, 114, 115, 130, 118]) okp (orcOf_ok noCtr) (by kernel_rfl)
def c3011 : Ctr := ⟨164, [vl 100 0 12 12, vi 13, vf 124 [] []], gl0, [k251], re (vt [vi 12, vb false]), [some k251], []⟩
set_option maxRecDepth 100000 in
theorem v3011 : Valid Tryz.prog 100 c3011 := made_valid (orc := orcOf 100 []) (N := 1000000) (ms := []) okp (orcOf_ok noCtr) (by kernel_rfl)
def c3071 : Ctr := ⟨208, [vl 100 0 15 15, vi 16, vf 209 [] [vp 101 0]], gl0, [k259, ao 197 1 [vf 124 [] []]], re (vt [vi 15, vb false]), [some k259, some (ao 197 1 [vf 124 [] []])], []⟩
set_option maxRecDepth 100000 in
theorem v3071 : Valid Tryz.prog 100 c3071 := made_valid (orc := orcOf 100 []) (N := 1000000) (ms := []) okp (orcOf_ok noCtr) (by kernel_rfl)
def c3079 : Ctr := ⟨259, [va [vl 100 0 1 1, vl 101 0 4 4, vl 102 0 1 1, vL, vl 103 0 2 2, vl 104 0 1 1, vl 105 0 16 16, vl 106 0 1 1, vl 107 0 64 64]], gl0, [k42, k46, k25, k64, k65, k262, .cells [vi 1, vi 4] 47 2 true true, k229, .cells [vi 1] 3 1 true true, k2, k56, .cells [vq 0, vi 1] 56 2 true true], re (vp 112 0), [some k42, some k46, some k25, some k64, some k65, some k262, some (.cells [vi 1, vi 4] 47 2 true true), some k229, some (.cells [vi 1] 3 1 true true), some k2, some k56, some (.cells [vq 0, vi 1] 56 2 true true)], [k66, .map [vi 1] [vl 117 0 1 1] [0] 1, k67, k68, k69, ao 3 1 [vi 1]]⟩
set_option maxRecDepth 100000 in
theorem v3079 : Valid Tryz.prog 100 c3079 := made_valid (orc := orcOf 100 []) (N := 1000000) (ms := [116, 113, 114, 115, 130, 118]) okp (orcOf_ok noCtr) (by kernel_rfl)
def c3112 : Ctr := ⟨66, [vl 100 0 64 64, vl 100 0 64 64], gl0, [k229], re (vb true), [some k229], []⟩
set_option maxRecDepth 100000 in
theorem v3112 : Valid Tryz.prog 100 c3112 := made_valid (orc := orcOf 100 []) (N := 1000000) (ms := []) okp (orcOf_ok noCtr) (by kernel_rfl)
def c3182 : Ctr := ⟨259, [k274], gl0, [k42, k46, k30, k272, k83, k62, k262, .cells [vi 1, vi 4] 47 2 true true, k229, .cells [vi 1] 3 1 true true, k2, k56, .cells [vq 0, vi 1] 56 2 true true], re (vp 113 0), [some k42, some k46, some k30, some k272, some k83, some k62, some k262, some (.cells [vi 1, vi 4] 47 2 true true), some k229, some (.cells [vi 1] 3 1 true true), some k2, some k56, some (.cells [vq 0, vi 1] 56 2 true true)], [k268, .map [vi 1] [vl 118 0 3 3] [0] 1, k269, k270, k69, .cells [vi 1, vi 1, vi 1] 3 1 true true]⟩
set_option maxRecDepth 100000 in
theorem v3182 : Valid Tryz.prog 100 c3182 := made_valid (orc := orcOf 100 []) (N := 1000000) (ms := [117, 114, 115, 116, 137, 127]) okp (orcOf_ok noCtr) (by kernel_rfl)
def c3199 : Ctr := ⟨261, [vp 100 0, va [vi 0, vi 1]], gl0, [k70, .map [vi 1] [vl 105 0 3 3] [0] 1, k71, k72, k69, .cells [vi 1, vi 1, vi 1] 3 1 true true, k2, k56, .cells [vq 0, vi 1] 56 2 true true], re (vi 2), [some k70, some (.map [vi 1] [vl 105 0 3 3] [0] 1), some k71, some k72, some k69, some (.cells [vi 1, vi 1, vi 1] 3 1 true true), some k2, some k56, some (.cells [vq 0, vi 1] 56 2 true true)], []⟩
set_option maxRecDepth 100000 in
theorem v3199 : Valid Tryz.prog 100 c3199 := made_valid (orc := orcOf 100 []) (N := 1000000) (ms := []) okp (orcOf_ok noCtr) (by kernel_rfl)
def c3323 : Ctr := ⟨284, [va [vq 0, vi 10], vp 100 0], gl0, [ao 360 1 [vf 283 [] []]], re (vb false), [some (ao 360 1 [vf 283 [] []])], []⟩
set_option maxRecDepth 100000 in
theorem v3323 : Valid Tryz.prog 100 c3323 := made_valid (orc := orcOf 100 []) (N := 1000000) (ms := []) okp (orcOf_ok noCtr) (by kernel_rfl)
def c3361 : Ctr := ⟨290, [vp 100 0, va [vi 2, vi 10]], gl0, [k307, .map [vi 1] [vl 105 0 3 3] [0] 1, k291, k308, k306, .cells [vi 1, vi 1, vi 1] 3 1 true true, k2, k56, k2, .cells [vq 0, vi 1] 56 2 true true, k294], re (vl 111 0 16 16), [some k307, some (.map [vi 1] [vl 105 0 3 3] [0] 1), some k291, some k308, some k306, some (.cells [vi 1, vi 1, vi 1] 3 1 true true), some k2, some k56, some k2, some (.cells [vq 0, vi 1] 56 2 true true), some k294], [k309]⟩
set_option maxRecDepth 100000 in
theorem v3361 : Valid Tryz.prog 100 c3361 := made_valid (orc := orcOf 100 []) (N := 1000000) (ms := [159]) okp (orcOf_ok noCtr) (by kernel_rfl)
def c3470 : Ctr := ⟨259, [k342], gl0, [k42, k46, k30, k276, k320, k343, k262, .cells [vi 1, vi 4] 47 2 true true, k229, .cells [vi 1] 3 1 true true, k2, k56, k2, k317, .cells [vq 0, vi 1] 56 2 true true, k294, k330], re (vp 117 0), [some k42, some k46, some k30, some k276, some k320, some k343, some k262, some (.cells [vi 1, vi 4] 47 2 true true), some k229, some (.cells [vi 1] 3 1 true true), some k2, some k56, some k2, some k317, some (.cells [vq 0, vi 1] 56 2 true true), some k294, some k330], [ao 370 4 [.map (some 118), .map (some 119), .map (some 120), vl 121 0 8 8], .map [vi 1] [vl 122 0 3 3] [0] 1, k321, k344, k345, .cells [vi 1, vi 1, vi 1] 3 1 true true]⟩
set_option maxRecDepth 100000 in
theorem v3470 : Valid Tryz.prog 100 c3470 := made_valid (orc := orcOf 100 []) (N := 1000000) (ms := [121, 118, 119, 120, 155, 131]) okp (orcOf_ok noCtr) (by kernel_rfl)
def c3490 : Ctr := ⟨290, [vp 100 0, va [vi 2, vi 11]], gl0, [k346, .map [vi 1] [vl 105 0 3 3] [0] 1, k325, k347, k345, .cells [vi 1, vi 1, vi 1] 3 1 true true, k2, k56, k2, k317, .cells [vq 0, vi 1] 56 2 true true, k294, k330], re (vl 113 0 16 16), [some k346, some (.map [vi 1] [vl 105 0 3 3] [0] 1), some k325, some k347, some k345, some (.cells [vi 1, vi 1, vi 1] 3 1 true true), some k2, some k56, some k2, some k317, some (.cells [vq 0, vi 1] 56 2 true true), some k294, some k330], [k349]⟩
set_option maxRecDepth 100000 in
theorem v3490 : Valid Tryz.prog 100 c3490 := made_valid (orc := orcOf 100 []) (N := 1000000) (ms := [161]) okp (orcOf_ok noCtr) (by kernel_rfl)
def c3604 : Ctr := ⟨259, [k377], gl0, [k42, k46, k30, k276, k357, k378, k262, .cells [vi 1, vi 4] 47 2 true true, k229, .cells [vi 1] 3 1 true true, k2, k56, k2, k317, k354, .cells [vq 0, vi 1] 56 2 true true, k294, k330, k367], re (vp 119 0), [some k42, some k46, some k30, some k276, some k357, some k378, some k262, some (.cells [vi 1, vi 4] 47 2 true true), some k229, some (.cells [vi 1] 3 1 true true), some k2, some k56, some k2, some k317, some k354, some (.cells [vq 0, vi 1] 56 2 true true), some k294, some k330, some k367], [ao 370 4 [.map (some 120), .map (some 121), .map (some 122), vl 123 0 10 10], .map [vi 1] [vl 124 0 3 3] [0] 1, k358, k379, k380, .cells [vi 1, vi 1, vi 1] 3 1 true true]⟩
set_option maxRecDepth 100000 in
theorem v3604 : Valid Tryz.prog 100 c3604 := made_valid (orc := orcOf 100 []) (N := 1000000) (ms := [123, 120, 121, 122, 164, 133]) okp (orcOf_ok noCtr) (by kernel_rfl)
def c3621 : Ctr := ⟨290, [vp 100 0, va [vi 2, vi 11]], gl0, [k381, .map [vi 1] [vl 105 0 3 3] [0] 1, k362, k382, k380, .cells [vi 1, vi 1, vi 1] 3 1 true true, k2, k56, k2, k317, k354, .cells [vq 0, vi 1] 56 2 true true, k294, k330, k367], re (vl 115 0 16 16), [some k381, some (.map [vi 1] [vl 105 0 3 3] [0] 1), some k362, some k382, some k380, some (.cells [vi 1, vi 1, vi 1] 3 1 true true), some k2, some k56, some k2, some k317, some k354, some (.cells [vq 0, vi 1] 56 2 true true), some k294, some k330, some k367], [k349]⟩
set_option maxRecDepth 100000 in
theorem v3621 : Valid Tryz.prog 100 c3621 := made_valid (orc := orcOf 100 []) (N := 1000000) (ms := [163]) okp (orcOf_ok noCtr) (by kernel_rfl)
def c3700 : Ctr := ⟨290, [vp 100 0, va [vi 2, vi 12]], gl0, [k397, .map [vi 1] [vl 105 0 3 3] [0] 1, k398, k399, k396, .cells [vi 1, vi 1, vi 1] 3 1 true true, k2, k56, k2, k317, k354, k388, .cells [vq 0, vi 1] 56 2 true true, k294, k330, k367], re (vl 116 0 16 16), [some k397, some (.map [vi 1] [vl 105 0 3 3] [0] 1), some k398, some k399, some k396, some (.cells [vi 1, vi 1, vi 1] 3 1 true true), some k2, some k56, some k2, some k317, some k354, some k388, some (.cells [vq 0, vi 1] 56 2 true true), some k294, some k330, some k367], [k384]⟩
set_option maxRecDepth 100000 in
theorem v3700 : Valid Tryz.prog 100 c3700 := made_valid (orc := orcOf 100 []) (N := 1000000) (ms := [164]) okp (orcOf_ok noCtr) (by kernel_rfl)
def c3724 : Ctr := ⟨284, [va [vq 0, vi 13], vp 100 0], gl0, [ao 360 1 [vf 283 [] []]], re (vb false), [some (ao 360 1 [vf 283 [] []])], []⟩
set_option maxRecDepth 100000 in
theorem v3724 : Valid Tryz.prog 100 c3724 := made_valid (orc := orcOf 100 []) (N := 1000000) (ms := []) okp (orcOf_ok noCtr) (by kernel_rfl)
def c3783 : Ctr := ⟨290, [vp 100 0, va [vi 2, vi 13]], gl0, [k418, .map [vi 1] [vl 105 0 3 3] [0] 1, k398, k419, k417, .cells [vi 1, vi 1, vi 1] 3 1 true true, k2, k56, k2, k317, k354, k388, .cells [vq 0, vi 1] 56 2 true true, k294, k330, k367, k403], re (vl 117 0 16 16), [some k418, some (.map [vi 1] [vl 105 0 3 3] [0] 1), some k398, some k419, some k417, some (.cells [vi 1, vi 1, vi 1] 3 1 true true), some k2, some k56, some k2, some k317, some k354, some k388, some (.cells [vq 0, vi 1] 56 2 true true), some k294, some k330, some k367, some k403], [k421]⟩
set_option maxRecDepth 100000 in
theorem v3783 : Valid Tryz.prog 100 c3783 := made_valid (orc := orcOf 100 []) (N := 1000000) (ms := [165]) okp (orcOf_ok noCtr) (by kernel_rfl)
def c3806 : Ctr := ⟨205, [vl 100 0 5 5, vi 12, vf 206 [] [vp 101 0]], gl0, [k424, ao 194 1 [vf 122 [] []], .cells [vq 0, vi 1] 56 2 true true, k294, k330, k367, k403], re (vt [vi 3, vb true]), [some k424, some (ao 194 1 [vf 122 [] []]), some (.cells [vq 0, vi 1] 56 2 true true), some k294, some k330, some k367, some k403], []⟩
set_option maxRecDepth 100000 in
theorem v3806 : Valid Tryz.prog 100 c3806 := made_valid (orc := orcOf 100 []) (N := 1000000) (ms := []) okp (orcOf_ok noCtr) (by kernel_rfl)
def c3862 : Ctr := ⟨290, [vp 100 0, va [vi 2, vi 13]], gl0, [k418, .map [vi 1] [vl 105 0 3 3] [0] 1, k398, k419, k417, .cells [vi 1, vi 1, vi 1] 3 1 true true, k388, k56, k2, k317, k354, k388, .cells [vq 0, vi 1] 56 2 true true, k294, k330, k367, k403], re (vl 117 0 16 16), [some k418, some (.map [vi 1] [vl 105 0 3 3] [0] 1), some k398, some k419, some k417, some (.cells [vi 1, vi 1, vi 1] 3 1 true true), some k388, some k56, some k2, some k317, some k354, some k388, some (.cells [vq 0, vi 1] 56 2 true true), some k294, some k330, some k367, some k403], [k421]⟩
set_option maxRecDepth 100000 in
theorem v3862 : Valid Tryz.prog 100 c3862 := made_valid (orc := orcOf 100 []) (N := 1000000) (ms := [165]) okp (orcOf_ok noCtr) (by kernel_rfl)
def c3930 : Ctr := ⟨290, [vp 100 0, va [vi 2, vi 10]], gl0, [k418, .map [vi 1] [vl 105 0 3 3] [0] 1, k398, k419, k417, .cells [vi 1, vi 1, vi 1] 3 1 true true, k444, k56, k2, k317, k354, k388, .cells [vq 0, vi 1] 56 2 true true, k294, k330, k367, k403], re (vl 117 0 16 16), [some k418, some (.map [vi 1] [vl 105 0 3 3] [0] 1), some k398, some k419, some k417, some (.cells [vi 1, vi 1, vi 1] 3 1 true true), some k444, some k56, some k2, some k317, some k354, some k388, some (.cells [vq 0, vi 1] 56 2 true true), some k294, some k330, some k367, some k403], [k309]⟩
set_option maxRecDepth 100000 in
theorem v3930 : Valid Tryz.prog 100 c3930 := made_valid (orc := orcOf 100 []) (N := 1000000) (ms := [165]) okp (orcOf_ok noCtr) (by kernel_rfl)
def c4000 : Ctr := ⟨109, [vl 100 0 16 16, vl 100 0 16 16], gl0, [k330], re (vb true), [some k330], []⟩
set_option maxRecDepth 100000 in
theorem v4000 : Valid Tryz.prog 100 c4000 := made_valid (orc := orcOf 100 []) (N := 1000000) (ms := []) okp (orcOf_ok noCtr) (by kernel_rfl)
def c4098 : Ctr := ⟨290, [vp 100 0, va [vi 2, vi 13]], gl0, [k397, .map [] [] [] 0, k459, k460, k458, k388, k56, k2, k317, k354, k388, .cells [vq 0, vi 1] 56 2 true true, k294, k330, k367, k403], re (vl 116 0 16 16), [some k397, some (.map [] [] [] 0), some k459, some k460, some k458, some k388, some k56, some k2, some k317, some k354, some k388, some (.cells [vq 0, vi 1] 56 2 true true), some k294, some k330, some k367, some k403], [k421]⟩
set_option maxRecDepth 100000 in
theorem v4098 : Valid Tryz.prog 100 c4098 := made_valid (orc := orcOf 100 []) (N := 1000000) (ms := [164]) okp (orcOf_ok noCtr) (by kernel_rfl)
end
end Go.Proofs.YtfhkbepjppcjmaaGreatDoor.configNames
