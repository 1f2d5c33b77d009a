/- What calls of the program do, told of the few objects that they see; printed by a program of mine from a run of the evaluator. -/
import Derived.Test.YtfhkbepjppcjmaaGreatDoorCXG
namespace Go.Proofs.YtfhkbepjppcjmaaGreatDoor.configNames
open Go Go.Abs
set_option linter.unusedVariables false
noncomputable section
def c4 : Ctr := ⟨71, [vL], gl0, [], re (vL), [], []⟩
set_option maxRecDepth 100000 in
theorem v4 : Valid Tryz.prog 100 c4 := made_valid (orc := orcOf 100 []) (N := 1000000) (ms := []) okp (orcOf_ok noCtr) (by kernel_rfl)
def c14 : Ctr := ⟨118, [vb false, vi 12], gl0, [], re (.nilIface), [], []⟩
set_option maxRecDepth 100000 in
theorem v14 : Valid Tryz.prog 100 c14 := made_valid (orc := orcOf 100 []) (N := 1000000) (ms := []) okp (orcOf_ok noCtr) (by kernel_rfl)
def c29 : Ctr := ⟨68, [vL], gl0, [], re (vi 0), [], []⟩
set_option maxRecDepth 100000 in
theorem v29 : Valid Tryz.prog 100 c29 := made_valid (orc := orcOf 100 []) (N := 1000000) (ms := []) okp (orcOf_ok noCtr) (by kernel_rfl)
def c56 : Ctr := ⟨191, [va [vu 0, vq 0]], gl0, [], re (vb false), [], []⟩
set_option maxRecDepth 100000 in
theorem v56 : Valid Tryz.prog 100 c56 := made_valid (orc := orcOf 100 []) (N := 1000000) (ms := []) okp (orcOf_ok noCtr) (by kernel_rfl)
def c177 : Ctr := ⟨28, [vI 94 (va [vi 7]), vI 96 (vp 100 0)], gl0, [ao 94 1 [vi 0]], re (vb true), [some (ao 94 1 [vi 7])], []⟩
theorem v177 : Valid Tryz.prog 100 c177 := asHit.as_valid _
def c213 : Ctr := ⟨185, [k27, va [vi 0, vi 1]], gl0, [k1, k28, k29, .cells [vi 1] 3 1 true true, k23], re (vt [vi 0, vi 10]), [some k1, some k28, some k29, some (.cells [vi 1] 3 1 true true), some k23], []⟩
set_option maxRecDepth 100000 in
theorem v213 : Valid Tryz.prog 100 c213 := made_valid (orc := orcOf 100 []) (N := 1000000) (ms := []) okp (orcOf_ok noCtr) (by kernel_rfl)
def c482 : Ctr := ⟨261, [vp 100 0, va [vi 0, vi 1]], gl0, [k70, .map [vi 1] [vl 105 0 1 1] [0] 1, k71, k72, k69, ao 3 1 [vi 1], k2, k56, .cells [vq 0, vi 1] 56 2 true true], re (vi 2), [some k70, some (.map [vi 1] [vl 105 0 1 1] [0] 1), some k71, some k72, some k69, some (ao 3 1 [vi 1]), some k2, some k56, some (.cells [vq 0, vi 1] 56 2 true true)], []⟩
set_option maxRecDepth 100000 in
theorem v482 : Valid Tryz.prog 100 c482 := made_valid (orc := orcOf 100 []) (N := 1000000) (ms := []) okp (orcOf_ok noCtr) (by kernel_rfl)
def c518 : Ctr := ⟨60, [vl 100 0 2 2, vl 100 0 2 2, vf 61 [] []], gl0, [k74, k2, k56], re (vb true), [some k74, some k2, some k56], []⟩
set_option maxRecDepth 100000 in
theorem v518 : Valid Tryz.prog 100 c518 := made_valid (orc := orcOf 100 []) (N := 1000000) (ms := []) okp (orcOf_ok noCtr) (by kernel_rfl)
def c1160 : Ctr := ⟨259, [k107], gl0, [k42, k46, k25, k64, k65, .cells [vi 1, vi 0, vi 0] 45 3 true true, .cells [vi 1, vi 4] 47 2 true true, .cells [vi 1, vi 2] 3 1 true true, .cells [vi 1] 3 1 true true, k2, k56, .cells [vq 0, vi 1] 56 2 true true], re (vp 112 0), [some k42, some k46, some k25, some k64, some k65, some (.cells [vi 1, vi 0, vi 0] 45 3 true true), some (.cells [vi 1, vi 4] 47 2 true true), some (.cells [vi 1, vi 2] 3 1 true true), some (.cells [vi 1] 3 1 true true), some k2, some k56, some (.cells [vq 0, vi 1] 56 2 true true)], [k66, .map [vi 1] [vl 117 0 1 1] [0] 1, k67, k68, k69, ao 3 1 [vi 1]]⟩
set_option maxRecDepth 100000 in
theorem v1160 : Valid Tryz.prog 100 c1160 := made_valid (orc := orcOf 100 []) (N := 1000000) (ms := [116, 113, 114, 115, 130, 118]) okp (orcOf_ok noCtr) (by kernel_rfl)
def c1235 : Ctr := ⟨259, [k114], gl0, [k42, k46, k25, k64, k65, .cells [vi 1, vi 0, vi 0] 45 3 true true, .cells [vi 1, vi 4] 47 2 true true, k113, .cells [vi 1] 3 1 true true, k2, k56, .cells [vq 0, vi 1] 56 2 true true], re (vp 112 0), [some k42, some k46, some k25, some k64, some k65, some (.cells [vi 1, vi 0, vi 0] 45 3 true true), some (.cells [vi 1, vi 4] 47 2 true true), some k113, some (.cells [vi 1] 3 1 true true), some k2, some k56, some (.cells [vq 0, vi 1] 56 2 true true)], [k66, .map [vi 1] [vl 117 0 1 1] [0] 1, k67, k68, k69, ao 3 1 [vi 1]]⟩
set_option maxRecDepth 100000 in
theorem v1235 : Valid Tryz.prog 100 c1235 := made_valid (orc := orcOf 100 []) (N := 1000000) (ms := [116, 113, 114, 115, 130, 118]) okp (orcOf_ok noCtr) (by kernel_rfl)
def c1327 : Ctr := ⟨259, [k121], gl0, [k42, k46, k25, k64, k65, .cells [vi 1, vi 0, vi 0] 45 3 true true, .cells [vi 1, vi 4] 47 2 true true, k122, .cells [vi 1] 3 1 true true, k2, k56, .cells [vq 0, vi 1] 56 2 true true], re (vp 112 0), [some k42, some k46, some k25, some k64, some k65, some (.cells [vi 1, vi 0, vi 0] 45 3 true true), some (.cells [vi 1, vi 4] 47 2 true true), some k122, some (.cells [vi 1] 3 1 true true), some k2, some k56, some (.cells [vq 0, vi 1] 56 2 true true)], [k66, .map [vi 1] [vl 117 0 1 1] [0] 1, k67, k68, k69, ao 3 1 [vi 1]]⟩
set_option maxRecDepth 100000 in
theorem v1327 : Valid Tryz.prog 100 c1327 := made_valid (orc := orcOf 100 []) (N := 1000000) (ms := [116, 113, 114, 115, 130, 118]) okp (orcOf_ok noCtr) (by kernel_rfl)
def c1344 : Ctr := ⟨168, [vl 100 0 10 10, vi 11, vf 128 [] []], gl0, [k122], re (vt [vi 10, vb false]), [some k122], []⟩
set_option maxRecDepth 100000 in
theorem v1344 : Valid Tryz.prog 100 c1344 := made_valid (orc := orcOf 100 []) (N := 1000000) (ms := []) okp (orcOf_ok noCtr) (by kernel_rfl)
def c1423 : Ctr := ⟨259, [k129], gl0, [k42, k46, k25, k64, k65, .cells [vi 1, vi 0, vi 0] 45 3 true true, .cells [vi 1, vi 4] 47 2 true true, k130, .cells [vi 1] 3 1 true true, k2, k56, .cells [vq 0, vi 1] 56 2 true true], re (vp 112 0), [some k42, some k46, some k25, some k64, some k65, some (.cells [vi 1, vi 0, vi 0] 45 3 true true), some (.cells [vi 1, vi 4] 47 2 true true), some k130, some (.cells [vi 1] 3 1 true true), some k2, some k56, some (.cells [vq 0, vi 1] 56 2 true true)], [k66, .map [vi 1] [vl 117 0 1 1] [0] 1, k67, k68, k69, ao 3 1 [vi 1]]⟩
set_option maxRecDepth 100000 in
theorem v1423 : Valid Tryz.prog 100 c1423 := made_valid (orc := orcOf 100 []) (N := 1000000) (ms := [116, 113, 114, 115, 130, 118]) okp (orcOf_ok noCtr) (by kernel_rfl)
def c1440 : Ctr := ⟨168, [vl 100 0 14 14, vi 15, vf 128 [] []], gl0, [k130], re (vt [vi 14, vb false]), [some k130], []⟩
set_option maxRecDepth 100000 in
theorem v1440 : Valid Tryz.prog 100 c1440 := made_valid (orc := orcOf 100 []) (N := 1000000) (ms := []) okp (orcOf_ok noCtr) (by kernel_rfl)
def c1465 : Ctr := ⟨214, [vl 100 0 15 15, vi 16, vf 215 [] [vp 101 0]], gl0, [k131, ao 203 1 [vf 128 [] []]], re (vt [vi 15, vb false]), [some k131, some (ao 203 1 [vf 128 [] []])], []⟩
set_option maxRecDepth 100000 in
theorem v1465 : Valid Tryz.prog 100 c1465 := made_valid (orc := orcOf 100 []) (N := 1000000) (ms := []) okp (orcOf_ok noCtr) (by kernel_rfl)
def c1525 : Ctr := ⟨259, [va [vl 100 0 1 1, vl 101 0 4 4, vl 102 0 1 1, vL, vl 103 0 2 2, vl 104 0 1 1, vl 105 0 1 1, vl 106 0 1 1, vl 107 0 18 18]], gl0, [k42, k46, k25, k64, k65, .cells [vi 1, vi 0, vi 0] 45 3 true true, .cells [vi 1, vi 4] 47 2 true true, k137, .cells [vi 1] 3 1 true true, k2, k56, .cells [vq 0, vi 1] 56 2 true true], re (vp 112 0), [some k42, some k46, some k25, some k64, some k65, some (.cells [vi 1, vi 0, vi 0] 45 3 true true), some (.cells [vi 1, vi 4] 47 2 true true), some k137, some (.cells [vi 1] 3 1 true true), some k2, some k56, some (.cells [vq 0, vi 1] 56 2 true true)], [k66, .map [vi 1] [vl 117 0 1 1] [0] 1, k67, k68, k69, ao 3 1 [vi 1]]⟩
set_option maxRecDepth 100000 in
theorem v1525 : Valid Tryz.prog 100 c1525 := made_valid (orc := orcOf 100 []) (N := 1000000) (ms := [116, 113, 114, 115, 130, 118]) okp (orcOf_ok noCtr) (by kernel_rfl)
def c1569 : Ctr := ⟨214, [vl 100 0 19 19, vi 20, vf 215 [] [vp 101 0]], gl0, [k139, ao 203 1 [vf 128 [] []]], re (vt [vi 19, vb false]), [some k139, some (ao 203 1 [vf 128 [] []])], []⟩
set_option maxRecDepth 100000 in
theorem v1569 : Valid Tryz.prog 100 c1569 := made_valid (orc := orcOf 100 []) (N := 1000000) (ms := []) okp (orcOf_ok noCtr) (by kernel_rfl)
def c1629 : Ctr := ⟨259, [va [vl 100 0 1 1, vl 101 0 4 4, vl 102 0 1 1, vL, vl 103 0 2 2, vl 104 0 1 1, vl 105 0 1 1, vl 106 0 1 1, vl 107 0 22 22]], gl0, [k42, k46, k25, k64, k65, .cells [vi 1, vi 0, vi 0] 45 3 true true, .cells [vi 1, vi 4] 47 2 true true, k145, .cells [vi 1] 3 1 true true, k2, k56, .cells [vq 0, vi 1] 56 2 true true], re (vp 112 0), [some k42, some k46, some k25, some k64, some k65, some (.cells [vi 1, vi 0, vi 0] 45 3 true true), some (.cells [vi 1, vi 4] 47 2 true true), some k145, some (.cells [vi 1] 3 1 true true), some k2, some k56, some (.cells [vq 0, vi 1] 56 2 true true)], [k66, .map [vi 1] [vl 117 0 1 1] [0] 1, k67, k68, k69, ao 3 1 [vi 1]]⟩
set_option maxRecDepth 100000 in
theorem v1629 : Valid Tryz.prog 100 c1629 := made_valid (orc := orcOf 100 []) (N := 1000000) (ms := [116, 113, 114, 115, 130, 118]) okp (orcOf_ok noCtr) (by kernel_rfl)
def c1673 : Ctr := ⟨214, [vl 100 0 23 23, vi 24, vf 215 [] [vp 101 0]], gl0, [k147, ao 203 1 [vf 128 [] []]], re (vt [vi 23, vb false]), [some k147, some (ao 203 1 [vf 128 [] []])], []⟩
set_option maxRecDepth 100000 in
theorem v1673 : Valid Tryz.prog 100 c1673 := made_valid (orc := orcOf 100 []) (N := 1000000) (ms := []) okp (orcOf_ok noCtr) (by kernel_rfl)
def c1733 : Ctr := ⟨259, [va [vl 100 0 1 1, vl 101 0 4 4, vl 102 0 1 1, vL, vl 103 0 2 2, vl 104 0 1 1, vl 105 0 1 1, vl 106 0 1 1, vl 107 0 26 26]], gl0, [k42, k46, k25, k64, k65, .cells [vi 1, vi 0, vi 0] 45 3 true true, .cells [vi 1, vi 4] 47 2 true true, k153, .cells [vi 1] 3 1 true true, k2, k56, .cells [vq 0, vi 1] 56 2 true true], re (vp 112 0), [some k42, some k46, some k25, some k64, some k65, some (.cells [vi 1, vi 0, vi 0] 45 3 true true), some (.cells [vi 1, vi 4] 47 2 true true), some k153, some (.cells [vi 1] 3 1 true true), some k2, some k56, some (.cells [vq 0, vi 1] 56 2 true true)], [k66, .map [vi 1] [vl 117 0 1 1] [0] 1, k67, k68, k69, ao 3 1 [vi 1]]⟩
set_option maxRecDepth 100000 in
theorem v1733 : Valid Tryz.prog 100 c1733 := made_valid (orc := orcOf 100 []) (N := 1000000) (ms := [116, 113, 114, 115, 130, 118]) okp (orcOf_ok noCtr) (by kernel_rfl)
def c1777 : Ctr := ⟨214, [vl 100 0 27 27, vi 28, vf 215 [] [vp 101 0]], gl0, [k155, ao 203 1 [vf 128 [] []]], re (vt [vi 27, vb false]), [some k155, some (ao 203 1 [vf 128 [] []])], []⟩
set_option maxRecDepth 100000 in
theorem v1777 : Valid Tryz.prog 100 c1777 := made_valid (orc := orcOf 100 []) (N := 1000000) (ms := []) okp (orcOf_ok noCtr) (by kernel_rfl)
def c1837 : Ctr := ⟨259, [va [vl 100 0 1 1, vl 101 0 4 4, vl 102 0 1 1, vL, vl 103 0 2 2, vl 104 0 1 1, vl 105 0 1 1, vl 106 0 1 1, vl 107 0 30 30]], gl0, [k42, k46, k25, k64, k65, .cells [vi 1, vi 0, vi 0] 45 3 true true, .cells [vi 1, vi 4] 47 2 true true, k161, .cells [vi 1] 3 1 true true, k2, k56, .cells [vq 0, vi 1] 56 2 true true], re (vp 112 0), [some k42, some k46, some k25, some k64, some k65, some (.cells [vi 1, vi 0, vi 0] 45 3 true true), some (.cells [vi 1, vi 4] 47 2 true true), some k161, some (.cells [vi 1] 3 1 true true), some k2, some k56, some (.cells [vq 0, vi 1] 56 2 true true)], [k66, .map [vi 1] [vl 117 0 1 1] [0] 1, k67, k68, k69, ao 3 1 [vi 1]]⟩
set_option maxRecDepth 100000 in
theorem v1837 : Valid Tryz.prog 100 c1837 := made_valid (orc := orcOf 100 []) (N := 1000000) (ms := [116, 113, 114, 115, 130, 118]) okp (orcOf_ok noCtr) (by kernel_rfl)
def c1883 : Ctr := ⟨214, [vl 100 0 31 31, vi 32, vf 215 [] [vp 101 0]], gl0, [k163, ao 203 1 [vf 128 [] []]], re (vt [vi 31, vb false]), [some k163, some (ao 203 1 [vf 128 [] []])], []⟩
set_option maxRecDepth 100000 in
theorem v1883 : Valid Tryz.prog 100 c1883 := made_valid (orc := orcOf 100 []) (N := 1000000) (ms := []) okp (orcOf_ok noCtr) (by kernel_rfl)
def c1947 : Ctr := ⟨259, [va [vl 100 0 1 1, vl 101 0 4 4, vl 102 0 1 1, vL, vl 103 0 2 2, vl 104 0 1 1, vl 105 0 1 1, vl 106 0 1 1, vl 107 0 34 34]], gl0, [k42, k46, k25, k64, k65, .cells [vi 1, vi 0, vi 0] 45 3 true true, .cells [vi 1, vi 4] 47 2 true true, k169, .cells [vi 1] 3 1 true true, k2, k56, .cells [vq 0, vi 1] 56 2 true true], re (vp 112 0), [some k42, some k46, some k25, some k64, some k65, some (.cells [vi 1, vi 0, vi 0] 45 3 true true), some (.cells [vi 1, vi 4] 47 2 true true), some k169, some (.cells [vi 1] 3 1 true true), some k2, some k56, some (.cells [vq 0, vi 1] 56 2 true true)], [k66, .map [vi 1] [vl 117 0 1 1] [0] 1, k67, k68, k69, ao 3 1 [vi 1]]⟩
set_option maxRecDepth 100000 in
theorem v1947 : Valid Tryz.prog 100 c1947 := made_valid (orc := orcOf 100 []) (N := 1000000) (ms := [116, 113, 114, 115, 130, 118]) okp (orcOf_ok noCtr) (by kernel_rfl)
def c1995 : Ctr := ⟨214, [vl 100 0 35 35, vi 36, vf 215 [] [vp 101 0]], gl0, [k171, ao 203 1 [vf 128 [] []]], re (vt [vi 35, vb false]), [some k171, some (ao 203 1 [vf 128 [] []])], []⟩
set_option maxRecDepth 100000 in
theorem v1995 : Valid Tryz.prog 100 c1995 := made_valid (orc := orcOf 100 []) (N := 1000000) (ms := []) okp (orcOf_ok noCtr) (by kernel_rfl)
def c2059 : Ctr := ⟨259, [va [vl 100 0 1 1, vl 101 0 4 4, vl 102 0 1 1, vL, vl 103 0 2 2, vl 104 0 1 1, vl 105 0 1 1, vl 106 0 1 1, vl 107 0 38 38]], gl0, [k42, k46, k25, k64, k65, .cells [vi 1, vi 0, vi 0] 45 3 true true, .cells [vi 1, vi 4] 47 2 true true, k177, .cells [vi 1] 3 1 true true, k2, k56, .cells [vq 0, vi 1] 56 2 true true], re (vp 112 0), [some k42, some k46, some k25, some k64, some k65, some (.cells [vi 1, vi 0, vi 0] 45 3 true true), some (.cells [vi 1, vi 4] 47 2 true true), some k177, some (.cells [vi 1] 3 1 true true), some k2, some k56, some (.cells [vq 0, vi 1] 56 2 true true)], [k66, .map [vi 1] [vl 117 0 1 1] [0] 1, k67, k68, k69, ao 3 1 [vi 1]]⟩
set_option maxRecDepth 100000 in
theorem v2059 : Valid Tryz.prog 100 c2059 := made_valid (orc := orcOf 100 []) (N := 1000000) (ms := [116, 113, 114, 115, 130, 118]) okp (orcOf_ok noCtr) (by kernel_rfl)
def c2107 : Ctr := ⟨214, [vl 100 0 39 39, vi 40, vf 215 [] [vp 101 0]], gl0, [k179, ao 203 1 [vf 128 [] []]], re (vt [vi 39, vb false]), [some k179, some (ao 203 1 [vf 128 [] []])], []⟩
set_option maxRecDepth 100000 in
theorem v2107 : Valid Tryz.prog 100 c2107 := made_valid (orc := orcOf 100 []) (N := 1000000) (ms := []) okp (orcOf_ok noCtr) (by kernel_rfl)
def c2171 : Ctr := ⟨259, [va [vl 100 0 1 1, vl 101 0 4 4, vl 102 0 1 1, vL, vl 103 0 2 2, vl 104 0 1 1, vl 105 0 1 1, vl 106 0 1 1, vl 107 0 42 42]], gl0, [k42, k46, k25, k64, k65, .cells [vi 1, vi 0, vi 0] 45 3 true true, .cells [vi 1, vi 4] 47 2 true true, k185, .cells [vi 1] 3 1 true true, k2, k56, .cells [vq 0, vi 1] 56 2 true true], re (vp 112 0), [some k42, some k46, some k25, some k64, some k65, some (.cells [vi 1, vi 0, vi 0] 45 3 true true), some (.cells [vi 1, vi 4] 47 2 true true), some k185, some (.cells [vi 1] 3 1 true true), some k2, some k56, some (.cells [vq 0, vi 1] 56 2 true true)], [k66, .map [vi 1] [vl 117 0 1 1] [0] 1, k67, k68, k69, ao 3 1 [vi 1]]⟩
set_option maxRecDepth 100000 in
theorem v2171 : Valid Tryz.prog 100 c2171 := made_valid (orc := orcOf 100 []) (N := 1000000) (ms := [116, 113, 114, 115, 130, 118]) okp (orcOf_ok noCtr) (by kernel_rfl)
def c2219 : Ctr := ⟨214, [vl 100 0 43 43, vi 44, vf 215 [] [vp 101 0]], gl0, [k187, ao 203 1 [vf 128 [] []]], re (vt [vi 43, vb false]), [some k187, some (ao 203 1 [vf 128 [] []])], []⟩
set_option maxRecDepth 100000 in
theorem v2219 : Valid Tryz.prog 100 c2219 := made_valid (orc := orcOf 100 []) (N := 1000000) (ms := []) okp (orcOf_ok noCtr) (by kernel_rfl)
def c2283 : Ctr := ⟨259, [va [vl 100 0 1 1, vl 101 0 4 4, vl 102 0 1 1, vL, vl 103 0 2 2, vl 104 0 1 1, vl 105 0 1 1, vl 106 0 1 1, vl 107 0 46 46]], gl0, [k42, k46, k25, k64, k65, .cells [vi 1, vi 0, vi 0] 45 3 true true, .cells [vi 1, vi 4] 47 2 true true, k193, .cells [vi 1] 3 1 true true, k2, k56, .cells [vq 0, vi 1] 56 2 true true], re (vp 112 0), [some k42, some k46, some k25, some k64, some k65, some (.cells [vi 1, vi 0, vi 0] 45 3 true true), some (.cells [vi 1, vi 4] 47 2 true true), some k193, some (.cells [vi 1] 3 1 true true), some k2, some k56, some (.cells [vq 0, vi 1] 56 2 true true)], [k66, .map [vi 1] [vl 117 0 1 1] [0] 1, k67, k68, k69, ao 3 1 [vi 1]]⟩
set_option maxRecDepth 100000 in
theorem v2283 : Valid Tryz.prog 100 c2283 := made_valid (orc := orcOf 100 []) (N := 1000000) (ms := [116, 113, 114, 115, 130, 118]) okp (orcOf_ok noCtr) (by kernel_rfl)
def c2331 : Ctr := ⟨214, [vl 100 0 47 47, vi 48, vf 215 [] [vp 101 0]], gl0, [k195, ao 203 1 [vf 128 [] []]], re (vt [vi 47, vb false]), [some k195, some (ao 203 1 [vf 128 [] []])], []⟩
set_option maxRecDepth 100000 in
theorem v2331 : Valid Tryz.prog 100 c2331 := made_valid (orc := orcOf 100 []) (N := 1000000) (ms := []) okp (orcOf_ok noCtr) (by kernel_rfl)
def c2395 : Ctr := ⟨259, [va [vl 100 0 1 1, vl 101 0 4 4, vl 102 0 1 1, vL, vl 103 0 2 2, vl 104 0 1 1, vl 105 0 1 1, vl 106 0 1 1, vl 107 0 50 50]], gl0, [k42, k46, k25, k64, k65, .cells [vi 1, vi 0, vi 0] 45 3 true true, .cells [vi 1, vi 4] 47 2 true true, k201, .cells [vi 1] 3 1 true true, k2, k56, .cells [vq 0, vi 1] 56 2 true true], re (vp 112 0), [some k42, some k46, some k25, some k64, some k65, some (.cells [vi 1, vi 0, vi 0] 45 3 true true), some (.cells [vi 1, vi 4] 47 2 true true), some k201, some (.cells [vi 1] 3 1 true true), some k2, some k56, some (.cells [vq 0, vi 1] 56 2 true true)], [k66, .map [vi 1] [vl 117 0 1 1] [0] 1, k67, k68, k69, ao 3 1 [vi 1]]⟩
set_option maxRecDepth 100000 in
theorem v2395 : Valid Tryz.prog 100 c2395 := made_valid (orc := orcOf 100 []) (N := 1000000) (ms := [116, 113, 114, 115, 130, 118]) okp (orcOf_ok noCtr) (by kernel_rfl)
def c2443 : Ctr := ⟨214, [vl 100 0 51 51, vi 52, vf 215 [] [vp 101 0]], gl0, [k203, ao 203 1 [vf 128 [] []]], re (vt [vi 51, vb false]), [some k203, some (ao 203 1 [vf 128 [] []])], []⟩
set_option maxRecDepth 100000 in
theorem v2443 : Valid Tryz.prog 100 c2443 := made_valid (orc := orcOf 100 []) (N := 1000000) (ms := []) okp (orcOf_ok noCtr) (by kernel_rfl)
def c2507 : Ctr := ⟨259, [va [vl 100 0 1 1, vl 101 0 4 4, vl 102 0 1 1, vL, vl 103 0 2 2, vl 104 0 1 1, vl 105 0 1 1, vl 106 0 1 1, vl 107 0 54 54]], gl0, [k42, k46, k25, k64, k65, .cells [vi 1, vi 0, vi 0] 45 3 true true, .cells [vi 1, vi 4] 47 2 true true, k209, .cells [vi 1] 3 1 true true, k2, k56, .cells [vq 0, vi 1] 56 2 true true], re (vp 112 0), [some k42, some k46, some k25, some k64, some k65, some (.cells [vi 1, vi 0, vi 0] 45 3 true true), some (.cells [vi 1, vi 4] 47 2 true true), some k209, some (.cells [vi 1] 3 1 true true), some k2, some k56, some (.cells [vq 0, vi 1] 56 2 true true)], [k66, .map [vi 1] [vl 117 0 1 1] [0] 1, k67, k68, k69, ao 3 1 [vi 1]]⟩
set_option maxRecDepth 100000 in
theorem v2507 : Valid Tryz.prog 100 c2507 := made_valid (orc := orcOf 100 []) (N := 1000000) (ms := [116, 113, 114, 115, 130, 118]) okp (orcOf_ok noCtr) (by kernel_rfl)
def c2555 : Ctr := ⟨214, [vl 100 0 55 55, vi 56, vf 215 [] [vp 101 0]], gl0, [k211, ao 203 1 [vf 128 [] []]], re (vt [vi 55, vb false]), [some k211, some (ao 203 1 [vf 128 [] []])], []⟩
set_option maxRecDepth 100000 in
theorem v2555 : Valid Tryz.prog 100 c2555 := made_valid (orc := orcOf 100 []) (N := 1000000) (ms := []) okp (orcOf_ok noCtr) (by kernel_rfl)
def c2619 : Ctr := ⟨259, [va [vl 100 0 1 1, vl 101 0 4 4, vl 102 0 1 1, vL, vl 103 0 2 2, vl 104 0 1 1, vl 105 0 1 1, vl 106 0 1 1, vl 107 0 58 58]], gl0, [k42, k46, k25, k64, k65, .cells [vi 1, vi 0, vi 0] 45 3 true true, .cells [vi 1, vi 4] 47 2 true true, k217, .cells [vi 1] 3 1 true true, k2, k56, .cells [vq 0, vi 1] 56 2 true true], re (vp 112 0), [some k42, some k46, some k25, some k64, some k65, some (.cells [vi 1, vi 0, vi 0] 45 3 true true), some (.cells [vi 1, vi 4] 47 2 true true), some k217, some (.cells [vi 1] 3 1 true true), some k2, some k56, some (.cells [vq 0, vi 1] 56 2 true true)], [k66, .map [vi 1] [vl 117 0 1 1] [0] 1, k67, k68, k69, ao 3 1 [vi 1]]⟩
set_option maxRecDepth 100000 in
theorem v2619 : Valid Tryz.prog 100 c2619 := made_valid (orc := orcOf 100 []) (N := 1000000) (ms := [116, 113, 114, 115, 130, 118]) okp (orcOf_ok noCtr) (by kernel_rfl)
def c2667 : Ctr := ⟨214, [vl 100 0 59 59, vi 60, vf 215 [] [vp 101 0]], gl0, [k219, ao 203 1 [vf 128 [] []]], re (vt [vi 59, vb false]), [some k219, some (ao 203 1 [vf 128 [] []])], []⟩
set_option maxRecDepth 100000 in
theorem v2667 : Valid Tryz.prog 100 c2667 := made_valid (orc := orcOf 100 []) (N := 1000000) (ms := []) okp (orcOf_ok noCtr) (by kernel_rfl)
def c2731 : Ctr := ⟨259, [va [vl 100 0 1 1, vl 101 0 4 4, vl 102 0 1 1, vL, vl 103 0 2 2, vl 104 0 1 1, vl 105 0 1 1, vl 106 0 1 1, vl 107 0 62 62]], gl0, [k42, k46, k25, k64, k65, .cells [vi 1, vi 0, vi 0] 45 3 true true, .cells [vi 1, vi 4] 47 2 true true, k225, .cells [vi 1] 3 1 true true, k2, k56, .cells [vq 0, vi 1] 56 2 true true], re (vp 112 0), [some k42, some k46, some k25, some k64, some k65, some (.cells [vi 1, vi 0, vi 0] 45 3 true true), some (.cells [vi 1, vi 4] 47 2 true true), some k225, some (.cells [vi 1] 3 1 true true), some k2, some k56, some (.cells [vq 0, vi 1] 56 2 true true)], [k66, .map [vi 1] [vl 117 0 1 1] [0] 1, k67, k68, k69, ao 3 1 [vi 1]]⟩
set_option maxRecDepth 100000 in
theorem v2731 : Valid Tryz.prog 100 c2731 := made_valid (orc := orcOf 100 []) (N := 1000000) (ms := [116, 113, 114, 115, 130, 118]) okp (orcOf_ok noCtr) (by kernel_rfl)
def c2822 : Ctr := ⟨259, [k234], gl0, [k42, k46, k25, k64, k65, k233, .cells [vi 1, vi 4] 47 2 true true, k229, .cells [vi 1] 3 1 true true, k2, k56, .cells [vq 0, vi 1] 56 2 true true], re (vp 112 0), [some k42, some k46, some k25, some k64, some k65, some k233, some (.cells [vi 1, vi 4] 47 2 true true), some k229, some (.cells [vi 1] 3 1 true true), some k2, some k56, some (.cells [vq 0, vi 1] 56 2 true true)], [k66, .map [vi 1] [vl 117 0 1 1] [0] 1, k67, k68, k69, ao 3 1 [vi 1]]⟩
set_option maxRecDepth 100000 in
theorem v2822 : Valid Tryz.prog 100 c2822 := made_valid (orc := orcOf 100 []) (N := 1000000) (ms := [116, 113, 114, 115, 130, 118]) okp (orcOf_ok noCtr) (by kernel_rfl)
def c2898 : Ctr := ⟨259, [va [vl 100 0 1 1, vl 101 0 4 4, vl 102 0 1 1, vL, vl 103 0 2 2, vl 104 0 1 1, vl 105 0 7 7, vl 106 0 1 1, vl 107 0 64 64]], gl0, [k42, k46, k25, k64, k65, k241, .cells [vi 1, vi 4] 47 2 true true, k229, .cells [vi 1] 3 1 true true, k2, k56, .cells [vq 0, vi 1] 56 2 true true], re (vp 112 0), [some k42, some k46, some k25, some k64, some k65, some k241, some (.cells [vi 1, vi 4] 47 2 true true), some k229, some (.cells [vi 1] 3 1 true true), some k2, some k56, some (.cells [vq 0, vi 1] 56 2 true true)], [k66, .map [vi 1] [vl 117 0 1 1] [0] 1, k67, k68, k69, ao 3 1 [vi 1]]⟩
set_option maxRecDepth 100000 in
theorem v2898 : Valid Tryz.prog 100 c2898 := made_valid (orc := orcOf 100 []) (N := 1000000) (ms := [116, 113, 114, 115, 130, 118]) okp (orcOf_ok noCtr) (by kernel_rfl)
def c2911 : Ctr := ⟨164, [vl 100 0 7 7, vi 8, vf 124 [] []], gl0, [k241], re (vt [vi 7, vb false]), [some k241], []⟩
set_option maxRecDepth 100000 in
theorem v2911 : Valid Tryz.prog 100 c2911 := made_valid (orc := orcOf 100 []) (N := 1000000) (ms := []) okp (orcOf_ok noCtr) (by kernel_rfl)
def c2951 : Ctr := ⟨164, [vl 100 0 9 9, vi 10, vf 124 [] []], gl0, [k245], re (vt [vi 9, vb false]), [some k245], []⟩
set_option maxRecDepth 100000 in
theorem v2951 : Valid Tryz.prog 100 c2951 := made_valid (orc := orcOf 100 []) (N := 1000000) (ms := []) okp (orcOf_ok noCtr) (by kernel_rfl)
def c2978 : Ctr := ⟨259, [va [vl 100 0 1 1, vl 101 0 4 4, vl 102 0 1 1, vL, vl 103 0 2 2, vl 104 0 1 1, vl 105 0 11 11, vl 106 0 1 1, vl 107 0 64 64]], gl0, [k42, k46, k25, k64, k65, k249, .cells [vi 1, vi 4] 47 2 true true, k229, .cells [vi 1] 3 1 true true, k2, k56, .cells [vq 0, vi 1] 56 2 true true], re (vp 112 0), [some k42, some k46, some k25, some k64, some k65, some k249, some (.cells [vi 1, vi 4] 47 2 true true), some k229, some (.cells [vi 1] 3 1 true true), some k2, some k56, some (.cells [vq 0, vi 1] 56 2 true true)], [k66, .map [vi 1] [vl 117 0 1 1] [0] 1, k67, k68, k69, ao 3 1 [vi 1]]⟩
set_option maxRecDepth 100000 in
theorem v2978 : Valid Tryz.prog 100 c2978 := made_valid (orc := orcOf 100 []) (N := 1000000) (ms := [116, 113, 114, 115, 130, 118]) okp (orcOf_ok noCtr) (by kernel_rfl)
def c3031 : Ctr := ⟨164, [vl 100 0 13 13, vi 14, vf 124 [] []], gl0, [k253], re (vt [vi 13, vb false]), [some k253], []⟩
set_option maxRecDepth 100000 in
theorem v3031 : Valid Tryz.prog 100 c3031 := made_valid (orc := orcOf 100 []) (N := 1000000) (ms := []) okp (orcOf_ok noCtr) (by kernel_rfl)
def c3058 : Ctr := ⟨259, [k260], gl0, [k42, k46, k25, k64, k65, k259, .cells [vi 1, vi 4] 47 2 true true, k229, .cells [vi 1] 3 1 true true, k2, k56, .cells [vq 0, vi 1] 56 2 true true], re (vp 112 0), [some k42, some k46, some k25, some k64, some k65, some k259, some (.cells [vi 1, vi 4] 47 2 true true), some k229, some (.cells [vi 1] 3 1 true true), some k2, some k56, some (.cells [vq 0, vi 1] 56 2 true true)], [k66, .map [vi 1] [vl 117 0 1 1] [0] 1, k67, k68, k69, ao 3 1 [vi 1]]⟩
set_option maxRecDepth 100000 in
theorem v3058 : Valid Tryz.prog 100 c3058 := made_valid (orc := orcOf 100 []) (N := 1000000) (ms := [116, 113, 114, 115, 130, 118]) okp (orcOf_ok noCtr) (by kernel_rfl)
def c3102 : Ctr := ⟨214, [vl 100 0 64 64, vi 65534, vf 215 [] [vp 101 0]], gl0, [k229, ao 203 1 [vf 128 [] []]], re (vt [vi 64, vb false]), [some k229, some (ao 203 1 [vf 128 [] []])], []⟩
set_option maxRecDepth 100000 in
theorem v3102 : Valid Tryz.prog 100 c3102 := made_valid (orc := orcOf 100 []) (N := 1000000) (ms := []) okp (orcOf_ok noCtr) (by kernel_rfl)
def c3109 : Ctr := ⟨28, [vI 94 (va [vi 12]), vI 96 (vp 100 0)], gl0, [ao 94 1 [vi 0]], re (vb true), [some (ao 94 1 [vi 12])], []⟩
theorem v3109 : Valid Tryz.prog 100 c3109 := asHit.as_valid _
def c3126 : Ctr := ⟨208, [vl 100 0 16 16, vi 65534, vf 209 [] [vp 101 0]], gl0, [k262, ao 197 1 [vf 124 [] []]], re (vt [vi 16, vb false]), [some k262, some (ao 197 1 [vf 124 [] []])], []⟩
set_option maxRecDepth 100000 in
theorem v3126 : Valid Tryz.prog 100 c3126 := made_valid (orc := orcOf 100 []) (N := 1000000) (ms := []) okp (orcOf_ok noCtr) (by kernel_rfl)
def c3145 : Ctr := ⟨259, [k267], gl0, [k42, k46, k30, k266, k83, k62, k262, .cells [vi 1, vi 4] 47 2 true true, k229, .cells [vi 1] 3 1 true true, k2, k56, .cells [vq 0, vi 1] 56 2 true true], re (vp 113 0), [some k42, some k46, some k30, some k266, some k83, some k62, some k262, some (.cells [vi 1, vi 4] 47 2 true true), some k229, some (.cells [vi 1] 3 1 true true), some k2, some k56, some (.cells [vq 0, vi 1] 56 2 true true)], [k268, .map [vi 1] [vl 118 0 2 2] [0] 1, k269, k270, k69, .cells [vi 1, vi 1] 3 1 true true]⟩
set_option maxRecDepth 100000 in
theorem v3145 : Valid Tryz.prog 100 c3145 := made_valid (orc := orcOf 100 []) (N := 1000000) (ms := [117, 114, 115, 116, 134, 124]) okp (orcOf_ok noCtr) (by kernel_rfl)
def c3194 : Ctr := ⟨260, [vp 100 0], gl0, [k70, .map [vi 1] [vl 105 0 3 3] [0] 1, k71, k72, k69, .cells [vi 1, vi 1, vi 1] 3 1 true true, k2, k56, .cells [vq 0, vi 1] 56 2 true true], re (vb false), [some k70, some (.map [vi 1] [vl 105 0 3 3] [0] 1), some k71, some k72, some k69, some (.cells [vi 1, vi 1, vi 1] 3 1 true true), some k2, some k56, some (.cells [vq 0, vi 1] 56 2 true true)], []⟩
set_option maxRecDepth 100000 in
theorem v3194 : Valid Tryz.prog 100 c3194 := made_valid (orc := orcOf 100 []) (N := 1000000) (ms := []) okp (orcOf_ok noCtr) (by kernel_rfl)
def c3295 : Ctr := ⟨259, [k286], gl0, [k42, k46, k30, k276, k287, k77, k262, .cells [vi 1, vi 4] 47 2 true true, k229, .cells [vi 1] 3 1 true true, k2, k56, k2, .cells [vq 0, vi 1] 56 2 true true], re (vp 114 0), [some k42, some k46, some k30, some k276, some k287, some k77, some k262, some (.cells [vi 1, vi 4] 47 2 true true), some k229, some (.cells [vi 1] 3 1 true true), some k2, some k56, some k2, some (.cells [vq 0, vi 1] 56 2 true true)], [ao 370 4 [.map (some 115), .map (some 116), .map (some 117), vl 118 0 5 5], .map [vi 1] [vl 119 0 3 3] [0] 1, k288, .map [vi 1] [va [vi 1, vu 1, vi 0, vl 113 0 1 1]] [0] 1, k289, .cells [vi 1, vi 1, vi 1] 3 1 true true]⟩
set_option maxRecDepth 100000 in
theorem v3295 : Valid Tryz.prog 100 c3295 := made_valid (orc := orcOf 100 []) (N := 1000000) (ms := [118, 115, 116, 117, 141, 128]) okp (orcOf_ok noCtr) (by kernel_rfl)
def c3446 : Ctr := ⟨284, [va [vq 0, vi 11], vp 100 0], gl0, [ao 360 1 [vf 283 [] []]], re (vb false), [some (ao 360 1 [vf 283 [] []])], []⟩
set_option maxRecDepth 100000 in
theorem v3446 : Valid Tryz.prog 100 c3446 := made_valid (orc := orcOf 100 []) (N := 1000000) (ms := []) okp (orcOf_ok noCtr) (by kernel_rfl)
def c3539 : Ctr := ⟨259, [k356], gl0, [k42, k46, k30, k276, k357, k351, k262, .cells [vi 1, vi 4] 47 2 true true, k229, .cells [vi 1] 3 1 true true, k2, k56, k2, k317, k354, .cells [vq 0, vi 1] 56 2 true true, k294, k330], re (vp 118 0), [some k42, some k46, some k30, some k276, some k357, some k351, some k262, some (.cells [vi 1, vi 4] 47 2 true true), some k229, some (.cells [vi 1] 3 1 true true), some k2, some k56, some k2, some k317, some k354, some (.cells [vq 0, vi 1] 56 2 true true), some k294, some k330], [ao 370 4 [.map (some 119), .map (some 120), .map (some 121), vl 122 0 9 9], .map [vi 1] [vl 123 0 3 3] [0] 1, k358, k359, k360, .cells [vi 1, vi 1, vi 1] 3 1 true true]⟩
set_option maxRecDepth 100000 in
theorem v3539 : Valid Tryz.prog 100 c3539 := made_valid (orc := orcOf 100 []) (N := 1000000) (ms := [122, 119, 120, 121, 159, 132]) okp (orcOf_ok noCtr) (by kernel_rfl)
def c3590 : Ctr := ⟨202, [vl 100 0 5 5, vi 12, vf 203 [] [vp 101 0]], gl0, [k368, ao 191 1 [vf 120 [] []], k2, k56, k2, k317, k354], re (vt [vi 4, vb true]), [some k368, some (ao 191 1 [vf 120 [] []]), some k2, some k56, some k2, some k317, some k354], []⟩
set_option maxRecDepth 100000 in
theorem v3590 : Valid Tryz.prog 100 c3590 := made_valid (orc := orcOf 100 []) (N := 1000000) (ms := []) okp (orcOf_ok noCtr) (by kernel_rfl)
def c3616 : Ctr := ⟨290, [vp 100 0, va [vi 2, vi 10]], gl0, [k381, .map [vi 1] [vl 105 0 3 3] [0] 1, k362, k382, k380, .cells [vi 1, vi 1, vi 1] 3 1 true true, k2, k56, k2, k317, k354, .cells [vq 0, vi 1] 56 2 true true, k294, k330, k367], re (vl 115 0 16 16), [some k381, some (.map [vi 1] [vl 105 0 3 3] [0] 1), some k362, some k382, some k380, some (.cells [vi 1, vi 1, vi 1] 3 1 true true), some k2, some k56, some k2, some k317, some k354, some (.cells [vq 0, vi 1] 56 2 true true), some k294, some k330, some k367], [k309]⟩
set_option maxRecDepth 100000 in
theorem v3616 : Valid Tryz.prog 100 c3616 := made_valid (orc := orcOf 100 []) (N := 1000000) (ms := [163]) okp (orcOf_ok noCtr) (by kernel_rfl)
def c3659 : Ctr := ⟨231, [vp 100 0, va [vu 3, vi 12]], gl0, [k386, k42, k46, k36, k276, k385, k387, k262, .cells [vi 1, vi 4] 47 2 true true, k229, .cells [vi 1] 3 1 true true, k2, k56, k2, k317, k354, .cells [vq 0, vi 1] 56 2 true true, k294, k330, k367], re (vb true), [some k386, some k42, some k46, some k36, some k276, some k385, some k387, some k262, some (.cells [vi 1, vi 4] 47 2 true true), some k229, some (.cells [vi 1] 3 1 true true), some k2, some k56, some k2, some k317, some k354, some (.cells [vq 0, vi 1] 56 2 true true), some k294, some k330, some k367], []⟩
set_option maxRecDepth 100000 in
theorem v3659 : Valid Tryz.prog 100 c3659 := made_valid (orc := orcOf 100 []) (N := 1000000) (ms := []) okp (orcOf_ok noCtr) (by kernel_rfl)
def c3695 : Ctr := ⟨290, [vp 100 0, va [vi 2, vi 11]], gl0, [k397, .map [vi 1] [vl 105 0 3 3] [0] 1, k398, k399, k396, .cells [vi 1, vi 1, vi 1] 3 1 true true, k2, k56, k2, k317, k354, k388, .cells [vq 0, vi 1] 56 2 true true, k294, k330, k367], re (vl 116 0 16 16), [some k397, some (.map [vi 1] [vl 105 0 3 3] [0] 1), some k398, some k399, some k396, some (.cells [vi 1, vi 1, vi 1] 3 1 true true), some k2, some k56, some k2, some k317, some k354, some k388, some (.cells [vq 0, vi 1] 56 2 true true), some k294, some k330, some k367], [k349]⟩
set_option maxRecDepth 100000 in
theorem v3695 : Valid Tryz.prog 100 c3695 := made_valid (orc := orcOf 100 []) (N := 1000000) (ms := [164]) okp (orcOf_ok noCtr) (by kernel_rfl)
def c3773 : Ctr := ⟨290, [vp 100 0, va [vi 2, vi 12]], gl0, [k418, .map [vi 1] [vl 105 0 3 3] [0] 1, k398, k419, k417, .cells [vi 1, vi 1, vi 1] 3 1 true true, k2, k56, k2, k317, k354, k388, .cells [vq 0, vi 1] 56 2 true true, k294, k330, k367, k403], re (vl 117 0 16 16), [some k418, some (.map [vi 1] [vl 105 0 3 3] [0] 1), some k398, some k419, some k417, some (.cells [vi 1, vi 1, vi 1] 3 1 true true), some k2, some k56, some k2, some k317, some k354, some k388, some (.cells [vq 0, vi 1] 56 2 true true), some k294, some k330, some k367, some k403], [k384]⟩
set_option maxRecDepth 100000 in
theorem v3773 : Valid Tryz.prog 100 c3773 := made_valid (orc := orcOf 100 []) (N := 1000000) (ms := [165]) okp (orcOf_ok noCtr) (by kernel_rfl)
def c3826 : Ctr := ⟨259, [k413], gl0, [k42, k46, k30, k276, k392, k414, k262, .cells [vi 1, vi 4] 47 2 true true, k229, .cells [vi 1] 3 1 true true, k388, k56, k2, k317, k354, k388, .cells [vq 0, vi 1] 56 2 true true, k294, k330, k367, k403], re (vp 121 0), [some k42, some k46, some k30, some k276, some k392, some k414, some k262, some (.cells [vi 1, vi 4] 47 2 true true), some k229, some (.cells [vi 1] 3 1 true true), some k388, some k56, some k2, some k317, some k354, some k388, some (.cells [vq 0, vi 1] 56 2 true true), some k294, some k330, some k367, some k403], [k415, .map [vi 1] [vl 126 0 3 3] [0] 1, k394, k416, k417, .cells [vi 1, vi 1, vi 1] 3 1 true true]⟩
set_option maxRecDepth 100000 in
theorem v3826 : Valid Tryz.prog 100 c3826 := made_valid (orc := orcOf 100 []) (N := 1000000) (ms := [125, 122, 123, 124, 173, 135]) okp (orcOf_ok noCtr) (by kernel_rfl)
def c3833 : Ctr := ⟨290, [vp 100 0, va [vi 2, vi 10]], gl0, [k418, .map [vi 1] [vl 105 0 3 3] [0] 1, k398, k419, k417, .cells [vi 1, vi 1, vi 1] 3 1 true true, k388, k56, k2, k317, k354, k388, .cells [vq 0, vi 1] 56 2 true true, k294, k330, k367, k403], re (vl 117 0 16 16), [some k418, some (.map [vi 1] [vl 105 0 3 3] [0] 1), some k398, some k419, some k417, some (.cells [vi 1, vi 1, vi 1] 3 1 true true), some k388, some k56, some k2, some k317, some k354, some k388, some (.cells [vq 0, vi 1] 56 2 true true), some k294, some k330, some k367, some k403], [k309]⟩
set_option maxRecDepth 100000 in
theorem v3833 : Valid Tryz.prog 100 c3833 := made_valid (orc := orcOf 100 []) (N := 1000000) (ms := [165]) okp (orcOf_ok noCtr) (by kernel_rfl)
def c3928 : Ctr := ⟨290, [vp 100 0, va [vi 2, vi 11]], gl0, [k418, .map [vi 1] [vl 105 0 3 3] [0] 1, k398, k419, k417, .cells [vi 1, vi 1, vi 1] 3 1 true true, k444, k56, k2, k317, k354, k388, .cells [vq 0, vi 1] 56 2 true true, k294, k330, k367, k403], re (vl 117 0 16 16), [some k418, some (.map [vi 1] [vl 105 0 3 3] [0] 1), some k398, some k419, some k417, some (.cells [vi 1, vi 1, vi 1] 3 1 true true), some k444, some k56, some k2, some k317, some k354, some k388, some (.cells [vq 0, vi 1] 56 2 true true), some k294, some k330, some k367, some k403], [k349]⟩
set_option maxRecDepth 100000 in
theorem v3928 : Valid Tryz.prog 100 c3928 := made_valid (orc := orcOf 100 []) (N := 1000000) (ms := [165]) okp (orcOf_ok noCtr) (by kernel_rfl)
def c3965 : Ctr := ⟨292, [va [vi 2, vi 10], vp 100 0, vp 101 0, vp 102 0, vp 103 0], gl0, [ao 373 1 [.map (some 104)], ao 337 1 [vp 105 0], k434, ao 376 1 [vf 291 [] [vp 102 0]], .map [] [] [] 0, k435, .map [vi 1] [vl 110 0 3 3] [0] 1, k436, k437, k417, .cells [vi 1, vi 1, vi 1] 3 1 true true, k444, k56, k2, k317, k354, k388, .cells [vq 0, vi 1] 56 2 true true, k294, k330, k367, k403], re (vi 16), [some (ao 373 1 [.map (some 104)]), some (ao 337 1 [vp 105 0]), some k434, some (ao 376 1 [vf 291 [] [vp 102 0]]), some k438, some k435, some (.map [vi 1] [vl 110 0 3 3] [0] 1), some k436, some k437, some k417, some (.cells [vi 1, vi 1, vi 1] 3 1 true true), some k444, some k56, some k2, some k317, some k354, some k388, some (.cells [vq 0, vi 1] 56 2 true true), some k294, some k330, some k367, some k403], []⟩
set_option maxRecDepth 100000 in
theorem v3965 : Valid Tryz.prog 100 c3965 := made_valid (orc := orcOf 100 []) (N := 1000000) (ms := []) okp (orcOf_ok noCtr) (by kernel_rfl)
def c4004 : Ctr := ⟨109, [vl 100 0 16 16, vl 100 0 16 16], gl0, [k403], re (vb true), [some k403], []⟩
set_option maxRecDepth 100000 in
theorem v4004 : Valid Tryz.prog 100 c4004 := made_valid (orc := orcOf 100 []) (N := 1000000) (ms := []) okp (orcOf_ok noCtr) (by kernel_rfl)
def c4072 : Ctr := ⟨290, [vp 100 0, va [vi 2, vi 10]], gl0, [k397, .map [] [] [] 0, k459, k460, k458, k388, k56, k2, k317, k354, k388, .cells [vq 0, vi 1] 56 2 true true, k294, k330, k367, k403], re (vl 116 0 16 16), [some k397, some (.map [] [] [] 0), some k459, some k460, some k458, some k388, some k56, some k2, some k317, some k354, some k388, some (.cells [vq 0, vi 1] 56 2 true true), some k294, some k330, some k367, some k403], [k309]⟩
set_option maxRecDepth 100000 in
theorem v4072 : Valid Tryz.prog 100 c4072 := made_valid (orc := orcOf 100 []) (N := 1000000) (ms := [164]) okp (orcOf_ok noCtr) (by kernel_rfl)
end
end Go.Proofs.YtfhkbepjppcjmaaGreatDoor.configNames
