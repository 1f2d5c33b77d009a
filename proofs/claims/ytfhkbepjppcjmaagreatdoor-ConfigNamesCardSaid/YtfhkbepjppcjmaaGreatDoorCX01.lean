/- What calls of the program do, told of the few objects that they see; printed by a program of mine from a run of the evaluator. -/
import Derived.Test.YtfhkbepjppcjmaaGreatDoorCXG
namespace Go.Proofs.YtfhkbepjppcjmaaGreatDoor.configNames
open Go Go.Abs
set_option linter.unusedVariables false
noncomputable section
def c2 : Ctr := ⟨70, [vL], gl0, [], re (vL), [], []⟩
set_option maxRecDepth 100000 in
theorem v2 : Valid Tryz.prog 100 c2 := made_valid (orc := orcOf 100 []) (N := 1000000) (ms := []) okp (orcOf_ok noCtr) (by kernel_rfl)
def c5 : Ctr := ⟨72, [vL], gl0, [], re (vL), [], []⟩
set_option maxRecDepth 100000 in
theorem v5 : Valid Tryz.prog 100 c5 := made_valid (orc := orcOf 100 []) (N := 1000000) (ms := []) okp (orcOf_ok noCtr) (by kernel_rfl)
def c41 : Ctr := ⟨28, [.nilIface, vI 96 (vp 100 0)], gl0, [ao 94 1 [vi 0]], re (vb false), [some (ao 94 1 [vi 0])], []⟩
set_option maxRecDepth 100000 in
theorem v41 : Valid Tryz.prog 100 c41 := made_valid (orc := orcOf 100 []) (N := 1000000) (ms := []) okp (orcOf_ok noCtr) (by kernel_rfl)
def c82 : Ctr := ⟨185, [k5, va [vi 0, vi 1]], gl0, [k1, k6, k2], re (vt [vi 0, vi 0]), [some k1, some k6, some k2], []⟩
set_option maxRecDepth 100000 in
theorem v82 : Valid Tryz.prog 100 c82 := made_valid (orc := orcOf 100 []) (N := 1000000) (ms := []) okp (orcOf_ok noCtr) (by kernel_rfl)
def c132 : Ctr := ⟨260, [vp 100 0], gl0, [k15, .map [vi 1] [vl 105 0 1 1] [0] 1, .map [vi 1] [vl 106 0 1 1] [0] 1, .map [] [] [] 0, k16, ao 3 1 [vi 1], k2], re (vb false), [some k15, some (.map [vi 1] [vl 105 0 1 1] [0] 1), some (.map [vi 1] [vl 106 0 1 1] [0] 1), some (.map [] [] [] 0), some k16, some (ao 3 1 [vi 1]), some k2], []⟩
set_option maxRecDepth 100000 in
theorem v132 : Valid Tryz.prog 100 c132 := made_valid (orc := orcOf 100 []) (N := 1000000) (ms := []) okp (orcOf_ok noCtr) (by kernel_rfl)
def c160 : Ctr := ⟨194, [vi 1, vi 2], gl0, [], re (vm 1), [], []⟩
set_option maxRecDepth 100000 in
theorem v160 : Valid Tryz.prog 100 c160 := made_valid (orc := orcOf 100 []) (N := 1000000) (ms := []) okp (orcOf_ok noCtr) (by kernel_rfl)
def c217 : Ctr := ⟨28, [vI 94 (va [vi 10]), vI 96 (vp 100 0)], gl0, [ao 94 1 [vi 0]], re (vb true), [some (ao 94 1 [vi 10])], []⟩
theorem v217 : Valid Tryz.prog 100 c217 := asHit.as_valid _
def c426 : Ctr := ⟨260, [vp 100 0], gl0, [k52, .map [vi 1] [vl 105 0 1 1] [0] 1, .map [vi 1] [vl 106 0 1 1] [0] 1, k53, k54, ao 3 1 [vi 1], k2, .cells [vq 0, vi 1] 56 2 true true], re (vb false), [some k52, some (.map [vi 1] [vl 105 0 1 1] [0] 1), some (.map [vi 1] [vl 106 0 1 1] [0] 1), some k53, some k54, some (ao 3 1 [vi 1]), some k2, some (.cells [vq 0, vi 1] 56 2 true true)], []⟩
set_option maxRecDepth 100000 in
theorem v426 : Valid Tryz.prog 100 c426 := made_valid (orc := orcOf 100 []) (N := 1000000) (ms := []) okp (orcOf_ok noCtr) (by kernel_rfl)
def c508 : Ctr := ⟨53, [vl 100 0 1 1, vl 100 0 1 1, vf 54 [] []], gl0, [k42], re (vb true), [some k42], []⟩
set_option maxRecDepth 100000 in
theorem v508 : Valid Tryz.prog 100 c508 := made_valid (orc := orcOf 100 []) (N := 1000000) (ms := []) okp (orcOf_ok noCtr) (by kernel_rfl)
def c512 : Ctr := ⟨56, [vl 100 0 1 1, vl 100 0 1 1, vf 57 [] []], gl0, [k14, .cells [vi 1] 3 1 true true], re (vb true), [some k14, some (.cells [vi 1] 3 1 true true)], []⟩
set_option maxRecDepth 100000 in
theorem v512 : Valid Tryz.prog 100 c512 := made_valid (orc := orcOf 100 []) (N := 1000000) (ms := []) okp (orcOf_ok noCtr) (by kernel_rfl)
def c757 : Ctr := ⟨228, [vp 100 0, vp 101 0], gl0, [k88, ao 133 1 [vp 103 0], .cells [vi 9] 3 1 true true, k89, k42, k46, k50, k80, k60, .cells [vi 1, vi 0, vi 0] 45 3 true true, .cells [vi 1, vi 4] 47 2 true true, .cells [vi 1] 3 1 true true, .cells [vi 1] 3 1 true true, k2, k56, .cells [vq 0, vi 1] 56 2 true true], re (vI 94 (va [vi 8])), [some k88, some (ao 133 1 [vp 103 0]), some (.cells [vi 9] 3 1 true true), some k89, some k42, some k46, some k50, some k80, some k60, some (.cells [vi 1, vi 0, vi 0] 45 3 true true), some (.cells [vi 1, vi 4] 47 2 true true), some (.cells [vi 1] 3 1 true true), some (.cells [vi 1] 3 1 true true), some k2, some k56, some (.cells [vq 0, vi 1] 56 2 true true)], []⟩
set_option maxRecDepth 100000 in
theorem v757 : Valid Tryz.prog 100 c757 := made_valid (orc := orcOf 100 []) (N := 1000000) (ms := []) okp (orcOf_ok noCtr) (by kernel_rfl)
def c780 : Ctr := ⟨156, [vl 100 0 4 4, vi 3, vf 113 [] []], gl0, [k46], re (vt [vi 2, vb true]), [some k46], []⟩
set_option maxRecDepth 100000 in
theorem v780 : Valid Tryz.prog 100 c780 := made_valid (orc := orcOf 100 []) (N := 1000000) (ms := []) okp (orcOf_ok noCtr) (by kernel_rfl)
def c1195 : Ctr := ⟨259, [k110], gl0, [k42, k46, k25, k64, k65, .cells [vi 1, vi 0, vi 0] 45 3 true true, .cells [vi 1, vi 4] 47 2 true true, k109, .cells [vi 1] 3 1 true true, k2, k56, .cells [vq 0, vi 1] 56 2 true true], re (vp 112 0), [some k42, some k46, some k25, some k64, some k65, some (.cells [vi 1, vi 0, vi 0] 45 3 true true), some (.cells [vi 1, vi 4] 47 2 true true), some k109, some (.cells [vi 1] 3 1 true true), some k2, some k56, some (.cells [vq 0, vi 1] 56 2 true true)], [k66, .map [vi 1] [vl 117 0 1 1] [0] 1, k67, k68, k69, ao 3 1 [vi 1]]⟩
set_option maxRecDepth 100000 in
theorem v1195 : Valid Tryz.prog 100 c1195 := made_valid (orc := orcOf 100 []) (N := 1000000) (ms := [116, 113, 114, 115, 130, 118]) okp (orcOf_ok noCtr) (by kernel_rfl)
def c1281 : Ctr := ⟨259, [k117], gl0, [k42, k46, k25, k64, k65, .cells [vi 1, vi 0, vi 0] 45 3 true true, .cells [vi 1, vi 4] 47 2 true true, k118, .cells [vi 1] 3 1 true true, k2, k56, .cells [vq 0, vi 1] 56 2 true true], re (vp 112 0), [some k42, some k46, some k25, some k64, some k65, some (.cells [vi 1, vi 0, vi 0] 45 3 true true), some (.cells [vi 1, vi 4] 47 2 true true), some k118, some (.cells [vi 1] 3 1 true true), some k2, some k56, some (.cells [vq 0, vi 1] 56 2 true true)], [k66, .map [vi 1] [vl 117 0 1 1] [0] 1, k67, k68, k69, ao 3 1 [vi 1]]⟩
set_option maxRecDepth 100000 in
theorem v1281 : Valid Tryz.prog 100 c1281 := made_valid (orc := orcOf 100 []) (N := 1000000) (ms := [116, 113, 114, 115, 130, 118]) okp (orcOf_ok noCtr) (by kernel_rfl)
def c1368 : Ctr := ⟨168, [vl 100 0 11 11, vi 12, vf 128 [] []], gl0, [k124], re (vt [vi 11, vb false]), [some k124], []⟩
set_option maxRecDepth 100000 in
theorem v1368 : Valid Tryz.prog 100 c1368 := made_valid (orc := orcOf 100 []) (N := 1000000) (ms := []) okp (orcOf_ok noCtr) (by kernel_rfl)
def c1375 : Ctr := ⟨259, [k125], gl0, [k42, k46, k25, k64, k65, .cells [vi 1, vi 0, vi 0] 45 3 true true, .cells [vi 1, vi 4] 47 2 true true, k126, .cells [vi 1] 3 1 true true, k2, k56, .cells [vq 0, vi 1] 56 2 true true], re (vp 112 0), [some k42, some k46, some k25, some k64, some k65, some (.cells [vi 1, vi 0, vi 0] 45 3 true true), some (.cells [vi 1, vi 4] 47 2 true true), some k126, some (.cells [vi 1] 3 1 true true), some k2, some k56, some (.cells [vq 0, vi 1] 56 2 true true)], [k66, .map [vi 1] [vl 117 0 1 1] [0] 1, k67, k68, k69, ao 3 1 [vi 1]]⟩
set_option maxRecDepth 100000 in
theorem v1375 : Valid Tryz.prog 100 c1375 := made_valid (orc := orcOf 100 []) (N := 1000000) (ms := [116, 113, 114, 115, 130, 118]) okp (orcOf_ok noCtr) (by kernel_rfl)
def c1473 : Ctr := ⟨259, [va [vl 100 0 1 1, vl 101 0 4 4, vl 102 0 1 1, vL, vl 103 0 2 2, vl 104 0 1 1, vl 105 0 1 1, vl 106 0 1 1, vl 107 0 16 16]], gl0, [k42, k46, k25, k64, k65, .cells [vi 1, vi 0, vi 0] 45 3 true true, .cells [vi 1, vi 4] 47 2 true true, k133, .cells [vi 1] 3 1 true true, k2, k56, .cells [vq 0, vi 1] 56 2 true true], re (vp 112 0), [some k42, some k46, some k25, some k64, some k65, some (.cells [vi 1, vi 0, vi 0] 45 3 true true), some (.cells [vi 1, vi 4] 47 2 true true), some k133, some (.cells [vi 1] 3 1 true true), some k2, some k56, some (.cells [vq 0, vi 1] 56 2 true true)], [k66, .map [vi 1] [vl 117 0 1 1] [0] 1, k67, k68, k69, ao 3 1 [vi 1]]⟩
set_option maxRecDepth 100000 in
theorem v1473 : Valid Tryz.prog 100 c1473 := made_valid (orc := orcOf 100 []) (N := 1000000) (ms := [116, 113, 114, 115, 130, 118]) okp (orcOf_ok noCtr) (by kernel_rfl)
def c1491 : Ctr := ⟨214, [vl 100 0 16 16, vi 17, vf 215 [] [vp 101 0]], gl0, [k133, ao 203 1 [vf 128 [] []]], re (vt [vi 16, vb false]), [some k133, some (ao 203 1 [vf 128 [] []])], []⟩
set_option maxRecDepth 100000 in
theorem v1491 : Valid Tryz.prog 100 c1491 := made_valid (orc := orcOf 100 []) (N := 1000000) (ms := []) okp (orcOf_ok noCtr) (by kernel_rfl)
def c1577 : Ctr := ⟨259, [va [vl 100 0 1 1, vl 101 0 4 4, vl 102 0 1 1, vL, vl 103 0 2 2, vl 104 0 1 1, vl 105 0 1 1, vl 106 0 1 1, vl 107 0 20 20]], gl0, [k42, k46, k25, k64, k65, .cells [vi 1, vi 0, vi 0] 45 3 true true, .cells [vi 1, vi 4] 47 2 true true, k141, .cells [vi 1] 3 1 true true, k2, k56, .cells [vq 0, vi 1] 56 2 true true], re (vp 112 0), [some k42, some k46, some k25, some k64, some k65, some (.cells [vi 1, vi 0, vi 0] 45 3 true true), some (.cells [vi 1, vi 4] 47 2 true true), some k141, some (.cells [vi 1] 3 1 true true), some k2, some k56, some (.cells [vq 0, vi 1] 56 2 true true)], [k66, .map [vi 1] [vl 117 0 1 1] [0] 1, k67, k68, k69, ao 3 1 [vi 1]]⟩
set_option maxRecDepth 100000 in
theorem v1577 : Valid Tryz.prog 100 c1577 := made_valid (orc := orcOf 100 []) (N := 1000000) (ms := [116, 113, 114, 115, 130, 118]) okp (orcOf_ok noCtr) (by kernel_rfl)
def c1595 : Ctr := ⟨214, [vl 100 0 20 20, vi 21, vf 215 [] [vp 101 0]], gl0, [k141, ao 203 1 [vf 128 [] []]], re (vt [vi 20, vb false]), [some k141, some (ao 203 1 [vf 128 [] []])], []⟩
set_option maxRecDepth 100000 in
theorem v1595 : Valid Tryz.prog 100 c1595 := made_valid (orc := orcOf 100 []) (N := 1000000) (ms := []) okp (orcOf_ok noCtr) (by kernel_rfl)
def c1681 : Ctr := ⟨259, [va [vl 100 0 1 1, vl 101 0 4 4, vl 102 0 1 1, vL, vl 103 0 2 2, vl 104 0 1 1, vl 105 0 1 1, vl 106 0 1 1, vl 107 0 24 24]], gl0, [k42, k46, k25, k64, k65, .cells [vi 1, vi 0, vi 0] 45 3 true true, .cells [vi 1, vi 4] 47 2 true true, k149, .cells [vi 1] 3 1 true true, k2, k56, .cells [vq 0, vi 1] 56 2 true true], re (vp 112 0), [some k42, some k46, some k25, some k64, some k65, some (.cells [vi 1, vi 0, vi 0] 45 3 true true), some (.cells [vi 1, vi 4] 47 2 true true), some k149, some (.cells [vi 1] 3 1 true true), some k2, some k56, some (.cells [vq 0, vi 1] 56 2 true true)], [k66, .map [vi 1] [vl 117 0 1 1] [0] 1, k67, k68, k69, ao 3 1 [vi 1]]⟩
set_option maxRecDepth 100000 in
theorem v1681 : Valid Tryz.prog 100 c1681 := made_valid (orc := orcOf 100 []) (N := 1000000) (ms := [116, 113, 114, 115, 130, 118]) okp (orcOf_ok noCtr) (by kernel_rfl)
def c1699 : Ctr := ⟨214, [vl 100 0 24 24, vi 25, vf 215 [] [vp 101 0]], gl0, [k149, ao 203 1 [vf 128 [] []]], re (vt [vi 24, vb false]), [some k149, some (ao 203 1 [vf 128 [] []])], []⟩
set_option maxRecDepth 100000 in
theorem v1699 : Valid Tryz.prog 100 c1699 := made_valid (orc := orcOf 100 []) (N := 1000000) (ms := []) okp (orcOf_ok noCtr) (by kernel_rfl)
def c1785 : Ctr := ⟨259, [va [vl 100 0 1 1, vl 101 0 4 4, vl 102 0 1 1, vL, vl 103 0 2 2, vl 104 0 1 1, vl 105 0 1 1, vl 106 0 1 1, vl 107 0 28 28]], gl0, [k42, k46, k25, k64, k65, .cells [vi 1, vi 0, vi 0] 45 3 true true, .cells [vi 1, vi 4] 47 2 true true, k157, .cells [vi 1] 3 1 true true, k2, k56, .cells [vq 0, vi 1] 56 2 true true], re (vp 112 0), [some k42, some k46, some k25, some k64, some k65, some (.cells [vi 1, vi 0, vi 0] 45 3 true true), some (.cells [vi 1, vi 4] 47 2 true true), some k157, some (.cells [vi 1] 3 1 true true), some k2, some k56, some (.cells [vq 0, vi 1] 56 2 true true)], [k66, .map [vi 1] [vl 117 0 1 1] [0] 1, k67, k68, k69, ao 3 1 [vi 1]]⟩
set_option maxRecDepth 100000 in
theorem v1785 : Valid Tryz.prog 100 c1785 := made_valid (orc := orcOf 100 []) (N := 1000000) (ms := [116, 113, 114, 115, 130, 118]) okp (orcOf_ok noCtr) (by kernel_rfl)
def c1803 : Ctr := ⟨214, [vl 100 0 28 28, vi 29, vf 215 [] [vp 101 0]], gl0, [k157, ao 203 1 [vf 128 [] []]], re (vt [vi 28, vb false]), [some k157, some (ao 203 1 [vf 128 [] []])], []⟩
set_option maxRecDepth 100000 in
theorem v1803 : Valid Tryz.prog 100 c1803 := made_valid (orc := orcOf 100 []) (N := 1000000) (ms := []) okp (orcOf_ok noCtr) (by kernel_rfl)
def c1891 : Ctr := ⟨259, [va [vl 100 0 1 1, vl 101 0 4 4, vl 102 0 1 1, vL, vl 103 0 2 2, vl 104 0 1 1, vl 105 0 1 1, vl 106 0 1 1, vl 107 0 32 32]], gl0, [k42, k46, k25, k64, k65, .cells [vi 1, vi 0, vi 0] 45 3 true true, .cells [vi 1, vi 4] 47 2 true true, k165, .cells [vi 1] 3 1 true true, k2, k56, .cells [vq 0, vi 1] 56 2 true true], re (vp 112 0), [some k42, some k46, some k25, some k64, some k65, some (.cells [vi 1, vi 0, vi 0] 45 3 true true), some (.cells [vi 1, vi 4] 47 2 true true), some k165, some (.cells [vi 1] 3 1 true true), some k2, some k56, some (.cells [vq 0, vi 1] 56 2 true true)], [k66, .map [vi 1] [vl 117 0 1 1] [0] 1, k67, k68, k69, ao 3 1 [vi 1]]⟩
set_option maxRecDepth 100000 in
theorem v1891 : Valid Tryz.prog 100 c1891 := made_valid (orc := orcOf 100 []) (N := 1000000) (ms := [116, 113, 114, 115, 130, 118]) okp (orcOf_ok noCtr) (by kernel_rfl)
def c1939 : Ctr := ⟨214, [vl 100 0 33 33, vi 34, vf 215 [] [vp 101 0]], gl0, [k167, ao 203 1 [vf 128 [] []]], re (vt [vi 33, vb false]), [some k167, some (ao 203 1 [vf 128 [] []])], []⟩
set_option maxRecDepth 100000 in
theorem v1939 : Valid Tryz.prog 100 c1939 := made_valid (orc := orcOf 100 []) (N := 1000000) (ms := []) okp (orcOf_ok noCtr) (by kernel_rfl)
def c2003 : Ctr := ⟨259, [va [vl 100 0 1 1, vl 101 0 4 4, vl 102 0 1 1, vL, vl 103 0 2 2, vl 104 0 1 1, vl 105 0 1 1, vl 106 0 1 1, vl 107 0 36 36]], gl0, [k42, k46, k25, k64, k65, .cells [vi 1, vi 0, vi 0] 45 3 true true, .cells [vi 1, vi 4] 47 2 true true, k173, .cells [vi 1] 3 1 true true, k2, k56, .cells [vq 0, vi 1] 56 2 true true], re (vp 112 0), [some k42, some k46, some k25, some k64, some k65, some (.cells [vi 1, vi 0, vi 0] 45 3 true true), some (.cells [vi 1, vi 4] 47 2 true true), some k173, some (.cells [vi 1] 3 1 true true), some k2, some k56, some (.cells [vq 0, vi 1] 56 2 true true)], [k66, .map [vi 1] [vl 117 0 1 1] [0] 1, k67, k68, k69, ao 3 1 [vi 1]]⟩
set_option maxRecDepth 100000 in
theorem v2003 : Valid Tryz.prog 100 c2003 := made_valid (orc := orcOf 100 []) (N := 1000000) (ms := [116, 113, 114, 115, 130, 118]) okp (orcOf_ok noCtr) (by kernel_rfl)
def c2051 : Ctr := ⟨214, [vl 100 0 37 37, vi 38, vf 215 [] [vp 101 0]], gl0, [k175, ao 203 1 [vf 128 [] []]], re (vt [vi 37, vb false]), [some k175, some (ao 203 1 [vf 128 [] []])], []⟩
set_option maxRecDepth 100000 in
theorem v2051 : Valid Tryz.prog 100 c2051 := made_valid (orc := orcOf 100 []) (N := 1000000) (ms := []) okp (orcOf_ok noCtr) (by kernel_rfl)
def c2115 : Ctr := ⟨259, [va [vl 100 0 1 1, vl 101 0 4 4, vl 102 0 1 1, vL, vl 103 0 2 2, vl 104 0 1 1, vl 105 0 1 1, vl 106 0 1 1, vl 107 0 40 40]], gl0, [k42, k46, k25, k64, k65, .cells [vi 1, vi 0, vi 0] 45 3 true true, .cells [vi 1, vi 4] 47 2 true true, k181, .cells [vi 1] 3 1 true true, k2, k56, .cells [vq 0, vi 1] 56 2 true true], re (vp 112 0), [some k42, some k46, some k25, some k64, some k65, some (.cells [vi 1, vi 0, vi 0] 45 3 true true), some (.cells [vi 1, vi 4] 47 2 true true), some k181, some (.cells [vi 1] 3 1 true true), some k2, some k56, some (.cells [vq 0, vi 1] 56 2 true true)], [k66, .map [vi 1] [vl 117 0 1 1] [0] 1, k67, k68, k69, ao 3 1 [vi 1]]⟩
set_option maxRecDepth 100000 in
theorem v2115 : Valid Tryz.prog 100 c2115 := made_valid (orc := orcOf 100 []) (N := 1000000) (ms := [116, 113, 114, 115, 130, 118]) okp (orcOf_ok noCtr) (by kernel_rfl)
def c2163 : Ctr := ⟨214, [vl 100 0 41 41, vi 42, vf 215 [] [vp 101 0]], gl0, [k183, ao 203 1 [vf 128 [] []]], re (vt [vi 41, vb false]), [some k183, some (ao 203 1 [vf 128 [] []])], []⟩
set_option maxRecDepth 100000 in
theorem v2163 : Valid Tryz.prog 100 c2163 := made_valid (orc := orcOf 100 []) (N := 1000000) (ms := []) okp (orcOf_ok noCtr) (by kernel_rfl)
def c2227 : Ctr := ⟨259, [va [vl 100 0 1 1, vl 101 0 4 4, vl 102 0 1 1, vL, vl 103 0 2 2, vl 104 0 1 1, vl 105 0 1 1, vl 106 0 1 1, vl 107 0 44 44]], gl0, [k42, k46, k25, k64, k65, .cells [vi 1, vi 0, vi 0] 45 3 true true, .cells [vi 1, vi 4] 47 2 true true, k189, .cells [vi 1] 3 1 true true, k2, k56, .cells [vq 0, vi 1] 56 2 true true], re (vp 112 0), [some k42, some k46, some k25, some k64, some k65, some (.cells [vi 1, vi 0, vi 0] 45 3 true true), some (.cells [vi 1, vi 4] 47 2 true true), some k189, some (.cells [vi 1] 3 1 true true), some k2, some k56, some (.cells [vq 0, vi 1] 56 2 true true)], [k66, .map [vi 1] [vl 117 0 1 1] [0] 1, k67, k68, k69, ao 3 1 [vi 1]]⟩
set_option maxRecDepth 100000 in
theorem v2227 : Valid Tryz.prog 100 c2227 := made_valid (orc := orcOf 100 []) (N := 1000000) (ms := [116, 113, 114, 115, 130, 118]) okp (orcOf_ok noCtr) (by kernel_rfl)
def c2275 : Ctr := ⟨214, [vl 100 0 45 45, vi 46, vf 215 [] [vp 101 0]], gl0, [k191, ao 203 1 [vf 128 [] []]], re (vt [vi 45, vb false]), [some k191, some (ao 203 1 [vf 128 [] []])], []⟩
set_option maxRecDepth 100000 in
theorem v2275 : Valid Tryz.prog 100 c2275 := made_valid (orc := orcOf 100 []) (N := 1000000) (ms := []) okp (orcOf_ok noCtr) (by kernel_rfl)
def c2339 : Ctr := ⟨259, [va [vl 100 0 1 1, vl 101 0 4 4, vl 102 0 1 1, vL, vl 103 0 2 2, vl 104 0 1 1, vl 105 0 1 1, vl 106 0 1 1, vl 107 0 48 48]], gl0, [k42, k46, k25, k64, k65, .cells [vi 1, vi 0, vi 0] 45 3 true true, .cells [vi 1, vi 4] 47 2 true true, k197, .cells [vi 1] 3 1 true true, k2, k56, .cells [vq 0, vi 1] 56 2 true true], re (vp 112 0), [some k42, some k46, some k25, some k64, some k65, some (.cells [vi 1, vi 0, vi 0] 45 3 true true), some (.cells [vi 1, vi 4] 47 2 true true), some k197, some (.cells [vi 1] 3 1 true true), some k2, some k56, some (.cells [vq 0, vi 1] 56 2 true true)], [k66, .map [vi 1] [vl 117 0 1 1] [0] 1, k67, k68, k69, ao 3 1 [vi 1]]⟩
set_option maxRecDepth 100000 in
theorem v2339 : Valid Tryz.prog 100 c2339 := made_valid (orc := orcOf 100 []) (N := 1000000) (ms := [116, 113, 114, 115, 130, 118]) okp (orcOf_ok noCtr) (by kernel_rfl)
def c2387 : Ctr := ⟨214, [vl 100 0 49 49, vi 50, vf 215 [] [vp 101 0]], gl0, [k199, ao 203 1 [vf 128 [] []]], re (vt [vi 49, vb false]), [some k199, some (ao 203 1 [vf 128 [] []])], []⟩
set_option maxRecDepth 100000 in
theorem v2387 : Valid Tryz.prog 100 c2387 := made_valid (orc := orcOf 100 []) (N := 1000000) (ms := []) okp (orcOf_ok noCtr) (by kernel_rfl)
def c2451 : Ctr := ⟨259, [va [vl 100 0 1 1, vl 101 0 4 4, vl 102 0 1 1, vL, vl 103 0 2 2, vl 104 0 1 1, vl 105 0 1 1, vl 106 0 1 1, vl 107 0 52 52]], gl0, [k42, k46, k25, k64, k65, .cells [vi 1, vi 0, vi 0] 45 3 true true, .cells [vi 1, vi 4] 47 2 true true, k205, .cells [vi 1] 3 1 true true, k2, k56, .cells [vq 0, vi 1] 56 2 true true], re (vp 112 0), [some k42, some k46, some k25, some k64, some k65, some (.cells [vi 1, vi 0, vi 0] 45 3 true true), some (.cells [vi 1, vi 4] 47 2 true true), some k205, some (.cells [vi 1] 3 1 true true), some k2, some k56, some (.cells [vq 0, vi 1] 56 2 true true)], [k66, .map [vi 1] [vl 117 0 1 1] [0] 1, k67, k68, k69, ao 3 1 [vi 1]]⟩
set_option maxRecDepth 100000 in
theorem v2451 : Valid Tryz.prog 100 c2451 := made_valid (orc := orcOf 100 []) (N := 1000000) (ms := [116, 113, 114, 115, 130, 118]) okp (orcOf_ok noCtr) (by kernel_rfl)
def c2499 : Ctr := ⟨214, [vl 100 0 53 53, vi 54, vf 215 [] [vp 101 0]], gl0, [k207, ao 203 1 [vf 128 [] []]], re (vt [vi 53, vb false]), [some k207, some (ao 203 1 [vf 128 [] []])], []⟩
set_option maxRecDepth 100000 in
theorem v2499 : Valid Tryz.prog 100 c2499 := made_valid (orc := orcOf 100 []) (N := 1000000) (ms := []) okp (orcOf_ok noCtr) (by kernel_rfl)
def c2563 : Ctr := ⟨259, [va [vl 100 0 1 1, vl 101 0 4 4, vl 102 0 1 1, vL, vl 103 0 2 2, vl 104 0 1 1, vl 105 0 1 1, vl 106 0 1 1, vl 107 0 56 56]], gl0, [k42, k46, k25, k64, k65, .cells [vi 1, vi 0, vi 0] 45 3 true true, .cells [vi 1, vi 4] 47 2 true true, k213, .cells [vi 1] 3 1 true true, k2, k56, .cells [vq 0, vi 1] 56 2 true true], re (vp 112 0), [some k42, some k46, some k25, some k64, some k65, some (.cells [vi 1, vi 0, vi 0] 45 3 true true), some (.cells [vi 1, vi 4] 47 2 true true), some k213, some (.cells [vi 1] 3 1 true true), some k2, some k56, some (.cells [vq 0, vi 1] 56 2 true true)], [k66, .map [vi 1] [vl 117 0 1 1] [0] 1, k67, k68, k69, ao 3 1 [vi 1]]⟩
set_option maxRecDepth 100000 in
theorem v2563 : Valid Tryz.prog 100 c2563 := made_valid (orc := orcOf 100 []) (N := 1000000) (ms := [116, 113, 114, 115, 130, 118]) okp (orcOf_ok noCtr) (by kernel_rfl)
def c2611 : Ctr := ⟨214, [vl 100 0 57 57, vi 58, vf 215 [] [vp 101 0]], gl0, [k215, ao 203 1 [vf 128 [] []]], re (vt [vi 57, vb false]), [some k215, some (ao 203 1 [vf 128 [] []])], []⟩
set_option maxRecDepth 100000 in
theorem v2611 : Valid Tryz.prog 100 c2611 := made_valid (orc := orcOf 100 []) (N := 1000000) (ms := []) okp (orcOf_ok noCtr) (by kernel_rfl)
def c2675 : Ctr := ⟨259, [va [vl 100 0 1 1, vl 101 0 4 4, vl 102 0 1 1, vL, vl 103 0 2 2, vl 104 0 1 1, vl 105 0 1 1, vl 106 0 1 1, vl 107 0 60 60]], gl0, [k42, k46, k25, k64, k65, .cells [vi 1, vi 0, vi 0] 45 3 true true, .cells [vi 1, vi 4] 47 2 true true, k221, .cells [vi 1] 3 1 true true, k2, k56, .cells [vq 0, vi 1] 56 2 true true], re (vp 112 0), [some k42, some k46, some k25, some k64, some k65, some (.cells [vi 1, vi 0, vi 0] 45 3 true true), some (.cells [vi 1, vi 4] 47 2 true true), some k221, some (.cells [vi 1] 3 1 true true), some k2, some k56, some (.cells [vq 0, vi 1] 56 2 true true)], [k66, .map [vi 1] [vl 117 0 1 1] [0] 1, k67, k68, k69, ao 3 1 [vi 1]]⟩
set_option maxRecDepth 100000 in
theorem v2675 : Valid Tryz.prog 100 c2675 := made_valid (orc := orcOf 100 []) (N := 1000000) (ms := [116, 113, 114, 115, 130, 118]) okp (orcOf_ok noCtr) (by kernel_rfl)
def c2723 : Ctr := ⟨214, [vl 100 0 61 61, vi 62, vf 215 [] [vp 101 0]], gl0, [k223, ao 203 1 [vf 128 [] []]], re (vt [vi 61, vb false]), [some k223, some (ao 203 1 [vf 128 [] []])], []⟩
set_option maxRecDepth 100000 in
theorem v2723 : Valid Tryz.prog 100 c2723 := made_valid (orc := orcOf 100 []) (N := 1000000) (ms := []) okp (orcOf_ok noCtr) (by kernel_rfl)
def c2781 : Ctr := ⟨214, [vl 100 0 63 63, vi 64, vf 215 [] [vp 101 0]], gl0, [k227, ao 203 1 [vf 128 [] []]], re (vt [vi 63, vb false]), [some k227, some (ao 203 1 [vf 128 [] []])], []⟩
set_option maxRecDepth 100000 in
theorem v2781 : Valid Tryz.prog 100 c2781 := made_valid (orc := orcOf 100 []) (N := 1000000) (ms := []) okp (orcOf_ok noCtr) (by kernel_rfl)
def c2789 : Ctr := ⟨259, [k230], gl0, [k42, k46, k25, k64, k65, .cells [vi 1, vi 0, vi 0] 45 3 true true, .cells [vi 1, vi 4] 47 2 true true, k229, .cells [vi 1] 3 1 true true, k2, k56, .cells [vq 0, vi 1] 56 2 true true], re (vp 112 0), [some k42, some k46, some k25, some k64, some k65, some (.cells [vi 1, vi 0, vi 0] 45 3 true true), some (.cells [vi 1, vi 4] 47 2 true true), some k229, some (.cells [vi 1] 3 1 true true), some k2, some k56, some (.cells [vq 0, vi 1] 56 2 true true)], [k66, .map [vi 1] [vl 117 0 1 1] [0] 1, k67, k68, k69, ao 3 1 [vi 1]]⟩
set_option maxRecDepth 100000 in
theorem v2789 : Valid Tryz.prog 100 c2789 := made_valid (orc := orcOf 100 []) (N := 1000000) (ms := [116, 113, 114, 115, 130, 118]) okp (orcOf_ok noCtr) (by kernel_rfl)
def c2860 : Ctr := ⟨259, [k238], gl0, [k42, k46, k25, k64, k65, k237, .cells [vi 1, vi 4] 47 2 true true, k229, .cells [vi 1] 3 1 true true, k2, k56, .cells [vq 0, vi 1] 56 2 true true], re (vp 112 0), [some k42, some k46, some k25, some k64, some k65, some k237, some (.cells [vi 1, vi 4] 47 2 true true), some k229, some (.cells [vi 1] 3 1 true true), some k2, some k56, some (.cells [vq 0, vi 1] 56 2 true true)], [k66, .map [vi 1] [vl 117 0 1 1] [0] 1, k67, k68, k69, ao 3 1 [vi 1]]⟩
set_option maxRecDepth 100000 in
theorem v2860 : Valid Tryz.prog 100 c2860 := made_valid (orc := orcOf 100 []) (N := 1000000) (ms := [116, 113, 114, 115, 130, 118]) okp (orcOf_ok noCtr) (by kernel_rfl)
def c2938 : Ctr := ⟨259, [va [vl 100 0 1 1, vl 101 0 4 4, vl 102 0 1 1, vL, vl 103 0 2 2, vl 104 0 1 1, vl 105 0 9 9, vl 106 0 1 1, vl 107 0 64 64]], gl0, [k42, k46, k25, k64, k65, k245, .cells [vi 1, vi 4] 47 2 true true, k229, .cells [vi 1] 3 1 true true, k2, k56, .cells [vq 0, vi 1] 56 2 true true], re (vp 112 0), [some k42, some k46, some k25, some k64, some k65, some k245, some (.cells [vi 1, vi 4] 47 2 true true), some k229, some (.cells [vi 1] 3 1 true true), some k2, some k56, some (.cells [vq 0, vi 1] 56 2 true true)], [k66, .map [vi 1] [vl 117 0 1 1] [0] 1, k67, k68, k69, ao 3 1 [vi 1]]⟩
set_option maxRecDepth 100000 in
theorem v2938 : Valid Tryz.prog 100 c2938 := made_valid (orc := orcOf 100 []) (N := 1000000) (ms := [116, 113, 114, 115, 130, 118]) okp (orcOf_ok noCtr) (by kernel_rfl)
def c2971 : Ctr := ⟨164, [vl 100 0 10 10, vi 11, vf 124 [] []], gl0, [k247], re (vt [vi 10, vb false]), [some k247], []⟩
set_option maxRecDepth 100000 in
theorem v2971 : Valid Tryz.prog 100 c2971 := made_valid (orc := orcOf 100 []) (N := 1000000) (ms := []) okp (orcOf_ok noCtr) (by kernel_rfl)
def c3018 : Ctr := ⟨259, [k254], gl0, [k42, k46, k25, k64, k65, k253, .cells [vi 1, vi 4] 47 2 true true, k229, .cells [vi 1] 3 1 true true, k2, k56, .cells [vq 0, vi 1] 56 2 true true], re (vp 112 0), [some k42, some k46, some k25, some k64, some k65, some k253, some (.cells [vi 1, vi 4] 47 2 true true), some k229, some (.cells [vi 1] 3 1 true true), some k2, some k56, some (.cells [vq 0, vi 1] 56 2 true true)], [k66, .map [vi 1] [vl 117 0 1 1] [0] 1, k67, k68, k69, ao 3 1 [vi 1]]⟩
set_option maxRecDepth 100000 in
theorem v3018 : Valid Tryz.prog 100 c3018 := made_valid (orc := orcOf 100 []) (N := 1000000) (ms := [116, 113, 114, 115, 130, 118]) okp (orcOf_ok noCtr) (by kernel_rfl)
def c3051 : Ctr := ⟨164, [vl 100 0 14 14, vi 15, vf 124 [] []], gl0, [k256], re (vt [vi 14, vb false]), [some k256], []⟩
set_option maxRecDepth 100000 in
theorem v3051 : Valid Tryz.prog 100 c3051 := made_valid (orc := orcOf 100 []) (N := 1000000) (ms := []) okp (orcOf_ok noCtr) (by kernel_rfl)
def c3157 : Ctr := ⟨260, [vp 100 0], gl0, [k70, .map [vi 1] [vl 105 0 2 2] [0] 1, k71, k72, k69, .cells [vi 1, vi 1] 3 1 true true, k2, k56, .cells [vq 0, vi 1] 56 2 true true], re (vb false), [some k70, some (.map [vi 1] [vl 105 0 2 2] [0] 1), some k71, some k72, some k69, some (.cells [vi 1, vi 1] 3 1 true true), some k2, some k56, some (.cells [vq 0, vi 1] 56 2 true true)], []⟩
set_option maxRecDepth 100000 in
theorem v3157 : Valid Tryz.prog 100 c3157 := made_valid (orc := orcOf 100 []) (N := 1000000) (ms := []) okp (orcOf_ok noCtr) (by kernel_rfl)
def c3336 : Ctr := ⟨229, [vp 100 0, vi 10], gl0, [k295, k42, k46, k36, k276, k296, k280, k262, .cells [vi 1, vi 4] 47 2 true true, k229, .cells [vi 1] 3 1 true true, k2, k56, k2, .cells [vq 0, vi 1] 56 2 true true], re (vb true), [some k295, some k42, some k46, some k36, some k276, some k296, some k280, some k262, some (.cells [vi 1, vi 4] 47 2 true true), some k229, some (.cells [vi 1] 3 1 true true), some k2, some k56, some k2, some (.cells [vq 0, vi 1] 56 2 true true)], []⟩
set_option maxRecDepth 100000 in
theorem v3336 : Valid Tryz.prog 100 c3336 := made_valid (orc := orcOf 100 []) (N := 1000000) (ms := []) okp (orcOf_ok noCtr) (by kernel_rfl)
def c3347 : Ctr := ⟨259, [k303], gl0, [k42, k46, k30, k276, k287, k304, k262, .cells [vi 1, vi 4] 47 2 true true, k229, .cells [vi 1] 3 1 true true, k2, k56, k2, .cells [vq 0, vi 1] 56 2 true true, k294], re (vp 115 0), [some k42, some k46, some k30, some k276, some k287, some k304, some k262, some (.cells [vi 1, vi 4] 47 2 true true), some k229, some (.cells [vi 1] 3 1 true true), some k2, some k56, some k2, some (.cells [vq 0, vi 1] 56 2 true true), some k294], [ao 370 4 [.map (some 116), .map (some 117), .map (some 118), vl 119 0 6 6], .map [vi 1] [vl 120 0 3 3] [0] 1, k288, k305, k306, .cells [vi 1, vi 1, vi 1] 3 1 true true]⟩
set_option maxRecDepth 100000 in
theorem v3347 : Valid Tryz.prog 100 c3347 := made_valid (orc := orcOf 100 []) (N := 1000000) (ms := [119, 116, 117, 118, 146, 129]) okp (orcOf_ok noCtr) (by kernel_rfl)
def c3393 : Ctr := ⟨231, [vp 100 0, va [vu 3, vi 10]], gl0, [k312, k42, k46, k36, k276, k296, k313, k262, .cells [vi 1, vi 4] 47 2 true true, k229, .cells [vi 1] 3 1 true true, k2, k56, k2, .cells [vq 0, vi 1] 56 2 true true, k294], re (vb true), [some k312, some k42, some k46, some k36, some k276, some k296, some k313, some k262, some (.cells [vi 1, vi 4] 47 2 true true), some k229, some (.cells [vi 1] 3 1 true true), some k2, some k56, some k2, some (.cells [vq 0, vi 1] 56 2 true true), some k294], []⟩
set_option maxRecDepth 100000 in
theorem v3393 : Valid Tryz.prog 100 c3393 := made_valid (orc := orcOf 100 []) (N := 1000000) (ms := []) okp (orcOf_ok noCtr) (by kernel_rfl)
def c3424 : Ctr := ⟨290, [vp 100 0, va [vi 2, vi 10]], gl0, [k324, .map [vi 1] [vl 105 0 3 3] [0] 1, k325, k326, k323, .cells [vi 1, vi 1, vi 1] 3 1 true true, k2, k56, k2, k317, .cells [vq 0, vi 1] 56 2 true true, k294], re (vl 112 0 16 16), [some k324, some (.map [vi 1] [vl 105 0 3 3] [0] 1), some k325, some k326, some k323, some (.cells [vi 1, vi 1, vi 1] 3 1 true true), some k2, some k56, some k2, some k317, some (.cells [vq 0, vi 1] 56 2 true true), some k294], [k309]⟩
set_option maxRecDepth 100000 in
theorem v3424 : Valid Tryz.prog 100 c3424 := made_valid (orc := orcOf 100 []) (N := 1000000) (ms := [160]) okp (orcOf_ok noCtr) (by kernel_rfl)
def c3551 : Ctr := ⟨290, [vp 100 0, va [vi 2, vi 10]], gl0, [k361, .map [vi 1] [vl 105 0 3 3] [0] 1, k362, k363, k360, .cells [vi 1, vi 1, vi 1] 3 1 true true, k2, k56, k2, k317, k354, .cells [vq 0, vi 1] 56 2 true true, k294, k330], re (vl 114 0 16 16), [some k361, some (.map [vi 1] [vl 105 0 3 3] [0] 1), some k362, some k363, some k360, some (.cells [vi 1, vi 1, vi 1] 3 1 true true), some k2, some k56, some k2, some k317, some k354, some (.cells [vq 0, vi 1] 56 2 true true), some k294, some k330], [k309]⟩
set_option maxRecDepth 100000 in
theorem v3551 : Valid Tryz.prog 100 c3551 := made_valid (orc := orcOf 100 []) (N := 1000000) (ms := [162]) okp (orcOf_ok noCtr) (by kernel_rfl)
def c3630 : Ctr := ⟨290, [vp 100 0, va [vi 2, vi 12]], gl0, [k381, .map [vi 1] [vl 105 0 3 3] [0] 1, k362, k382, k380, .cells [vi 1, vi 1, vi 1] 3 1 true true, k2, k56, k2, k317, k354, .cells [vq 0, vi 1] 56 2 true true, k294, k330, k367], re (vl 115 0 16 16), [some k381, some (.map [vi 1] [vl 105 0 3 3] [0] 1), some k362, some k382, some k380, some (.cells [vi 1, vi 1, vi 1] 3 1 true true), some k2, some k56, some k2, some k317, some k354, some (.cells [vq 0, vi 1] 56 2 true true), some k294, some k330, some k367], [k384]⟩
set_option maxRecDepth 100000 in
theorem v3630 : Valid Tryz.prog 100 c3630 := made_valid (orc := orcOf 100 []) (N := 1000000) (ms := [163]) okp (orcOf_ok noCtr) (by kernel_rfl)
def c3737 : Ctr := ⟨202, [vl 100 0 6 6, vi 13, vf 203 [] [vp 101 0]], gl0, [k404, ao 191 1 [vf 120 [] []], k2, k56, k2, k317, k354, k388], re (vt [vi 5, vb true]), [some k404, some (ao 191 1 [vf 120 [] []]), some k2, some k56, some k2, some k317, some k354, some k388], []⟩
set_option maxRecDepth 100000 in
theorem v3737 : Valid Tryz.prog 100 c3737 := made_valid (orc := orcOf 100 []) (N := 1000000) (ms := []) okp (orcOf_ok noCtr) (by kernel_rfl)
def c3751 : Ctr := ⟨259, [k413], gl0, [k42, k46, k30, k276, k392, k414, k262, .cells [vi 1, vi 4] 47 2 true true, k229, .cells [vi 1] 3 1 true true, k2, k56, k2, k317, k354, k388, .cells [vq 0, vi 1] 56 2 true true, k294, k330, k367, k403], re (vp 121 0), [some k42, some k46, some k30, some k276, some k392, some k414, some k262, some (.cells [vi 1, vi 4] 47 2 true true), some k229, some (.cells [vi 1] 3 1 true true), some k2, some k56, some k2, some k317, some k354, some k388, some (.cells [vq 0, vi 1] 56 2 true true), some k294, some k330, some k367, some k403], [k415, .map [vi 1] [vl 126 0 3 3] [0] 1, k394, k416, k417, .cells [vi 1, vi 1, vi 1] 3 1 true true]⟩
set_option maxRecDepth 100000 in
theorem v3751 : Valid Tryz.prog 100 c3751 := made_valid (orc := orcOf 100 []) (N := 1000000) (ms := [125, 122, 123, 124, 173, 135]) okp (orcOf_ok noCtr) (by kernel_rfl)
def c3763 : Ctr := ⟨290, [vp 100 0, va [vi 2, vi 10]], gl0, [k418, .map [vi 1] [vl 105 0 3 3] [0] 1, k398, k419, k417, .cells [vi 1, vi 1, vi 1] 3 1 true true, k2, k56, k2, k317, k354, k388, .cells [vq 0, vi 1] 56 2 true true, k294, k330, k367, k403], re (vl 117 0 16 16), [some k418, some (.map [vi 1] [vl 105 0 3 3] [0] 1), some k398, some k419, some k417, some (.cells [vi 1, vi 1, vi 1] 3 1 true true), some k2, some k56, some k2, some k317, some k354, some k388, some (.cells [vq 0, vi 1] 56 2 true true), some k294, some k330, some k367, some k403], [k309]⟩
set_option maxRecDepth 100000 in
theorem v3763 : Valid Tryz.prog 100 c3763 := made_valid (orc := orcOf 100 []) (N := 1000000) (ms := [165]) okp (orcOf_ok noCtr) (by kernel_rfl)
def c3829 : Ctr := ⟨290, [vp 100 0, va [vi 2, vi 12]], gl0, [k418, .map [vi 1] [vl 105 0 3 3] [0] 1, k398, k419, k417, .cells [vi 1, vi 1, vi 1] 3 1 true true, k388, k56, k2, k317, k354, k388, .cells [vq 0, vi 1] 56 2 true true, k294, k330, k367, k403], re (vl 117 0 16 16), [some k418, some (.map [vi 1] [vl 105 0 3 3] [0] 1), some k398, some k419, some k417, some (.cells [vi 1, vi 1, vi 1] 3 1 true true), some k388, some k56, some k2, some k317, some k354, some k388, some (.cells [vq 0, vi 1] 56 2 true true), some k294, some k330, some k367, some k403], [k384]⟩
set_option maxRecDepth 100000 in
theorem v3829 : Valid Tryz.prog 100 c3829 := made_valid (orc := orcOf 100 []) (N := 1000000) (ms := [165]) okp (orcOf_ok noCtr) (by kernel_rfl)
def c3869 : Ctr := ⟨292, [va [vi 2, vi 10], vp 100 0, vp 101 0, vp 102 0, vp 103 0], gl0, [ao 373 1 [.map (some 104)], ao 337 1 [vp 105 0], k434, ao 376 1 [vf 291 [] [vp 102 0]], .map [] [] [] 0, k435, .map [vi 1] [vl 110 0 3 3] [0] 1, k436, k437, k417, .cells [vi 1, vi 1, vi 1] 3 1 true true, k388, k56, k2, k317, k354, k388, .cells [vq 0, vi 1] 56 2 true true, k294, k330, k367, k403], re (vi 16), [some (ao 373 1 [.map (some 104)]), some (ao 337 1 [vp 105 0]), some k434, some (ao 376 1 [vf 291 [] [vp 102 0]]), some k438, some k435, some (.map [vi 1] [vl 110 0 3 3] [0] 1), some k436, some k437, some k417, some (.cells [vi 1, vi 1, vi 1] 3 1 true true), some k388, some k56, some k2, some k317, some k354, some k388, some (.cells [vq 0, vi 1] 56 2 true true), some k294, some k330, some k367, some k403], []⟩
set_option maxRecDepth 100000 in
theorem v3869 : Valid Tryz.prog 100 c3869 := made_valid (orc := orcOf 100 []) (N := 1000000) (ms := []) okp (orcOf_ok noCtr) (by kernel_rfl)
def c3924 : Ctr := ⟨290, [vp 100 0, va [vi 2, vi 13]], gl0, [k418, .map [vi 1] [vl 105 0 3 3] [0] 1, k398, k419, k417, .cells [vi 1, vi 1, vi 1] 3 1 true true, k444, k56, k2, k317, k354, k388, .cells [vq 0, vi 1] 56 2 true true, k294, k330, k367, k403], re (vl 117 0 16 16), [some k418, some (.map [vi 1] [vl 105 0 3 3] [0] 1), some k398, some k419, some k417, some (.cells [vi 1, vi 1, vi 1] 3 1 true true), some k444, some k56, some k2, some k317, some k354, some k388, some (.cells [vq 0, vi 1] 56 2 true true), some k294, some k330, some k367, some k403], [k421]⟩
set_option maxRecDepth 100000 in
theorem v3924 : Valid Tryz.prog 100 c3924 := made_valid (orc := orcOf 100 []) (N := 1000000) (ms := [165]) okp (orcOf_ok noCtr) (by kernel_rfl)
def c3987 : Ctr := ⟨28, [vI 94 (va [vi 11]), vI 96 (vp 100 0)], gl0, [ao 94 1 [vi 0]], re (vb true), [some (ao 94 1 [vi 11])], []⟩
theorem v3987 : Valid Tryz.prog 100 c3987 := asHit.as_valid _
def c3998 : Ctr := ⟨109, [vl 100 0 16 16, vl 100 0 16 16], gl0, [k294], re (vb true), [some k294], []⟩
set_option maxRecDepth 100000 in
theorem v3998 : Valid Tryz.prog 100 c3998 := made_valid (orc := orcOf 100 []) (N := 1000000) (ms := []) okp (orcOf_ok noCtr) (by kernel_rfl)
def c4066 : Ctr := ⟨259, [k453], gl0, [k42, k46, k451, k452, k454, k455, k262, .cells [vi 1, vi 4] 47 2 true true, k229, k388, k56, k2, k317, k354, k388, .cells [vq 0, vi 1] 56 2 true true, k294, k330, k367, k403], re (vp 120 0), [some k42, some k46, some k451, some k452, some k454, some k455, some k262, some (.cells [vi 1, vi 4] 47 2 true true), some k229, some k388, some k56, some k2, some k317, some k354, some k388, some (.cells [vq 0, vi 1] 56 2 true true), some k294, some k330, some k367, some k403], [k393, .map [] [] [] 0, k456, k457, k458]⟩
set_option maxRecDepth 100000 in
theorem v4066 : Valid Tryz.prog 100 c4066 := made_valid (orc := orcOf 100 []) (N := 1000000) (ms := [124, 121, 122, 123, 162]) okp (orcOf_ok noCtr) (by kernel_rfl)
def c4068 : Ctr := ⟨290, [vp 100 0, va [vi 2, vi 12]], gl0, [k397, .map [] [] [] 0, k459, k460, k458, k388, k56, k2, k317, k354, k388, .cells [vq 0, vi 1] 56 2 true true, k294, k330, k367, k403], re (vl 116 0 16 16), [some k397, some (.map [] [] [] 0), some k459, some k460, some k458, some k388, some k56, some k2, some k317, some k354, some k388, some (.cells [vq 0, vi 1] 56 2 true true), some k294, some k330, some k367, some k403], [k384]⟩
set_option maxRecDepth 100000 in
theorem v4068 : Valid Tryz.prog 100 c4068 := made_valid (orc := orcOf 100 []) (N := 1000000) (ms := [164]) okp (orcOf_ok noCtr) (by kernel_rfl)
end
end Go.Proofs.YtfhkbepjppcjmaaGreatDoor.configNames
