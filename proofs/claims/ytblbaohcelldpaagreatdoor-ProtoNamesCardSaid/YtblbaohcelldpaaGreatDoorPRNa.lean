/- What calls of the program do, told of the few objects that they see; printed by a program of mine from a run of the evaluator. -/
import Derived.Test.YtblbaohcelldpaaGreatDoorC4
import Derived.Test.YtblbaohcelldpaaGreatDoorN1
namespace Go.Proofs.YtblbaohcelldpaaGreatDoor.protoNames
open Go Go.Abs
set_option linter.unusedVariables false
noncomputable section
def gl0 : List (Nat × AObj) := [(0, .cells ([vd 0, vd 0, vd 64, vd 256, vd 256, vd 0, vd 68, vd 0, vd 0, vd 12, vd 8, vd 1024, vd 2, vd 2048, vd 2, vd 4096, vd 2, vd 8192, vd 8192, vd 16384, vd 2, vd 32768, vd 2, vd 65536, vd 2, vd 131072] ++ rp 4 (vd 2) ++ [vd 194, vd 70, vd 518, vd 518, vd 2, vd 66, vd 0, vd 512, vd 16, vd 84, vd 272, vd 304, vd 8224, vd 0, vd 64, vd 2, vd 66]) 0 1 true false)]
def c18 : Ctr := ⟨38, [], gl0, [], re (va [.nilFunc, .nilFunc, vf 139 [] [vp 100 0, vp 101 0], vf 141 [] [vp 101 0, vp 100 0], vf 139 [] [vp 102 0, vp 103 0], vf 141 [] [vp 103 0, vp 102 0], vf 139 [] [vp 104 0, vp 105 0], vf 141 [] [vp 105 0, vp 104 0], vf 139 [] [vp 106 0, vp 107 0], vf 141 [] [vp 107 0, vp 106 0], vf 139 [] [vp 108 0, vp 109 0], vf 141 [] [vp 109 0, vp 108 0], vf 143 [] [vp 110 0, vp 111 0], vf 144 [] [vp 111 0, vp 110 0], vf 143 [] [vp 112 0, vp 113 0], vf 144 [] [vp 113 0, vp 112 0], vf 145 [] [], vf 146 [] [], vf 147 [] [], vf 149 [] [], vf 151 [] [vp 114 0, vp 115 0], vf 152 [] [vp 116 0, vp 115 0], vf 163 [] [vp 117 0, vp 118 0], vf 164 [] [vp 119 0, vp 118 0], vf 168 [] [vp 120 0, vp 121 0], vf 169 [] [vp 122 0, vp 121 0], vf 175 [] [vp 123 0, vp 124 0], vf 176 [] [vp 125 0, vp 124 0], vf 186 [] [vp 126 0, vp 127 0], vf 187 [] [vp 128 0, vp 127 0], vf 194 [] [vp 129 0, vp 130 0], vf 195 [] [vp 131 0, vp 130 0], vf 202 [] [vp 132 0, vp 133 0], vf 203 [] [vp 134 0, vp 133 0], vf 206 [] [vp 135 0, vp 136 0], vf 207 [] [vp 137 0, vp 136 0]]), [], [ao 128 1 [vf 75 [] []], ao 28 1 [vq 2147483647], ao 128 1 [vf 76 [] []], ao 28 1 [vq 2147483647], ao 128 1 [vf 77 [] []], ao 28 1 [vq 2147483647], ao 128 1 [vf 78 [] []], ao 28 1 [vq 2147483647], ao 128 1 [vf 79 [] []], ao 28 1 [vq 2147483647], ao 131 1 [vf 81 [] []], ao 28 1 [vq 18446744073709551615], ao 131 1 [vf 82 [] []], ao 28 1 [vq 18446744073709551615], ao 136 1 [vf 87 [] []], ao 135 1 [vf 86 [] []], ao 137 1 [vf 88 [] []], ao 141 1 [vf 91 [] []], ao 140 1 [vf 90 [] []], ao 142 1 [vf 92 [] []], ao 146 1 [vf 95 [] []], ao 145 1 [vf 94 [] []], ao 147 1 [vf 96 [] []], ao 151 1 [vf 99 [] []], ao 150 1 [vf 98 [] []], ao 152 1 [vf 100 [] []], ao 156 1 [vf 103 [] []], ao 155 1 [vf 102 [] []], ao 157 1 [vf 104 [] []], ao 161 1 [vf 107 [] []], ao 160 1 [vf 106 [] []], ao 162 1 [vf 108 [] []], ao 166 1 [vf 111 [] []], ao 165 1 [vf 110 [] []], ao 167 1 [vf 112 [] []], ao 171 1 [vf 115 [] []], ao 170 1 [vf 114 [] []], ao 172 1 [vf 116 [] []]]⟩
set_option maxRecDepth 100000 in
theorem v18 : Valid Tryz.prog 100 c18 := made_valid (orc := orcOf 100 []) (N := 1000000) (ms := [101, 102, 104, 105, 107, 108, 110, 111, 113, 114, 116, 117, 119, 120, 125, 124, 126, 129, 128, 130, 133, 132, 134, 137, 136, 138, 141, 140, 142, 145, 144, 146, 149, 148, 150, 153, 152, 154]) okp (orcOf_ok noCtr) (by kernel_rfl)
def c20 : Ctr := ⟨140, [vq 0], gl0, [], re (vs []), [], []⟩
set_option maxRecDepth 100000 in
theorem v20 : Valid Tryz.prog 100 c20 := made_valid (orc := orcOf 100 []) (N := 1000000) (ms := []) okp (orcOf_ok noCtr) (by kernel_rfl)
def c35 : Ctr := ⟨148, [vL], gl0, [], re (vt [vs [], vi 0]), [], []⟩
set_option maxRecDepth 100000 in
theorem v35 : Valid Tryz.prog 100 c35 := made_valid (orc := orcOf 100 []) (N := 1000000) (ms := []) okp (orcOf_ok noCtr) (by kernel_rfl)
def c41 : Ctr := ⟨227, [vl 100 0 8 8], gl0, [ao 3 1 (rp 8 (vi 0))], re (vb true), [some (ao 3 1 (rp 8 (vi 0)))], []⟩
set_option maxRecDepth 100000 in
theorem v41 : Valid Tryz.prog 100 c41 := made_valid (orc := orcOf 100 []) (N := 1000000) (ms := []) okp (orcOf_ok noCtr) (by kernel_rfl)
def c64 : Ctr := ⟨157, [vp 100 0], gl0, [ao 196 1 [vL]], re (vs []), [some (ao 196 1 [vL])], []⟩
set_option maxRecDepth 100000 in
theorem v64 : Valid Tryz.prog 100 c64 := made_valid (orc := orcOf 100 []) (N := 1000000) (ms := []) okp (orcOf_ok noCtr) (by kernel_rfl)
def c65 : Ctr := ⟨87, [va (rp 7 (vi 0) ++ [vL, vi 0])], gl0, [], re (vt [vs [], vi 0]), [], []⟩
set_option maxRecDepth 100000 in
theorem v65 : Valid Tryz.prog 100 c65 := made_valid (orc := orcOf 100 [c41, c20, c35, c64]) (N := 1000000) (ms := []) okp (orcOf_ok (andCtr v41 (andCtr v20 (andCtr v35 (andCtr v64 noCtr))))) (by kernel_rfl)
def c72 : Ctr := ⟨91, [va [vi 0, vu 0, vi 0, vi 0, vi 0]], gl0, [], re (vt [vs [], vi 0]), [], []⟩
set_option maxRecDepth 100000 in
theorem v72 : Valid Tryz.prog 100 c72 := made_valid (orc := orcOf 100 [c20, c64]) (N := 1000000) (ms := []) okp (orcOf_ok (andCtr v20 (andCtr v64 noCtr))) (by kernel_rfl)
def c83 : Ctr := ⟨95, [va [vi 0, vu 0, vL, vi 0, vi 0]], gl0, [], re (vt [vs [], vi 0]), [], []⟩
set_option maxRecDepth 100000 in
theorem v83 : Valid Tryz.prog 100 c83 := made_valid (orc := orcOf 100 [c20, c35, c64]) (N := 1000000) (ms := []) okp (orcOf_ok (andCtr v20 (andCtr v35 (andCtr v64 noCtr)))) (by kernel_rfl)
def c91 : Ctr := ⟨99, [va [vi 0, vs [], vs [], vi 0, vi 0, vi 0, vL, vi 0, vi 0, vq 0, vb false]], gl0, [], re (vt [vs [], vi 0]), [], []⟩
set_option maxRecDepth 100000 in
theorem v91 : Valid Tryz.prog 100 c91 := made_valid (orc := orcOf 100 [c20, c35, c64]) (N := 1000000) (ms := []) okp (orcOf_ok (andCtr v20 (andCtr v35 (andCtr v64 noCtr)))) (by kernel_rfl)
def c101 : Ctr := ⟨103, [va [vi 0, vL]], gl0, [], re (vt [vs [], vi 0]), [], []⟩
set_option maxRecDepth 100000 in
theorem v101 : Valid Tryz.prog 100 c101 := made_valid (orc := orcOf 100 [c20, c35, c64]) (N := 1000000) (ms := []) okp (orcOf_ok (andCtr v20 (andCtr v35 (andCtr v64 noCtr)))) (by kernel_rfl)
def c111 : Ctr := ⟨107, [va [vi 0, vu 0, vi 0, vL]], gl0, [], re (vt [vs [], vi 0]), [], []⟩
set_option maxRecDepth 100000 in
theorem v111 : Valid Tryz.prog 100 c111 := made_valid (orc := orcOf 100 [c20, c35, c64]) (N := 1000000) (ms := []) okp (orcOf_ok (andCtr v20 (andCtr v35 (andCtr v64 noCtr)))) (by kernel_rfl)
def c115 : Ctr := ⟨111, [va [vi 0, vi 0, vi 0]], gl0, [], re (vt [vs [], vi 0]), [], []⟩
set_option maxRecDepth 100000 in
theorem v115 : Valid Tryz.prog 100 c115 := made_valid (orc := orcOf 100 [c20, c64]) (N := 1000000) (ms := []) okp (orcOf_ok (andCtr v20 (andCtr v64 noCtr))) (by kernel_rfl)
def c119 : Ctr := ⟨115, [va [vi 0, vi 0]], gl0, [], re (vt [vs [], vi 0]), [], []⟩
set_option maxRecDepth 100000 in
theorem v119 : Valid Tryz.prog 100 c119 := made_valid (orc := orcOf 100 [c20, c64]) (N := 1000000) (ms := []) okp (orcOf_ok (andCtr v20 (andCtr v64 noCtr))) (by kernel_rfl)
def c121 : Ctr := ⟨35, [va ([vu 1, vd 258] ++ rp 5 (vi 0) ++ [vq 0, vq 0, vs [], vL] ++ rp 7 (vi 0) ++ [vL, vi 0, vi 0, vu 0] ++ rp 4 (vi 0) ++ [vu 0, vL, vi 0, vi 0, vi 0, vs [], vs [], vi 0, vi 0, vi 0, vL, vi 0, vi 0, vq 0, vb false, vi 0, vL, vi 0, vu 0, vi 0, vL] ++ rp 5 (vi 0))], gl0, [], re (vt [vL, vb true]), [], []⟩
set_option maxRecDepth 100000 in
theorem v121 : Valid Tryz.prog 100 c121 := made_valid (orc := orcOf 100 [c18, c20, c35, c65, c72, c83, c91, c101, c111, c115, c119]) (N := 1000000) (ms := []) okp (orcOf_ok (andCtr v18 (andCtr v20 (andCtr v35 (andCtr v65 (andCtr v72 (andCtr v83 (andCtr v91 (andCtr v101 (andCtr v111 (andCtr v115 (andCtr v119 noCtr)))))))))))) (by kernel_rfl)
def c127 : Ctr := ⟨42, [va (rp 7 (vi 0) ++ [vL, vi 0]), va (rp 7 (vi 0) ++ [vL, vi 0])], gl0, [], re (vb true), [], []⟩
set_option maxRecDepth 100000 in
theorem v127 : Valid Tryz.prog 100 c127 := made_valid (orc := orcOf 100 []) (N := 1000000) (ms := []) okp (orcOf_ok noCtr) (by kernel_rfl)
def c129 : Ctr := ⟨44, [va [vi 0, vu 0, vL, vi 0, vi 0], va [vi 0, vu 0, vL, vi 0, vi 0]], gl0, [], re (vb true), [], []⟩
set_option maxRecDepth 100000 in
theorem v129 : Valid Tryz.prog 100 c129 := made_valid (orc := orcOf 100 []) (N := 1000000) (ms := []) okp (orcOf_ok noCtr) (by kernel_rfl)
def c130 : Ctr := ⟨45, [va [vi 0, vs [], vs [], vi 0, vi 0, vi 0, vL, vi 0, vi 0, vq 0, vb false], va [vi 0, vs [], vs [], vi 0, vi 0, vi 0, vL, vi 0, vi 0, vq 0, vb false]], gl0, [], re (vb true), [], []⟩
set_option maxRecDepth 100000 in
theorem v130 : Valid Tryz.prog 100 c130 := made_valid (orc := orcOf 100 []) (N := 1000000) (ms := []) okp (orcOf_ok noCtr) (by kernel_rfl)
def c131 : Ctr := ⟨46, [va [vi 0, vL], va [vi 0, vL]], gl0, [], re (vb true), [], []⟩
set_option maxRecDepth 100000 in
theorem v131 : Valid Tryz.prog 100 c131 := made_valid (orc := orcOf 100 []) (N := 1000000) (ms := []) okp (orcOf_ok noCtr) (by kernel_rfl)
def c132 : Ctr := ⟨47, [va [vi 0, vu 0, vi 0, vL], va [vi 0, vu 0, vi 0, vL]], gl0, [], re (vb true), [], []⟩
set_option maxRecDepth 100000 in
theorem v132 : Valid Tryz.prog 100 c132 := made_valid (orc := orcOf 100 []) (N := 1000000) (ms := []) okp (orcOf_ok noCtr) (by kernel_rfl)
def c137 : Ctr := ⟨14, [va ([vu 1, vd 258] ++ rp 5 (vi 0) ++ [vq 0, vq 0, vs [], vL] ++ rp 7 (vi 0) ++ [vL, vi 0, vi 0, vu 0] ++ rp 4 (vi 0) ++ [vu 0, vL, vi 0, vi 0, vi 0, vs [], vs [], vi 0, vi 0, vi 0, vL, vi 0, vi 0, vq 0, vb false, vi 0, vL, vi 0, vu 0, vi 0, vL] ++ rp 5 (vi 0)), vs [1, 0, 0, 1, 2]], gl0, [], re (vb true), [], []⟩
set_option maxRecDepth 100000 in
theorem v137 : Valid Tryz.prog 100 c137 := made_valid (orc := orcOf 100 [c121, c18, c127, c129, c130, c131, c132]) (N := 1000000) (ms := []) okp (orcOf_ok (andCtr v121 (andCtr v18 (andCtr v127 (andCtr v129 (andCtr v130 (andCtr v131 (andCtr v132 noCtr)))))))) (by kernel_rfl)
def c173 : Ctr := ⟨35, [va ([vu 10, vd 1, vi 0, vi 0, vi 5, vi 0, vi 0, vq 0, vq 0, vs [], vL] ++ rp 7 (vi 0) ++ [vL, vi 0, vi 0, vu 0] ++ rp 4 (vi 0) ++ [vu 0, vL, vi 0, vi 0, vi 0, vs [], vs [], vi 0, vi 0, vi 0, vL, vi 0, vi 0, vq 0, vb false, vi 0, vL, vi 0, vu 0, vi 0, vL] ++ rp 5 (vi 0))], gl0, [], re (vt [vl 100 0 1 1, vb true]), [], [.cells [vu 3, vs [5]] 94 2 true true]⟩
set_option maxRecDepth 100000 in
theorem v173 : Valid Tryz.prog 100 c173 := made_valid (orc := orcOf 100 [c18, c20, c35, c65, c72, c83, c91, c101, c111, c115, c119]) (N := 1000000) (ms := [142]) okp (orcOf_ok (andCtr v18 (andCtr v20 (andCtr v35 (andCtr v65 (andCtr v72 (andCtr v83 (andCtr v91 (andCtr v101 (andCtr v111 (andCtr v115 (andCtr v119 noCtr)))))))))))) (by kernel_rfl)
def c178 : Ctr := ⟨137, [vs [0, 1]], gl0, [], re (vi 1), [], []⟩
set_option maxRecDepth 100000 in
theorem v178 : Valid Tryz.prog 100 c178 := made_valid (orc := orcOf 100 []) (N := 1000000) (ms := []) okp (orcOf_ok noCtr) (by kernel_rfl)
def c186 : Ctr := ⟨17, [vs [10, 0, 0, 0, 1, 3, 0, 1, 5]], gl0, [], re (vt [va ([vu 10, vd 1, vi 0, vi 0, vi 5, vi 0, vi 0, vq 0, vq 0, vs [], vL] ++ rp 7 (vi 0) ++ [vL, vi 0, vi 0, vu 0] ++ rp 4 (vi 0) ++ [vu 0, vL, vi 0, vi 0, vi 0, vs [], vs [], vi 0, vi 0, vi 0, vL, vi 0, vi 0, vq 0, vb false, vi 0, vL, vi 0, vu 0, vi 0, vL] ++ rp 5 (vi 0)), vi 0]), [], []⟩
set_option maxRecDepth 100000 in
theorem v186 : Valid Tryz.prog 100 c186 := made_valid (orc := orcOf 100 [c178, c18]) (N := 1000000) (ms := []) okp (orcOf_ok (andCtr v178 (andCtr v18 noCtr))) (by kernel_rfl)
def c189 : Ctr := ⟨14, [va ([vu 10, vd 1, vi 0, vi 0, vi 5, vi 0, vi 0, vq 0, vq 0, vs [], vL] ++ rp 7 (vi 0) ++ [vL, vi 0, vi 0, vu 0] ++ rp 4 (vi 0) ++ [vu 0, vL, vi 0, vi 0, vi 0, vs [], vs [], vi 0, vi 0, vi 0, vL, vi 0, vi 0, vq 0, vb false, vi 0, vL, vi 0, vu 0, vi 0, vL] ++ rp 5 (vi 0)), vs [10, 0, 0, 0, 1, 3, 0, 1, 5]], gl0, [], re (vb true), [], []⟩
set_option maxRecDepth 100000 in
theorem v189 : Valid Tryz.prog 100 c189 := made_valid (orc := orcOf 100 [c173, c186, c127, c129, c130, c131, c132]) (N := 1000000) (ms := []) okp (orcOf_ok (andCtr v173 (andCtr v186 (andCtr v127 (andCtr v129 (andCtr v130 (andCtr v131 (andCtr v132 noCtr)))))))) (by kernel_rfl)
def c209 : Ctr := ⟨72, [vi 0], gl0, [], re (vl 100 0 2 2), [], [ao 5 1 [vu 0, vu 0]]⟩
set_option maxRecDepth 100000 in
theorem v209 : Valid Tryz.prog 100 c209 := made_valid (orc := orcOf 100 []) (N := 1000000) (ms := [100]) okp (orcOf_ok noCtr) (by kernel_rfl)
def c229 : Ctr := ⟨35, [va ([vu 32, vd 0, vi 3] ++ rp 4 (vi 0) ++ [vq 0, vq 0, vs [], vl 100 0 2 2] ++ rp 7 (vi 0) ++ [vL, vi 0, vi 0, vu 0] ++ rp 4 (vi 0) ++ [vu 0, vL, vi 0, vi 0, vi 0, vs [], vs [], vi 0, vi 0, vi 0, vL, vi 0, vi 0, vq 0, vb false, vi 0, vL, vi 0, vu 0, vi 0, vL] ++ rp 5 (vi 0))], gl0, [ao 28 1 [vq 0, vq 1]], re (vt [vl 101 0 2 2, vb true]), [some (ao 28 1 [vq 0, vq 1])], [.cells [vu 1, vs [3], vu 9, vs [0, 0, 0, 1, 1]] 94 2 true true]⟩
set_option maxRecDepth 100000 in
theorem v229 : Valid Tryz.prog 100 c229 := made_valid (orc := orcOf 100 [c18, c20, c209, c65, c72, c83, c91, c101, c111, c115, c119]) (N := 1000000) (ms := [155]) okp (orcOf_ok (andCtr v18 (andCtr v20 (andCtr v209 (andCtr v65 (andCtr v72 (andCtr v83 (andCtr v91 (andCtr v101 (andCtr v111 (andCtr v115 (andCtr v119 noCtr)))))))))))) (by kernel_rfl)
def c252 : Ctr := ⟨149, [vp 100 0, vs [0, 0, 0, 1, 1]], gl0, [ao 51 52 ([vu 32, vd 0, vi 3] ++ rp 4 (vi 0) ++ [vq 0, vq 0, vs [], vL] ++ rp 7 (vi 0) ++ [vL, vi 0, vi 0, vu 0] ++ rp 4 (vi 0) ++ [vu 0, vL, vi 0, vi 0, vi 0, vs [], vs [], vi 0, vi 0, vi 0, vL, vi 0, vi 0, vq 0, vb false, vi 0, vL, vi 0, vu 0, vi 0, vL] ++ rp 5 (vi 0))], re (vb true), [some (ao 51 52 ([vu 32, vd 0, vi 3] ++ rp 4 (vi 0) ++ [vq 0, vq 0, vs [], vl 101 0 2 2] ++ rp 7 (vi 0) ++ [vL, vi 0, vi 0, vu 0] ++ rp 4 (vi 0) ++ [vu 0, vL, vi 0, vi 0, vi 0, vs [], vs [], vi 0, vi 0, vi 0, vL, vi 0, vi 0, vq 0, vb false, vi 0, vL, vi 0, vu 0, vi 0, vL] ++ rp 5 (vi 0)))], [.cells [vq 0, vq 1] 28 1 true true]⟩
set_option maxRecDepth 100000 in
theorem v252 : Valid Tryz.prog 100 c252 := made_valid (orc := orcOf 100 [c178]) (N := 1000000) (ms := [110]) okp (orcOf_ok (andCtr v178 noCtr)) (by kernel_rfl)
def c253 : Ctr := ⟨17, [vs [32, 0, 0, 0, 0, 1, 0, 1, 3, 9, 0, 5, 0, 0, 0, 1, 1]], gl0, [], re (vt [va ([vu 32, vd 0, vi 3] ++ rp 4 (vi 0) ++ [vq 0, vq 0, vs [], vl 100 0 2 2] ++ rp 7 (vi 0) ++ [vL, vi 0, vi 0, vu 0] ++ rp 4 (vi 0) ++ [vu 0, vL, vi 0, vi 0, vi 0, vs [], vs [], vi 0, vi 0, vi 0, vL, vi 0, vi 0, vq 0, vb false, vi 0, vL, vi 0, vu 0, vi 0, vL] ++ rp 5 (vi 0)), vi 0]), [], [.cells [vq 0, vq 1] 28 1 true true]⟩
set_option maxRecDepth 100000 in
theorem v253 : Valid Tryz.prog 100 c253 := made_valid (orc := orcOf 100 [c178, c18, c252]) (N := 1000000) (ms := [149]) okp (orcOf_ok (andCtr v178 (andCtr v18 (andCtr v252 noCtr)))) (by kernel_rfl)
def c257 : Ctr := ⟨14, [va ([vu 32, vd 0, vi 3] ++ rp 4 (vi 0) ++ [vq 0, vq 0, vs [], vl 100 0 2 2] ++ rp 7 (vi 0) ++ [vL, vi 0, vi 0, vu 0] ++ rp 4 (vi 0) ++ [vu 0, vL, vi 0, vi 0, vi 0, vs [], vs [], vi 0, vi 0, vi 0, vL, vi 0, vi 0, vq 0, vb false, vi 0, vL, vi 0, vu 0, vi 0, vL] ++ rp 5 (vi 0)), vs [32, 0, 0, 0, 0, 1, 0, 1, 3, 9, 0, 5, 0, 0, 0, 1, 1]], gl0, [ao 28 1 [vq 0, vq 1]], re (vb true), [some (ao 28 1 [vq 0, vq 1])], []⟩
set_option maxRecDepth 100000 in
theorem v257 : Valid Tryz.prog 100 c257 := made_valid (orc := orcOf 100 [c229, c253, c127, c129, c130, c131, c132]) (N := 1000000) (ms := []) okp (orcOf_ok (andCtr v229 (andCtr v253 (andCtr v127 (andCtr v129 (andCtr v130 (andCtr v131 (andCtr v132 noCtr)))))))) (by kernel_rfl)
def c291 : Ctr := ⟨35, [va ([vu 13, vd 9] ++ rp 5 (vi 0) ++ [vq 0, vq 0, vs [], vL] ++ rp 7 (vi 0) ++ [vL, vi 0, vi 0, vu 0] ++ rp 4 (vi 0) ++ [vu 0, vL, vi 0, vi 0, vi 0, vs [], vs [], vi 0, vi 0, vi 0, vL, vi 0, vi 0, vq 0, vb false, vi 0, vL, vi 0, vu 0, vi 0, vL] ++ rp 5 (vi 0))], gl0, [], re (vt [vL, vb true]), [], []⟩
set_option maxRecDepth 100000 in
theorem v291 : Valid Tryz.prog 100 c291 := made_valid (orc := orcOf 100 [c18, c20, c35, c65, c72, c83, c91, c101, c111, c115, c119]) (N := 1000000) (ms := []) okp (orcOf_ok (andCtr v18 (andCtr v20 (andCtr v35 (andCtr v65 (andCtr v72 (andCtr v83 (andCtr v91 (andCtr v101 (andCtr v111 (andCtr v115 (andCtr v119 noCtr)))))))))))) (by kernel_rfl)
def c296 : Ctr := ⟨14, [va ([vu 13, vd 9] ++ rp 5 (vi 0) ++ [vq 0, vq 0, vs [], vL] ++ rp 7 (vi 0) ++ [vL, vi 0, vi 0, vu 0] ++ rp 4 (vi 0) ++ [vu 0, vL, vi 0, vi 0, vi 0, vs [], vs [], vi 0, vi 0, vi 0, vL, vi 0, vi 0, vq 0, vb false, vi 0, vL, vi 0, vu 0, vi 0, vL] ++ rp 5 (vi 0)), vs [13, 0, 0, 0, 9]], gl0, [], re (vb true), [], []⟩
set_option maxRecDepth 100000 in
theorem v296 : Valid Tryz.prog 100 c296 := made_valid (orc := orcOf 100 [c291, c18, c127, c129, c130, c131, c132]) (N := 1000000) (ms := []) okp (orcOf_ok (andCtr v291 (andCtr v18 (andCtr v127 (andCtr v129 (andCtr v130 (andCtr v131 (andCtr v132 noCtr)))))))) (by kernel_rfl)
def c299 : Ctr := ⟨22, [va ([vu 0, vd 0] ++ rp 5 (vi 0) ++ [vq 0, vq 0, vs [], vL] ++ rp 7 (vi 0) ++ [vL, vi 0, vi 0, vu 0] ++ rp 4 (vi 0) ++ [vu 0, vL, vi 0, vi 0, vi 0, vs [], vs [], vi 0, vi 0, vi 0, vL, vi 0, vi 0, vq 0, vb false, vi 0, vL, vi 0, vu 0, vi 0, vL] ++ rp 5 (vi 0)), va ([vu 0, vd 0] ++ rp 5 (vi 0) ++ [vq 0, vq 0, vs [], vL] ++ rp 7 (vi 0) ++ [vL, vi 0, vi 0, vu 0] ++ rp 4 (vi 0) ++ [vu 0, vL, vi 0, vi 0, vi 0, vs [], vs [], vi 0, vi 0, vi 0, vL, vi 0, vi 0, vq 0, vb false, vi 0, vL, vi 0, vu 0, vi 0, vL] ++ rp 5 (vi 0))], gl0, [], re (vb true), [], []⟩
set_option maxRecDepth 100000 in
theorem v299 : Valid Tryz.prog 100 c299 := made_valid (orc := orcOf 100 [c127, c129, c130, c131, c132]) (N := 1000000) (ms := []) okp (orcOf_ok (andCtr v127 (andCtr v129 (andCtr v130 (andCtr v131 (andCtr v132 noCtr)))))) (by kernel_rfl)
def c305 : Ctr := ⟨17, [vs [1, 0, 0, 0, 0, 1, 0, 1, 5]], gl0, [], re (vt [va ([vu 0, vd 0] ++ rp 5 (vi 0) ++ [vq 0, vq 0, vs [], vL] ++ rp 7 (vi 0) ++ [vL, vi 0, vi 0, vu 0] ++ rp 4 (vi 0) ++ [vu 0, vL, vi 0, vi 0, vi 0, vs [], vs [], vi 0, vi 0, vi 0, vL, vi 0, vi 0, vq 0, vb false, vi 0, vL, vi 0, vu 0, vi 0, vL] ++ rp 5 (vi 0)), vi 3]), [], []⟩
set_option maxRecDepth 100000 in
theorem v305 : Valid Tryz.prog 100 c305 := made_valid (orc := orcOf 100 [c178, c18]) (N := 1000000) (ms := []) okp (orcOf_ok (andCtr v178 (andCtr v18 noCtr))) (by kernel_rfl)
def c324 : Ctr := ⟨13, [vu 30], gl0, [], re (vl 100 0 3 3), [], [.cells (us [1, 6, 7]) 5 1 true true]⟩
set_option maxRecDepth 100000 in
theorem v324 : Valid Tryz.prog 100 c324 := made_valid (orc := orcOf 100 []) (N := 1000000) (ms := [105]) okp (orcOf_ok noCtr) (by kernel_rfl)
def c347 : Ctr := ⟨13, [vu 0], gl0, [], re (vL), [], []⟩
set_option maxRecDepth 100000 in
theorem v347 : Valid Tryz.prog 100 c347 := made_valid (orc := orcOf 100 []) (N := 1000000) (ms := []) okp (orcOf_ok noCtr) (by kernel_rfl)
def c365 : Ctr := ⟨13, [vu 47], gl0, [], re (vL), [], []⟩
set_option maxRecDepth 100000 in
theorem v365 : Valid Tryz.prog 100 c365 := made_valid (orc := orcOf 100 []) (N := 1000000) (ms := []) okp (orcOf_ok noCtr) (by kernel_rfl)
def c383 : Ctr := ⟨13, [vu 255], gl0, [], re (vL), [], []⟩
set_option maxRecDepth 100000 in
theorem v383 : Valid Tryz.prog 100 c383 := made_valid (orc := orcOf 100 []) (N := 1000000) (ms := []) okp (orcOf_ok noCtr) (by kernel_rfl)
def c400 : Ctr := ⟨13, [vu 1], gl0, [], re (vL), [], []⟩
set_option maxRecDepth 100000 in
theorem v400 : Valid Tryz.prog 100 c400 := made_valid (orc := orcOf 100 []) (N := 1000000) (ms := []) okp (orcOf_ok noCtr) (by kernel_rfl)
def c438 : Ctr := ⟨35, [va ([vu 39, vd 4294967295, vi 0, vi 300, vi 0, vi 3, vi 0, vq 1, vq 0, vs [], vL] ++ rp 7 (vi 0) ++ [vL, vi 0, vi 0, vu 0] ++ rp 4 (vi 0) ++ [vu 0, vL, vi 0, vi 0, vi 0, vs [], vs [], vi 0, vi 0, vi 0, vL, vi 0, vi 0, vq 0, vb false, vi 0, vL, vi 0, vu 0, vi 0, vL] ++ rp 5 (vi 0))], gl0, [], re (vt [vl 100 0 3 3, vb true]), [], [.cells [vu 2, vs [1, 44], vu 4, vs [3], vu 6, vs [1]] 94 2 true true]⟩
set_option maxRecDepth 100000 in
theorem v438 : Valid Tryz.prog 100 c438 := made_valid (orc := orcOf 100 [c18, c20, c35, c65, c72, c83, c91, c101, c111, c115, c119]) (N := 1000000) (ms := [148]) okp (orcOf_ok (andCtr v18 (andCtr v20 (andCtr v35 (andCtr v65 (andCtr v72 (andCtr v83 (andCtr v91 (andCtr v101 (andCtr v111 (andCtr v115 (andCtr v119 noCtr)))))))))))) (by kernel_rfl)
def c448 : Ctr := ⟨73, [vp 100 0], gl0, [ao 124 1 [vs [2, 0, 2, 1, 44, 4, 0, 1, 3, 6, 0, 1, 1]]], re (vt [vl 101 0 3 3, vi 0]), [some (ao 124 1 [vs []])], [.cells [vu 2, vs [1, 44], vu 4, vs [3], vu 6, vs [1]] 94 2 true true]⟩
set_option maxRecDepth 100000 in
theorem v448 : Valid Tryz.prog 100 c448 := made_valid (orc := orcOf 100 [c178]) (N := 1000000) (ms := [107]) okp (orcOf_ok (andCtr v178 noCtr)) (by kernel_rfl)
def c457 : Ctr := ⟨17, [vs [39, 255, 255, 255, 255, 2, 0, 2, 1, 44, 4, 0, 1, 3, 6, 0, 1, 1]], gl0, [], re (vt [va ([vu 39, vd 4294967295, vi 0, vi 300, vi 0, vi 3, vi 0, vq 1, vq 0, vs [], vL] ++ rp 7 (vi 0) ++ [vL, vi 0, vi 0, vu 0] ++ rp 4 (vi 0) ++ [vu 0, vL, vi 0, vi 0, vi 0, vs [], vs [], vi 0, vi 0, vi 0, vL, vi 0, vi 0, vq 0, vb false, vi 0, vL, vi 0, vu 0, vi 0, vL] ++ rp 5 (vi 0)), vi 0]), [], []⟩
set_option maxRecDepth 100000 in
theorem v457 : Valid Tryz.prog 100 c457 := made_valid (orc := orcOf 100 [c448, c18]) (N := 1000000) (ms := []) okp (orcOf_ok (andCtr v448 (andCtr v18 noCtr))) (by kernel_rfl)
def c460 : Ctr := ⟨14, [va ([vu 39, vd 4294967295, vi 0, vi 300, vi 0, vi 3, vi 0, vq 1, vq 0, vs [], vL] ++ rp 7 (vi 0) ++ [vL, vi 0, vi 0, vu 0] ++ rp 4 (vi 0) ++ [vu 0, vL, vi 0, vi 0, vi 0, vs [], vs [], vi 0, vi 0, vi 0, vL, vi 0, vi 0, vq 0, vb false, vi 0, vL, vi 0, vu 0, vi 0, vL] ++ rp 5 (vi 0)), vs [39, 255, 255, 255, 255, 2, 0, 2, 1, 44, 4, 0, 1, 3, 6, 0, 1, 1]], gl0, [], re (vb true), [], []⟩
set_option maxRecDepth 100000 in
theorem v460 : Valid Tryz.prog 100 c460 := made_valid (orc := orcOf 100 [c438, c457, c127, c129, c130, c131, c132]) (N := 1000000) (ms := []) okp (orcOf_ok (andCtr v438 (andCtr v457 (andCtr v127 (andCtr v129 (andCtr v130 (andCtr v131 (andCtr v132 noCtr)))))))) (by kernel_rfl)
def c512 : Ctr := ⟨99, [va [vi 1, vs [107], vs [], vi 0, vi 0, vi 0, vL, vi 0, vi 0, vq 0, vb false]], gl0, [], re (vt [vs [1, 0, 1, 1, 2, 0, 1, 107], vi 0]), [], []⟩
set_option maxRecDepth 100000 in
theorem v512 : Valid Tryz.prog 100 c512 := made_valid (orc := orcOf 100 [c20, c35]) (N := 1000000) (ms := []) okp (orcOf_ok (andCtr v20 (andCtr v35 noCtr))) (by kernel_rfl)
def c523 : Ctr := ⟨35, [va ([vu 42, vd 0] ++ rp 4 (vi 0) ++ [vi 2, vq 0, vq 0, vs [], vL] ++ rp 7 (vi 0) ++ [vL, vi 0, vi 0, vu 0] ++ rp 4 (vi 0) ++ [vu 0, vL, vi 0, vi 0, vi 1, vs [107], vs [], vi 0, vi 0, vi 0, vL, vi 0, vi 0, vq 0, vb false, vi 0, vL, vi 0, vu 0, vi 0, vL] ++ rp 5 (vi 0))], gl0, [], re (vt [vl 100 0 2 2, vb true]), [], [.cells [vu 5, vs [2], vu 13, vs [1, 0, 1, 1, 2, 0, 1, 107]] 94 2 true true]⟩
set_option maxRecDepth 100000 in
theorem v523 : Valid Tryz.prog 100 c523 := made_valid (orc := orcOf 100 [c18, c20, c35, c65, c72, c83, c512, c101, c111, c115, c119]) (N := 1000000) (ms := [144]) okp (orcOf_ok (andCtr v18 (andCtr v20 (andCtr v35 (andCtr v65 (andCtr v72 (andCtr v83 (andCtr v512 (andCtr v101 (andCtr v111 (andCtr v115 (andCtr v119 noCtr)))))))))))) (by kernel_rfl)
def c549 : Ctr := ⟨158, [vs [1, 0, 1, 1, 2, 0, 1, 107], vf 180 [] [vp 100 0]], gl0, [ao 39 11 [vi 0, vs [], vs [], vi 0, vi 0, vi 0, vL, vi 0, vi 0, vq 0, vb false]], re (vi 0), [some (ao 39 11 [vi 1, vs [107], vs [], vi 0, vi 0, vi 0, vL, vi 0, vi 0, vq 0, vb false])], []⟩
set_option maxRecDepth 100000 in
theorem v549 : Valid Tryz.prog 100 c549 := made_valid (orc := orcOf 100 [c178]) (N := 1000000) (ms := []) okp (orcOf_ok (andCtr v178 noCtr)) (by kernel_rfl)
def c553 : Ctr := ⟨17, [vs [42, 0, 0, 0, 0, 5, 0, 1, 2, 13, 0, 8, 1, 0, 1, 1, 2, 0, 1, 107]], gl0, [], re (vt [va ([vu 42, vd 0] ++ rp 4 (vi 0) ++ [vi 2, vq 0, vq 0, vs [], vL] ++ rp 7 (vi 0) ++ [vL, vi 0, vi 0, vu 0] ++ rp 4 (vi 0) ++ [vu 0, vL, vi 0, vi 0, vi 1, vs [107], vs [], vi 0, vi 0, vi 0, vL, vi 0, vi 0, vq 0, vb false, vi 0, vL, vi 0, vu 0, vi 0, vL] ++ rp 5 (vi 0)), vi 0]), [], []⟩
set_option maxRecDepth 100000 in
theorem v553 : Valid Tryz.prog 100 c553 := made_valid (orc := orcOf 100 [c178, c18, c549]) (N := 1000000) (ms := []) okp (orcOf_ok (andCtr v178 (andCtr v18 (andCtr v549 noCtr)))) (by kernel_rfl)
def c557 : Ctr := ⟨14, [va ([vu 42, vd 0] ++ rp 4 (vi 0) ++ [vi 2, vq 0, vq 0, vs [], vL] ++ rp 7 (vi 0) ++ [vL, vi 0, vi 0, vu 0] ++ rp 4 (vi 0) ++ [vu 0, vL, vi 0, vi 0, vi 1, vs [107], vs [], vi 0, vi 0, vi 0, vL, vi 0, vi 0, vq 0, vb false, vi 0, vL, vi 0, vu 0, vi 0, vL] ++ rp 5 (vi 0)), vs [42, 0, 0, 0, 0, 5, 0, 1, 2, 13, 0, 8, 1, 0, 1, 1, 2, 0, 1, 107]], gl0, [], re (vb true), [], []⟩
set_option maxRecDepth 100000 in
theorem v557 : Valid Tryz.prog 100 c557 := made_valid (orc := orcOf 100 [c523, c553, c127, c129, c131, c132]) (N := 1000000) (ms := []) okp (orcOf_ok (andCtr v523 (andCtr v553 (andCtr v127 (andCtr v129 (andCtr v131 (andCtr v132 noCtr))))))) (by kernel_rfl)
def c593 : Ctr := ⟨35, [va ([vu 40, vd 0, vi 0, vi 0, vi 0, vi 2, vi 0, vq 0, vq 0, vs [0], vL] ++ rp 7 (vi 0) ++ [vL, vi 0, vi 0, vu 0] ++ rp 4 (vi 0) ++ [vu 0, vL, vi 0, vi 0, vi 0, vs [], vs [], vi 0, vi 0, vi 0, vL, vi 0, vi 0, vq 0, vb false, vi 0, vL, vi 0, vu 0, vi 0, vL] ++ rp 5 (vi 0))], gl0, [], re (vt [vl 100 0 2 2, vb true]), [], [.cells [vu 4, vs [2], vu 8, vs [0]] 94 2 true true]⟩
set_option maxRecDepth 100000 in
theorem v593 : Valid Tryz.prog 100 c593 := made_valid (orc := orcOf 100 [c18, c20, c35, c65, c72, c83, c91, c101, c111, c115, c119]) (N := 1000000) (ms := [144]) okp (orcOf_ok (andCtr v18 (andCtr v20 (andCtr v35 (andCtr v65 (andCtr v72 (andCtr v83 (andCtr v91 (andCtr v101 (andCtr v111 (andCtr v115 (andCtr v119 noCtr)))))))))))) (by kernel_rfl)
def c605 : Ctr := ⟨17, [vs [40, 0, 0, 0, 0, 4, 0, 1, 2, 8, 0, 1, 0]], gl0, [], re (vt [va ([vu 40, vd 0, vi 0, vi 0, vi 0, vi 2, vi 0, vq 0, vq 0, vs [0], vL] ++ rp 7 (vi 0) ++ [vL, vi 0, vi 0, vu 0] ++ rp 4 (vi 0) ++ [vu 0, vL, vi 0, vi 0, vi 0, vs [], vs [], vi 0, vi 0, vi 0, vL, vi 0, vi 0, vq 0, vb false, vi 0, vL, vi 0, vu 0, vi 0, vL] ++ rp 5 (vi 0)), vi 0]), [], []⟩
set_option maxRecDepth 100000 in
theorem v605 : Valid Tryz.prog 100 c605 := made_valid (orc := orcOf 100 [c178, c18]) (N := 1000000) (ms := []) okp (orcOf_ok (andCtr v178 (andCtr v18 noCtr))) (by kernel_rfl)
def c608 : Ctr := ⟨14, [va ([vu 40, vd 0, vi 0, vi 0, vi 0, vi 2, vi 0, vq 0, vq 0, vs [0], vL] ++ rp 7 (vi 0) ++ [vL, vi 0, vi 0, vu 0] ++ rp 4 (vi 0) ++ [vu 0, vL, vi 0, vi 0, vi 0, vs [], vs [], vi 0, vi 0, vi 0, vL, vi 0, vi 0, vq 0, vb false, vi 0, vL, vi 0, vu 0, vi 0, vL] ++ rp 5 (vi 0)), vs [40, 0, 0, 0, 0, 4, 0, 1, 2, 8, 0, 1, 0]], gl0, [], re (vb true), [], []⟩
set_option maxRecDepth 100000 in
theorem v608 : Valid Tryz.prog 100 c608 := made_valid (orc := orcOf 100 [c593, c605, c127, c129, c130, c131, c132]) (N := 1000000) (ms := []) okp (orcOf_ok (andCtr v593 (andCtr v605 (andCtr v127 (andCtr v129 (andCtr v130 (andCtr v131 (andCtr v132 noCtr)))))))) (by kernel_rfl)
def c622 : Ctr := ⟨140, [vq 18446744073709551615], gl0, [], re (vs [255, 255, 255, 255, 255, 255, 255, 255]), [], []⟩
set_option maxRecDepth 100000 in
theorem v622 : Valid Tryz.prog 100 c622 := made_valid (orc := orcOf 100 []) (N := 1000000) (ms := []) okp (orcOf_ok noCtr) (by kernel_rfl)
def c645 : Ctr := ⟨35, [va ([vu 30, vd 0, vi 2147483647] ++ rp 4 (vi 0) ++ [vq 18446744073709551615, vq 256, vs [], vL] ++ rp 7 (vi 0) ++ [vL, vi 0, vi 0, vu 0] ++ rp 4 (vi 0) ++ [vu 0, vL, vi 0, vi 0, vi 0, vs [], vs [], vi 0, vi 0, vi 0, vL, vi 0, vi 0, vq 0, vb false, vi 0, vL, vi 0, vu 0, vi 0, vL] ++ rp 5 (vi 0))], gl0, [], re (vt [vl 100 0 3 3, vb true]), [], [.cells [vu 1, vs [127, 255, 255, 255], vu 6, vs [255, 255, 255, 255, 255, 255, 255, 255], vu 7, vs [1, 0]] 94 2 true true]⟩
set_option maxRecDepth 100000 in
theorem v645 : Valid Tryz.prog 100 c645 := made_valid (orc := orcOf 100 [c18, c20, c622, c35, c65, c72, c83, c91, c101, c111, c115, c119]) (N := 1000000) (ms := [147]) okp (orcOf_ok (andCtr v18 (andCtr v20 (andCtr v622 (andCtr v35 (andCtr v65 (andCtr v72 (andCtr v83 (andCtr v91 (andCtr v101 (andCtr v111 (andCtr v115 (andCtr v119 noCtr))))))))))))) (by kernel_rfl)
def c656 : Ctr := ⟨73, [vp 100 0], gl0, [ao 124 1 [vs [1, 0, 4, 127, 255, 255, 255, 6, 0, 8, 255, 255, 255, 255, 255, 255, 255, 255, 7, 0, 2, 1, 0]]], re (vt [vl 101 0 3 3, vi 0]), [some (ao 124 1 [vs []])], [.cells [vu 1, vs [127, 255, 255, 255], vu 6, vs [255, 255, 255, 255, 255, 255, 255, 255], vu 7, vs [1, 0]] 94 2 true true]⟩
set_option maxRecDepth 100000 in
theorem v656 : Valid Tryz.prog 100 c656 := made_valid (orc := orcOf 100 []) (N := 1000000) (ms := [107]) okp (orcOf_ok noCtr) (by kernel_rfl)
def c667 : Ctr := ⟨17, [vs [30, 0, 0, 0, 0, 1, 0, 4, 127, 255, 255, 255, 6, 0, 8, 255, 255, 255, 255, 255, 255, 255, 255, 7, 0, 2, 1, 0]], gl0, [], re (vt [va ([vu 30, vd 0, vi 2147483647] ++ rp 4 (vi 0) ++ [vq 18446744073709551615, vq 256, vs [], vL] ++ rp 7 (vi 0) ++ [vL, vi 0, vi 0, vu 0] ++ rp 4 (vi 0) ++ [vu 0, vL, vi 0, vi 0, vi 0, vs [], vs [], vi 0, vi 0, vi 0, vL, vi 0, vi 0, vq 0, vb false, vi 0, vL, vi 0, vu 0, vi 0, vL] ++ rp 5 (vi 0)), vi 0]), [], []⟩
set_option maxRecDepth 100000 in
theorem v667 : Valid Tryz.prog 100 c667 := made_valid (orc := orcOf 100 [c656, c18]) (N := 1000000) (ms := []) okp (orcOf_ok (andCtr v656 (andCtr v18 noCtr))) (by kernel_rfl)
def c670 : Ctr := ⟨14, [va ([vu 30, vd 0, vi 2147483647] ++ rp 4 (vi 0) ++ [vq 18446744073709551615, vq 256, vs [], vL] ++ rp 7 (vi 0) ++ [vL, vi 0, vi 0, vu 0] ++ rp 4 (vi 0) ++ [vu 0, vL, vi 0, vi 0, vi 0, vs [], vs [], vi 0, vi 0, vi 0, vL, vi 0, vi 0, vq 0, vb false, vi 0, vL, vi 0, vu 0, vi 0, vL] ++ rp 5 (vi 0)), vs [30, 0, 0, 0, 0, 1, 0, 4, 127, 255, 255, 255, 6, 0, 8, 255, 255, 255, 255, 255, 255, 255, 255, 7, 0, 2, 1, 0]], gl0, [], re (vb true), [], []⟩
set_option maxRecDepth 100000 in
theorem v670 : Valid Tryz.prog 100 c670 := made_valid (orc := orcOf 100 [c645, c667, c127, c129, c130, c131, c132]) (N := 1000000) (ms := []) okp (orcOf_ok (andCtr v645 (andCtr v667 (andCtr v127 (andCtr v129 (andCtr v130 (andCtr v131 (andCtr v132 noCtr)))))))) (by kernel_rfl)
def c705 : Ctr := ⟨35, [va ([vu 26, vd 0, vi 1] ++ rp 4 (vi 0) ++ [vq 0, vq 0, vs [], vL] ++ rp 7 (vi 0) ++ [vL, vi 0, vi 0, vu 0] ++ rp 4 (vi 0) ++ [vu 0, vL, vi 0, vi 0, vi 0, vs [], vs [], vi 0, vi 0, vi 0, vL, vi 0, vi 0, vq 0, vb false, vi 0, vL, vi 0, vu 0, vi 0, vL] ++ rp 5 (vi 0))], gl0, [], re (vt [vl 100 0 1 1, vb true]), [], [.cells [vu 1, vs [1]] 94 2 true true]⟩
set_option maxRecDepth 100000 in
theorem v705 : Valid Tryz.prog 100 c705 := made_valid (orc := orcOf 100 [c18, c20, c35, c65, c72, c83, c91, c101, c111, c115, c119]) (N := 1000000) (ms := [142]) okp (orcOf_ok (andCtr v18 (andCtr v20 (andCtr v35 (andCtr v65 (andCtr v72 (andCtr v83 (andCtr v91 (andCtr v101 (andCtr v111 (andCtr v115 (andCtr v119 noCtr)))))))))))) (by kernel_rfl)
def c713 : Ctr := ⟨17, [vs [26, 0, 0, 0, 0, 1, 0, 1, 1]], gl0, [], re (vt [va ([vu 26, vd 0, vi 1] ++ rp 4 (vi 0) ++ [vq 0, vq 0, vs [], vL] ++ rp 7 (vi 0) ++ [vL, vi 0, vi 0, vu 0] ++ rp 4 (vi 0) ++ [vu 0, vL, vi 0, vi 0, vi 0, vs [], vs [], vi 0, vi 0, vi 0, vL, vi 0, vi 0, vq 0, vb false, vi 0, vL, vi 0, vu 0, vi 0, vL] ++ rp 5 (vi 0)), vi 0]), [], []⟩
set_option maxRecDepth 100000 in
theorem v713 : Valid Tryz.prog 100 c713 := made_valid (orc := orcOf 100 [c178, c18]) (N := 1000000) (ms := []) okp (orcOf_ok (andCtr v178 (andCtr v18 noCtr))) (by kernel_rfl)
def c716 : Ctr := ⟨14, [va ([vu 26, vd 0, vi 1] ++ rp 4 (vi 0) ++ [vq 0, vq 0, vs [], vL] ++ rp 7 (vi 0) ++ [vL, vi 0, vi 0, vu 0] ++ rp 4 (vi 0) ++ [vu 0, vL, vi 0, vi 0, vi 0, vs [], vs [], vi 0, vi 0, vi 0, vL, vi 0, vi 0, vq 0, vb false, vi 0, vL, vi 0, vu 0, vi 0, vL] ++ rp 5 (vi 0)), vs [26, 0, 0, 0, 0, 1, 0, 1, 1]], gl0, [], re (vb true), [], []⟩
set_option maxRecDepth 100000 in
theorem v716 : Valid Tryz.prog 100 c716 := made_valid (orc := orcOf 100 [c705, c713, c127, c129, c130, c131, c132]) (N := 1000000) (ms := []) okp (orcOf_ok (andCtr v705 (andCtr v713 (andCtr v127 (andCtr v129 (andCtr v130 (andCtr v131 (andCtr v132 noCtr)))))))) (by kernel_rfl)
def c755 : Ctr := ⟨16, [va ([vu 3, vd 0] ++ rp 5 (vi 0) ++ [vq 0, vq 0, vr [(16376, 0)], vL] ++ rp 7 (vi 0) ++ [vL, vi 0, vi 0, vu 0] ++ rp 4 (vi 0) ++ [vu 0, vL, vi 0, vi 0, vi 0, vs [], vs [], vi 0, vi 0, vi 0, vL, vi 0, vi 0, vq 0, vb false, vi 0, vL, vi 0, vu 0, vi 0, vL] ++ rp 5 (vi 0))], gl0, [], re (vt [vr [(1, 3), (4, 0), (1, 8), (1, 63), (1, 248), (16376, 0)], vi 0]), [], []⟩
set_option maxRecDepth 100000 in
theorem v755 : Valid Tryz.prog 100 c755 := made_valid (orc := orcOf 100 [c18, c20, c35, c65, c72, c83, c91, c101, c111, c115, c119]) (N := 1000000) (ms := []) okp (orcOf_ok (andCtr v18 (andCtr v20 (andCtr v35 (andCtr v65 (andCtr v72 (andCtr v83 (andCtr v91 (andCtr v101 (andCtr v111 (andCtr v115 (andCtr v119 noCtr)))))))))))) (by kernel_rfl)
def c791 : Ctr := ⟨16, [va ([vu 3, vd 0] ++ rp 5 (vi 0) ++ [vq 0, vq 0, vr [(16376, 0), (1, 97)], vL] ++ rp 7 (vi 0) ++ [vL, vi 0, vi 0, vu 0] ++ rp 4 (vi 0) ++ [vu 0, vL, vi 0, vi 0, vi 0, vs [], vs [], vi 0, vi 0, vi 0, vL, vi 0, vi 0, vq 0, vb false, vi 0, vL, vi 0, vu 0, vi 0, vL] ++ rp 5 (vi 0))], gl0, [], re (vt [vs [], vi 5]), [], []⟩
set_option maxRecDepth 100000 in
theorem v791 : Valid Tryz.prog 100 c791 := made_valid (orc := orcOf 100 [c18, c20, c35, c65, c72, c83, c91, c101, c111, c115, c119]) (N := 1000000) (ms := []) okp (orcOf_ok (andCtr v18 (andCtr v20 (andCtr v35 (andCtr v65 (andCtr v72 (andCtr v83 (andCtr v91 (andCtr v101 (andCtr v111 (andCtr v115 (andCtr v119 noCtr)))))))))))) (by kernel_rfl)
def c854 : Ctr := ⟨148, [vl 100 0 128 128], gl0, [.cells (rp 128 (vs [])) 9 1 true true], re (vt [vr [(256, 0)], vi 0]), [some (.cells (rp 128 (vs [])) 9 1 true true)], []⟩
set_option maxRecDepth 100000 in
theorem v854 : Valid Tryz.prog 100 c854 := made_valid (orc := orcOf 100 [c209]) (N := 1000000) (ms := []) okp (orcOf_ok (andCtr v209 noCtr)) (by kernel_rfl)
def c855 : Ctr := ⟨147, [vp 100 0], gl0, [ao 51 52 ([vu 37, vd 0] ++ rp 5 (vi 0) ++ [vq 0, vq 0, vs [], vl 101 0 128 129] ++ rp 7 (vi 0) ++ [vL, vi 0, vi 0, vu 0] ++ rp 4 (vi 0) ++ [vu 0, vL, vi 0, vi 0, vi 0, vs [], vs [], vi 0, vi 0, vi 0, vL, vi 0, vi 0, vq 0, vb false, vi 0, vL, vi 0, vu 0, vi 0, vL] ++ rp 5 (vi 0)), ao 28 1 (rp 129 (vq 0))], re (vt [vr [(256, 0)], vb true]), [some (ao 51 52 ([vu 37, vd 0] ++ rp 5 (vi 0) ++ [vq 0, vq 0, vs [], vl 101 0 128 129] ++ rp 7 (vi 0) ++ [vL, vi 0, vi 0, vu 0] ++ rp 4 (vi 0) ++ [vu 0, vL, vi 0, vi 0, vi 0, vs [], vs [], vi 0, vi 0, vi 0, vL, vi 0, vi 0, vq 0, vb false, vi 0, vL, vi 0, vu 0, vi 0, vL] ++ rp 5 (vi 0))), some (ao 28 1 (rp 129 (vq 0)))], []⟩
set_option maxRecDepth 100000 in
theorem v855 : Valid Tryz.prog 100 c855 := made_valid (orc := orcOf 100 [c20, c854]) (N := 1000000) (ms := []) okp (orcOf_ok (andCtr v20 (andCtr v854 noCtr))) (by kernel_rfl)
def c873 : Ctr := ⟨35, [va ([vu 37, vd 0] ++ rp 5 (vi 0) ++ [vq 0, vq 0, vs [], vl 100 0 128 129] ++ rp 7 (vi 0) ++ [vL, vi 0, vi 0, vu 0] ++ rp 4 (vi 0) ++ [vu 0, vL, vi 0, vi 0, vi 0, vs [], vs [], vi 0, vi 0, vi 0, vL, vi 0, vi 0, vq 0, vb false, vi 0, vL, vi 0, vu 0, vi 0, vL] ++ rp 5 (vi 0))], gl0, [ao 28 1 (rp 129 (vq 0))], re (vt [vl 101 0 1 1, vb true]), [some (ao 28 1 (rp 129 (vq 0)))], [.cells [vu 9, vr [(256, 0)]] 94 2 true true]⟩
set_option maxRecDepth 100000 in
theorem v873 : Valid Tryz.prog 100 c873 := made_valid (orc := orcOf 100 [c18, c20, c855, c65, c72, c83, c91, c101, c111, c115, c119]) (N := 1000000) (ms := [142]) okp (orcOf_ok (andCtr v18 (andCtr v20 (andCtr v855 (andCtr v65 (andCtr v72 (andCtr v83 (andCtr v91 (andCtr v101 (andCtr v111 (andCtr v115 (andCtr v119 noCtr)))))))))))) (by kernel_rfl)
def c890 : Ctr := ⟨148, [vl 100 0 129 129], gl0, [.cells (rp 129 (vs [])) 9 1 true true], re (vt [vr [(258, 0)], vi 0]), [some (.cells (rp 129 (vs [])) 9 1 true true)], []⟩
set_option maxRecDepth 100000 in
theorem v890 : Valid Tryz.prog 100 c890 := made_valid (orc := orcOf 100 [c209]) (N := 1000000) (ms := []) okp (orcOf_ok (andCtr v209 noCtr)) (by kernel_rfl)
def c891 : Ctr := ⟨147, [vp 100 0], gl0, [ao 51 52 ([vu 37, vd 0] ++ rp 5 (vi 0) ++ [vq 0, vq 0, vs [], vl 101 0 129 129] ++ rp 7 (vi 0) ++ [vL, vi 0, vi 0, vu 0] ++ rp 4 (vi 0) ++ [vu 0, vL, vi 0, vi 0, vi 0, vs [], vs [], vi 0, vi 0, vi 0, vL, vi 0, vi 0, vq 0, vb false, vi 0, vL, vi 0, vu 0, vi 0, vL] ++ rp 5 (vi 0)), ao 28 1 (rp 129 (vq 0))], re (vt [vr [(258, 0)], vb false]), [some (ao 51 52 ([vu 37, vd 0] ++ rp 5 (vi 0) ++ [vq 0, vq 0, vs [], vl 101 0 129 129] ++ rp 7 (vi 0) ++ [vL, vi 0, vi 0, vu 0] ++ rp 4 (vi 0) ++ [vu 0, vL, vi 0, vi 0, vi 0, vs [], vs [], vi 0, vi 0, vi 0, vL, vi 0, vi 0, vq 0, vb false, vi 0, vL, vi 0, vu 0, vi 0, vL] ++ rp 5 (vi 0))), some (ao 28 1 (rp 129 (vq 0)))], []⟩
set_option maxRecDepth 100000 in
theorem v891 : Valid Tryz.prog 100 c891 := made_valid (orc := orcOf 100 [c20, c890]) (N := 1000000) (ms := []) okp (orcOf_ok (andCtr v20 (andCtr v890 noCtr))) (by kernel_rfl)
def c892 : Ctr := ⟨35, [va ([vu 37, vd 0] ++ rp 5 (vi 0) ++ [vq 0, vq 0, vs [], vl 100 0 129 129] ++ rp 7 (vi 0) ++ [vL, vi 0, vi 0, vu 0] ++ rp 4 (vi 0) ++ [vu 0, vL, vi 0, vi 0, vi 0, vs [], vs [], vi 0, vi 0, vi 0, vL, vi 0, vi 0, vq 0, vb false, vi 0, vL, vi 0, vu 0, vi 0, vL] ++ rp 5 (vi 0))], gl0, [ao 28 1 (rp 129 (vq 0))], re (vt [vL, vb false]), [some (ao 28 1 (rp 129 (vq 0)))], []⟩
set_option maxRecDepth 100000 in
theorem v892 : Valid Tryz.prog 100 c892 := made_valid (orc := orcOf 100 [c18, c20, c891]) (N := 1000000) (ms := []) okp (orcOf_ok (andCtr v18 (andCtr v20 (andCtr v891 noCtr)))) (by kernel_rfl)
def c909 : Ctr := ⟨20, [va ([vu 1, vd 0, vi 1] ++ rp 4 (vi 0) ++ [vq 0, vq 0, vs [], vL] ++ rp 7 (vi 0) ++ [vL, vi 0, vi 0, vu 0] ++ rp 4 (vi 0) ++ [vu 0, vL, vi 0, vi 0, vi 0, vs [], vs [], vi 0, vi 0, vi 0, vL, vi 0, vi 0, vq 0, vb false, vi 0, vL, vi 0, vu 0, vi 0, vL] ++ rp 5 (vi 0))], gl0, [], re (vb true), [], []⟩
set_option maxRecDepth 100000 in
theorem v909 : Valid Tryz.prog 100 c909 := made_valid (orc := orcOf 100 [c18]) (N := 1000000) (ms := []) okp (orcOf_ok (andCtr v18 noCtr)) (by kernel_rfl)
def c923 : Ctr := ⟨20, [va ([vu 12, vd 0, vi 2147483648] ++ rp 4 (vi 0) ++ [vq 0, vq 0, vs [], vL] ++ rp 7 (vi 0) ++ [vL, vi 0, vi 0, vu 0] ++ rp 4 (vi 0) ++ [vu 0, vL, vi 0, vi 0, vi 0, vs [], vs [], vi 0, vi 0, vi 0, vL, vi 0, vi 0, vq 0, vb false, vi 0, vL, vi 0, vu 0, vi 0, vL] ++ rp 5 (vi 0))], gl0, [], re (vb true), [], []⟩
set_option maxRecDepth 100000 in
theorem v923 : Valid Tryz.prog 100 c923 := made_valid (orc := orcOf 100 [c18]) (N := 1000000) (ms := []) okp (orcOf_ok (andCtr v18 noCtr)) (by kernel_rfl)
def c931 : Ctr := ⟨20, [va ([vu 1, vd 0, vi 0, vm 1, vi 0, vi 0, vi 0, vq 0, vq 0, vs [], vL] ++ rp 7 (vi 0) ++ [vL, vi 0, vi 0, vu 0] ++ rp 4 (vi 0) ++ [vu 0, vL, vi 0, vi 0, vi 0, vs [], vs [], vi 0, vi 0, vi 0, vL, vi 0, vi 0, vq 0, vb false, vi 0, vL, vi 0, vu 0, vi 0, vL] ++ rp 5 (vi 0))], gl0, [], re (vb true), [], []⟩
set_option maxRecDepth 100000 in
theorem v931 : Valid Tryz.prog 100 c931 := made_valid (orc := orcOf 100 [c18, c20, c622]) (N := 1000000) (ms := []) okp (orcOf_ok (andCtr v18 (andCtr v20 (andCtr v622 noCtr)))) (by kernel_rfl)
def c971 : Ctr := ⟨35, [va ([vu 25, vd 0] ++ rp 5 (vi 0) ++ [vq 0, vq 0, vs [], vL] ++ rp 7 (vi 0) ++ [vL, vi 0, vi 0, vu 0] ++ rp 4 (vi 0) ++ [vu 0, vL, vi 0, vi 0, vi 0, vs [], vs [], vi 0, vi 0, vi 0, vL, vi 0, vi 0, vq 0, vb false, vi 0, vL, vi 0, vu 0, vi 0, vL] ++ rp 4 (vi 0) ++ [vm 1])], gl0, [], re (vt [vL, vb false]), [], []⟩
set_option maxRecDepth 100000 in
theorem v971 : Valid Tryz.prog 100 c971 := made_valid (orc := orcOf 100 [c18, c20, c35, c65, c72, c83, c91, c101, c111, c115]) (N := 1000000) (ms := []) okp (orcOf_ok (andCtr v18 (andCtr v20 (andCtr v35 (andCtr v65 (andCtr v72 (andCtr v83 (andCtr v91 (andCtr v101 (andCtr v111 (andCtr v115 noCtr))))))))))) (by kernel_rfl)
def c982 : Ctr := ⟨20, [va ([vu 11, vd 0, vi 1] ++ rp 4 (vi 0) ++ [vq 0, vq 0, vs [], vL, vi 1] ++ rp 6 (vi 0) ++ [vL, vi 0, vi 0, vu 0] ++ rp 4 (vi 0) ++ [vu 0, vL, vi 0, vi 0, vi 0, vs [], vs [], vi 0, vi 0, vi 0, vL, vi 0, vi 0, vq 0, vb false, vi 0, vL, vi 0, vu 0, vi 0, vL] ++ rp 5 (vi 0))], gl0, [], re (vb true), [], []⟩
set_option maxRecDepth 100000 in
theorem v982 : Valid Tryz.prog 100 c982 := made_valid (orc := orcOf 100 [c18]) (N := 1000000) (ms := []) okp (orcOf_ok (andCtr v18 noCtr)) (by kernel_rfl)
def c1002 : Ctr := ⟨35, [va ([vu 5, vd 0] ++ rp 5 (vi 0) ++ [vq 0, vq 0, vs [], vl 100 0 1 129] ++ rp 7 (vi 0) ++ [vL, vi 0, vi 0, vu 0] ++ rp 4 (vi 0) ++ [vu 0, vL, vi 0, vi 0, vi 0, vs [], vs [], vi 0, vi 0, vi 0, vL, vi 0, vi 0, vq 0, vb false, vi 0, vL, vi 0, vu 0, vi 0, vL] ++ rp 5 (vi 0))], gl0, [ao 28 1 (rp 129 (vq 0))], re (vt [vL, vb false]), [some (ao 28 1 (rp 129 (vq 0)))], []⟩
set_option maxRecDepth 100000 in
theorem v1002 : Valid Tryz.prog 100 c1002 := made_valid (orc := orcOf 100 [c18, c20, c209]) (N := 1000000) (ms := []) okp (orcOf_ok (andCtr v18 (andCtr v20 (andCtr v209 noCtr)))) (by kernel_rfl)
def c1032 : Ctr := ⟨87, [va (rp 7 (vi 0) ++ [vl 100 0 1 1, vi 0])], gl0, [ao 61 2 [vd 0, vi 0]], re (vt [vs [9, 0, 2, 0, 0], vi 0]), [some (ao 61 2 [vd 0, vi 0])], []⟩
set_option maxRecDepth 100000 in
theorem v1032 : Valid Tryz.prog 100 c1032 := made_valid (orc := orcOf 100 [c41, c20, c64, c209]) (N := 1000000) (ms := []) okp (orcOf_ok (andCtr v41 (andCtr v20 (andCtr v64 (andCtr v209 noCtr))))) (by kernel_rfl)
def c1035 : Ctr := ⟨35, [va ([vu 5, vd 0] ++ rp 5 (vi 0) ++ [vq 0, vq 0, vs [], vL] ++ rp 7 (vi 0) ++ [vl 100 0 1 1, vi 0, vi 0, vu 0] ++ rp 4 (vi 0) ++ [vu 0, vL, vi 0, vi 0, vi 0, vs [], vs [], vi 0, vi 0, vi 0, vL, vi 0, vi 0, vq 0, vb false, vi 0, vL, vi 0, vu 0, vi 0, vL] ++ rp 5 (vi 0))], gl0, [ao 61 2 [vd 0, vi 0]], re (vt [vL, vb false]), [some (ao 61 2 [vd 0, vi 0])], []⟩
set_option maxRecDepth 100000 in
theorem v1035 : Valid Tryz.prog 100 c1035 := made_valid (orc := orcOf 100 [c18, c20, c35, c1032]) (N := 1000000) (ms := []) okp (orcOf_ok (andCtr v18 (andCtr v20 (andCtr v35 (andCtr v1032 noCtr))))) (by kernel_rfl)
def c1066 : Ctr := ⟨17, [vs [12, 0, 0, 0, 0, 1, 0, 2, 0, 1]], gl0, [], re (vt [va ([vu 0, vd 0] ++ rp 5 (vi 0) ++ [vq 0, vq 0, vs [], vL] ++ rp 7 (vi 0) ++ [vL, vi 0, vi 0, vu 0] ++ rp 4 (vi 0) ++ [vu 0, vL, vi 0, vi 0, vi 0, vs [], vs [], vi 0, vi 0, vi 0, vL, vi 0, vi 0, vq 0, vb false, vi 0, vL, vi 0, vu 0, vi 0, vL] ++ rp 5 (vi 0)), vi 3]), [], []⟩
set_option maxRecDepth 100000 in
theorem v1066 : Valid Tryz.prog 100 c1066 := made_valid (orc := orcOf 100 [c18]) (N := 1000000) (ms := []) okp (orcOf_ok (andCtr v18 noCtr)) (by kernel_rfl)
def c1074 : Ctr := ⟨17, [vs [12, 0, 0, 0, 0, 1, 0, 4, 128, 0, 0, 0]], gl0, [], re (vt [va ([vu 0, vd 0] ++ rp 5 (vi 0) ++ [vq 0, vq 0, vs [], vL] ++ rp 7 (vi 0) ++ [vL, vi 0, vi 0, vu 0] ++ rp 4 (vi 0) ++ [vu 0, vL, vi 0, vi 0, vi 0, vs [], vs [], vi 0, vi 0, vi 0, vL, vi 0, vi 0, vq 0, vb false, vi 0, vL, vi 0, vu 0, vi 0, vL] ++ rp 5 (vi 0)), vi 3]), [], []⟩
set_option maxRecDepth 100000 in
theorem v1074 : Valid Tryz.prog 100 c1074 := made_valid (orc := orcOf 100 [c18]) (N := 1000000) (ms := []) okp (orcOf_ok (andCtr v18 noCtr)) (by kernel_rfl)
def c1092 : Ctr := ⟨17, [vs [37, 0, 0, 0, 0, 9, 0, 3, 0, 1, 0]], gl0, [], re (vt [va ([vu 0, vd 0] ++ rp 5 (vi 0) ++ [vq 0, vq 0, vs [], vL] ++ rp 7 (vi 0) ++ [vL, vi 0, vi 0, vu 0] ++ rp 4 (vi 0) ++ [vu 0, vL, vi 0, vi 0, vi 0, vs [], vs [], vi 0, vi 0, vi 0, vL, vi 0, vi 0, vq 0, vb false, vi 0, vL, vi 0, vu 0, vi 0, vL] ++ rp 5 (vi 0)), vi 3]), [], []⟩
set_option maxRecDepth 100000 in
theorem v1092 : Valid Tryz.prog 100 c1092 := made_valid (orc := orcOf 100 [c18, c178]) (N := 1000000) (ms := []) okp (orcOf_ok (andCtr v18 (andCtr v178 noCtr))) (by kernel_rfl)
def c1101 : Ctr := ⟨17, [vs [37, 0, 0, 0, 0, 9, 0, 1, 0]], gl0, [], re (vt [va ([vu 0, vd 0] ++ rp 5 (vi 0) ++ [vq 0, vq 0, vs [], vL] ++ rp 7 (vi 0) ++ [vL, vi 0, vi 0, vu 0] ++ rp 4 (vi 0) ++ [vu 0, vL, vi 0, vi 0, vi 0, vs [], vs [], vi 0, vi 0, vi 0, vL, vi 0, vi 0, vq 0, vb false, vi 0, vL, vi 0, vu 0, vi 0, vL] ++ rp 5 (vi 0)), vi 3]), [], []⟩
set_option maxRecDepth 100000 in
theorem v1101 : Valid Tryz.prog 100 c1101 := made_valid (orc := orcOf 100 [c178, c18]) (N := 1000000) (ms := []) okp (orcOf_ok (andCtr v178 (andCtr v18 noCtr))) (by kernel_rfl)
def c1111 : Ctr := ⟨17, [vs [13, 0, 0, 0, 0, 11, 0, 1, 1]], gl0, [], re (vt [va ([vu 0, vd 0] ++ rp 5 (vi 0) ++ [vq 0, vq 0, vs [], vL] ++ rp 7 (vi 0) ++ [vL, vi 0, vi 0, vu 0] ++ rp 4 (vi 0) ++ [vu 0, vL, vi 0, vi 0, vi 0, vs [], vs [], vi 0, vi 0, vi 0, vL, vi 0, vi 0, vq 0, vb false, vi 0, vL, vi 0, vu 0, vi 0, vL] ++ rp 5 (vi 0)), vi 3]), [], []⟩
set_option maxRecDepth 100000 in
theorem v1111 : Valid Tryz.prog 100 c1111 := made_valid (orc := orcOf 100 [c178, c18]) (N := 1000000) (ms := []) okp (orcOf_ok (andCtr v178 (andCtr v18 noCtr))) (by kernel_rfl)
def c1117 : Ctr := ⟨17, [vs [1, 0, 0, 0, 0, 18, 0, 1, 1]], gl0, [], re (vt [va ([vu 0, vd 0] ++ rp 5 (vi 0) ++ [vq 0, vq 0, vs [], vL] ++ rp 7 (vi 0) ++ [vL, vi 0, vi 0, vu 0] ++ rp 4 (vi 0) ++ [vu 0, vL, vi 0, vi 0, vi 0, vs [], vs [], vi 0, vi 0, vi 0, vL, vi 0, vi 0, vq 0, vb false, vi 0, vL, vi 0, vu 0, vi 0, vL] ++ rp 5 (vi 0)), vi 3]), [], []⟩
set_option maxRecDepth 100000 in
theorem v1117 : Valid Tryz.prog 100 c1117 := made_valid (orc := orcOf 100 [c178, c18]) (N := 1000000) (ms := []) okp (orcOf_ok (andCtr v178 (andCtr v18 noCtr))) (by kernel_rfl)
set_option maxRecDepth 100000 in
theorem ran : retTrue (ev Tryz.prog (orcOf 100 [c137, c189, c257, c296, c299, c305, c324, c347, c365, c383, c400, c460, c557, c608, c670, c716, c755, c791, c18, c20, c35, c65, c72, c83, c91, c101, c111, c115, c119, c873, c892, c909, c622, c923, c931, c971, c982, c1002, c1035, c1066, c1074, c178, c1092, c1101, c1111, c1117]) 1000000 (.call 3 [] (hOf 100 gl0 []))) = true := by kernel_rfl
theorem known : ∀ c ∈ ([c137, c189, c257, c296, c299, c305, c324, c347, c365, c383, c400, c460, c557, c608, c670, c716, c755, c791, c18, c20, c35, c65, c72, c83, c91, c101, c111, c115, c119, c873, c892, c909, c622, c923, c931, c971, c982, c1002, c1035, c1066, c1074, c178, c1092, c1101, c1111, c1117] : List Ctr), Valid Tryz.prog 100 c := (andCtr v137 (andCtr v189 (andCtr v257 (andCtr v296 (andCtr v299 (andCtr v305 (andCtr v324 (andCtr v347 (andCtr v365 (andCtr v383 (andCtr v400 (andCtr v460 (andCtr v557 (andCtr v608 (andCtr v670 (andCtr v716 (andCtr v755 (andCtr v791 (andCtr v18 (andCtr v20 (andCtr v35 (andCtr v65 (andCtr v72 (andCtr v83 (andCtr v91 (andCtr v101 (andCtr v111 (andCtr v115 (andCtr v119 (andCtr v873 (andCtr v892 (andCtr v909 (andCtr v622 (andCtr v923 (andCtr v931 (andCtr v971 (andCtr v982 (andCtr v1002 (andCtr v1035 (andCtr v1066 (andCtr v1074 (andCtr v178 (andCtr v1092 (andCtr v1101 (andCtr v1111 (andCtr v1117 noCtr))))))))))))))))))))))))))))))))))))))))))))))
end
end Go.Proofs.YtblbaohcelldpaaGreatDoor.protoNames
