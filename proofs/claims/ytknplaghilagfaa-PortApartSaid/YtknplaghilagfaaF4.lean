/- PortEach, to be looked at. -/
import Derived.Test.YtknplaghilagfaaF3
import Derived.KernelRfl
namespace Go.Proofs.Ytknplaghilagfaa.Po
open Go Go.Abs
set_option linter.unusedVariables false
noncomputable section
def p102 : Value := .pointer (some ⟨102, 0, none⟩)
/-- A call of long whose slice is told by what is there. -/
def sLongV (LV : Value → List (Option AObj) → Prop → Prop → Prop) : List Value → Heap → VK → Prop
  | [x], H, K => LV x (objsOf 100 H) (K (.bool true) H) (K (.bool false) H)
  | _, _, _ => False
def knV (LV : Value → List (Option AObj) → Prop → Prop → Prop) (M : PN) : List (FuncId × (List Value → Heap → VK → Prop)) := (8, sLongV LV) :: knRest M
def gE8 (N : Nd) (M : PN) (av va vb : List Value) (n c : Nat) (x i k : Int) (back : Back) (out : Out) : Prop :=
  wpe Try.prog N (WD M) 300 (.code false (loopIn Try.prog 4 8) (stOf 100 87 [0, 1, 5, 6, 7, 8] ([asl n c, i64 x, p101, p102, i64 i, i64 k], [some (acs av), some (pob va), some (pob vb)]))) (roundQ 100 [0, 1, 5, 6, 7, 8] [0, 1, 5, 6, 7] 87 back out)
abbrev LE := Code → Nat → List Value → Option AObj → List Value → List Value → (List Value → List Value → Prop) → Prop
def sLoopE (L : LE) (g : List Value → List Value) (id : Nat) (live2 : List Nat) : Code → Nat → List Value → Heap → (Res → Prop) → Prop := fun c n vals h Q =>
  match objsOf 100 h with
  | [oa, some (.cells va 56 560 false true), some (.cells vb 56 560 false true)] => L c n vals oa va vb fun va' vb' => Q (.ex (.exit id) (stOf 100 n live2 (g vals, [oa, some (pob va'), some (pob vb')])))
  | _ => False
def lpE8 (L : LE) : List (Nat × (List Nat × (Code → Nat → List Value → Heap → (Res → Prop) → Prop))) := [(8, ([0, 1, 5, 6, 7, 8], sLoopE L (List.take 5) 2 [0, 1, 5, 6, 7]))]
def gE5 (N : Nd) (M : PN) (L : LE) (av va vb : List Value) (n c : Nat) (x i : Int) (back : Back) (out : Out) : Prop :=
  wpe Try.prog N ⟨sy1 100, false, lookN (knRest M), lookN (lpE8 L)⟩ 300 (.code false (loopIn Try.prog 4 5) (stOf 100 87 [0, 1, 5, 6, 7] ([asl n c, i64 x, p101, p102, i64 i], [some (acs av), some (pob va), some (pob vb)]))) (roundQ 100 [0, 1, 5, 6, 7] [1, 5, 6] 87 back out)
def gE50 (N : Nd) (M : PN) (oa : Option AObj) (va vb : List Value) (x : Int) (back : Back) (out : Out) : Prop :=
  wpe Try.prog N (WR M) 300 (.code false (loopIn Try.prog 4 5) (stOf 100 87 [0, 1, 5, 6, 7] ([.slice none 0 0, i64 x, p101, p102, i64 0], [oa, some (pob va), some (pob vb)]))) (roundQ 100 [0, 1, 5, 6, 7] [1, 5, 6] 87 back out)
def gE5Z (N : Nd) (M : PN) (sp : Option Nat) (oa : Option AObj) (va vb : List Value) (x : Int) (back : Back) (out : Out) : Prop :=
  wpe Try.prog N (WR M) 300 (.code false (loopIn Try.prog 4 5) (stOf 100 87 [0, 1, 5, 6, 7] ([.slice (some ⟨100, 0, sp⟩) 0 0, i64 x, p101, p102, i64 0], [oa, some (pob va), some (pob vb)]))) (roundQ 100 [0, 1, 5, 6, 7] [1, 5, 6] 87 back out)
def gE14 (N : Nd) (M : PN) (oa : Option AObj) (va vb : List Value) (x i : Int) (back : Back) (out : Out) : Prop :=
  wpe Try.prog N (WR M) 300 (.code false (loopIn Try.prog 4 14) (stOf 100 87 [1, 5, 6, 9] ([i64 x, p101, p102, i64 i], [oa, some (pob va), some (pob vb)]))) (roundQ 100 [1, 5, 6, 9] [1, 5, 6] 87 back out)
def gEach (N : Nd) (M : PN) (LV : Value → List (Option AObj) → Prop → Prop → Prop) (L5 L14 : LE) (sv : Value) (oa : Option AObj) (x : Int) (K : RK) : Prop :=
  wpe Try.prog N ⟨fun _ => false, false, lookN (knV LV M), lookN [(5, ([0, 1, 5, 6, 7], sLoopE L5 (fun v => (v.drop 1).take 3) 0 [1, 5, 6])), (14, ([1, 5, 6, 9], sLoopE L14 (List.take 3) 4 [1, 5, 6]))]⟩ 600 (.call 4 [sv, i64 x] (hOf 100 [] [oa])) (retQ 100 K)
def gLongN (N : Nd) (H : Heap) (Q : Res → Prop) : Prop := wpe Try.prog N (WR realP) 60 (.call 8 [.slice none 0 0] H) Q
def gLongZ (N : Nd) (b : Nat) (sp : Option Nat) (H : Heap) (Q : Res → Prop) : Prop := wpe Try.prog N (WR realP) 60 (.call 8 [.slice (some ⟨b, 0, sp⟩) 0 0] H) Q
set_option maxRecDepth 100000
theorem gE8_eq (N : Go.Abs.Nd) (M : Go.Proofs.Ytknplaghilagfaa.Po.PN) (av : List Go.Value) (va : List Go.Value) (vb : List Go.Value) (n : Nat) (c : Nat) (x : Int) (i : Int) (k : Int) (back : Go.Proofs.Ytknplaghilagfaa.Po.Back) (out : Go.Proofs.Ytknplaghilagfaa.Po.Out) : gE8 N M av va vb n c x i k back out =
  (N.idx n 0 4 i (fun o0 =>
   N.rdI IntKind.u8 av o0 (fun z1 =>
    N.rdI IntKind.i64 av (o0 + 1) (fun z2 =>
     N.rdI IntKind.u8 av (o0 + 2) (fun z3 =>
      N.rdS av (o0 + 3) (fun s4 =>
       M.times z1 z2 z3 s4 (fun z5 =>
        N.cmp BinOp.lss IntKind.i64 k IntKind.i64 z5 (N.idx n 0 4 i (fun o6 =>
         N.rdI IntKind.u8 av o6 (fun z7 =>
          N.rdI IntKind.i64 av (o6 + 1) (fun z8 =>
           N.rdI IntKind.u8 av (o6 + 2) (fun z9 =>
            N.rdS av (o6 + 3) (fun s10 =>
             M.step va z7 z8 z9 s10 (fun l11 =>
              N.idx n 0 4 i (fun o12 =>
               N.rdI IntKind.i64 av (o12 + 1) (fun z13 =>
                N.cmp BinOp.eql IntKind.i64 z13 IntKind.i64 x (N.idx n 0 4 i (fun o14 =>
                 N.rdI IntKind.u8 av o14 (fun z15 =>
                  N.rdI IntKind.i64 av (o14 + 1) (fun z16 =>
                   N.rdI IntKind.u8 av (o14 + 2) (fun z17 =>
                    N.rdS av (o14 + 3) (fun s18 =>
                     M.step vb z15 z16 z17 s18 (fun l19 =>
                      N.ari BinOp.add IntKind.i64 k IntKind.i64 (1 : Int) (fun z20 =>
                       back [(Value.slice (some (Addr.mk 100 0 none)) n c), (Value.int IntKind.i64 x), (Value.pointer (some (Addr.mk 101 0 none))), (Value.pointer (some (Addr.mk 102 0 none))), (Value.int IntKind.i64 i), (Value.int IntKind.i64 z20)] [(some (AObj.cells av 29 4 true false)), (some (AObj.cells l11 56 560 false true)), (some (AObj.cells l19 56 560 false true))])))))))) (N.ari BinOp.add IntKind.i64 k IntKind.i64 (1 : Int) (fun z14 =>
                 back [(Value.slice (some (Addr.mk 100 0 none)) n c), (Value.int IntKind.i64 x), (Value.pointer (some (Addr.mk 101 0 none))), (Value.pointer (some (Addr.mk 102 0 none))), (Value.int IntKind.i64 i), (Value.int IntKind.i64 z14)] [(some (AObj.cells av 29 4 true false)), (some (AObj.cells l11 56 560 false true)), (some (AObj.cells vb 56 560 false true))]))))))))))) (out (Exit.exit 2) [(Value.slice (some (Addr.mk 100 0 none)) n c), (Value.int IntKind.i64 x), (Value.pointer (some (Addr.mk 101 0 none))), (Value.pointer (some (Addr.mk 102 0 none))), (Value.int IntKind.i64 i)] [(some (AObj.cells av 29 4 true false)), (some (AObj.cells va 56 560 false true)), (some (AObj.cells vb 56 560 false true))])))))))) := by kernel_rfl
theorem gE5_eq (N : Go.Abs.Nd) (M : Go.Proofs.Ytknplaghilagfaa.Po.PN) (L : Go.Proofs.Ytknplaghilagfaa.Po.LE) (av : List Go.Value) (va : List Go.Value) (vb : List Go.Value) (n : Nat) (c : Nat) (x : Int) (i : Int) (back : Go.Proofs.Ytknplaghilagfaa.Po.Back) (out : Go.Proofs.Ytknplaghilagfaa.Po.Out) : gE5 N M L av va vb n c x i back out =
  (N.cmp BinOp.lss IntKind.i64 i IntKind.i64 (Int.ofNat n) (L (loopIn Try.prog 4 8) 87 [(Value.slice (some (Addr.mk 100 0 none)) n c), (Value.int IntKind.i64 x), (Value.pointer (some (Addr.mk 101 0 none))), (Value.pointer (some (Addr.mk 102 0 none))), (Value.int IntKind.i64 i), (Value.int IntKind.i64 (0 : Int))] (some (AObj.cells av 29 4 true false)) va vb (fun l0 l1 =>
   N.ari BinOp.add IntKind.i64 i IntKind.i64 (1 : Int) (fun z2 =>
    back [(Value.slice (some (Addr.mk 100 0 none)) n c), (Value.int IntKind.i64 x), (Value.pointer (some (Addr.mk 101 0 none))), (Value.pointer (some (Addr.mk 102 0 none))), (Value.int IntKind.i64 z2)] [(some (AObj.cells av 29 4 true false)), (some (AObj.cells l0 56 560 false true)), (some (AObj.cells l1 56 560 false true))]))) (out (Exit.exit 0) [(Value.int IntKind.i64 x), (Value.pointer (some (Addr.mk 101 0 none))), (Value.pointer (some (Addr.mk 102 0 none)))] [(some (AObj.cells av 29 4 true false)), (some (AObj.cells va 56 560 false true)), (some (AObj.cells vb 56 560 false true))])) := by kernel_rfl
theorem gE50_eq (N : Go.Abs.Nd) (M : Go.Proofs.Ytknplaghilagfaa.Po.PN) (oa : Option Go.Abs.AObj) (va : List Go.Value) (vb : List Go.Value) (x : Int) (back : Go.Proofs.Ytknplaghilagfaa.Po.Back) (out : Go.Proofs.Ytknplaghilagfaa.Po.Out) : gE50 N M oa va vb x back out =
  (N.cmp BinOp.lss IntKind.i64 (0 : Int) IntKind.i64 (0 : Int) (False) (out (Exit.exit 0) [(Value.int IntKind.i64 x), (Value.pointer (some (Addr.mk 101 0 none))), (Value.pointer (some (Addr.mk 102 0 none)))] [oa, (some (AObj.cells va 56 560 false true)), (some (AObj.cells vb 56 560 false true))])) := by kernel_rfl
theorem gE5Z_eq (N : Go.Abs.Nd) (M : Go.Proofs.Ytknplaghilagfaa.Po.PN) (sp : Option Nat) (oa : Option Go.Abs.AObj) (va : List Go.Value) (vb : List Go.Value) (x : Int) (back : Go.Proofs.Ytknplaghilagfaa.Po.Back) (out : Go.Proofs.Ytknplaghilagfaa.Po.Out) : gE5Z N M sp oa va vb x back out =
  (N.cmp BinOp.lss IntKind.i64 (0 : Int) IntKind.i64 (0 : Int) (False) (out (Exit.exit 0) [(Value.int IntKind.i64 x), (Value.pointer (some (Addr.mk 101 0 none))), (Value.pointer (some (Addr.mk 102 0 none)))] [oa, (some (AObj.cells va 56 560 false true)), (some (AObj.cells vb 56 560 false true))])) := by kernel_rfl
theorem gE14_eq (N : Go.Abs.Nd) (M : Go.Proofs.Ytknplaghilagfaa.Po.PN) (oa : Option Go.Abs.AObj) (va : List Go.Value) (vb : List Go.Value) (x : Int) (i : Int) (back : Go.Proofs.Ytknplaghilagfaa.Po.Back) (out : Go.Proofs.Ytknplaghilagfaa.Po.Out) : gE14 N M oa va vb x i back out =
  (N.cmp BinOp.leq IntKind.i64 i IntKind.i64 (16 : Int) (N.cmp BinOp.neq IntKind.i64 i IntKind.i64 x (M.isUp vb i (out Exit.ret [(Value.int IntKind.i64 x), (Value.pointer (some (Addr.mk 101 0 none))), (Value.pointer (some (Addr.mk 102 0 none)))] [oa, (some (AObj.cells va 56 560 false true)), (some (AObj.cells vb 56 560 false true))]) (M.waits vb i (fun z0 =>
   N.cmp BinOp.neq IntKind.i64 z0 IntKind.i64 (0 : Int) (out Exit.ret [(Value.int IntKind.i64 x), (Value.pointer (some (Addr.mk 101 0 none))), (Value.pointer (some (Addr.mk 102 0 none)))] [oa, (some (AObj.cells va 56 560 false true)), (some (AObj.cells vb 56 560 false true))]) (N.ari BinOp.add IntKind.i64 i IntKind.i64 (1 : Int) (fun z1 =>
    back [(Value.int IntKind.i64 x), (Value.pointer (some (Addr.mk 101 0 none))), (Value.pointer (some (Addr.mk 102 0 none))), (Value.int IntKind.i64 z1)] [oa, (some (AObj.cells va 56 560 false true)), (some (AObj.cells vb 56 560 false true))]))))) (N.ari BinOp.add IntKind.i64 i IntKind.i64 (1 : Int) (fun z0 =>
   back [(Value.int IntKind.i64 x), (Value.pointer (some (Addr.mk 101 0 none))), (Value.pointer (some (Addr.mk 102 0 none))), (Value.int IntKind.i64 z0)] [oa, (some (AObj.cells va 56 560 false true)), (some (AObj.cells vb 56 560 false true))]))) (out (Exit.exit 4) [(Value.int IntKind.i64 x), (Value.pointer (some (Addr.mk 101 0 none))), (Value.pointer (some (Addr.mk 102 0 none)))] [oa, (some (AObj.cells va 56 560 false true)), (some (AObj.cells vb 56 560 false true))])) := by kernel_rfl
theorem gLongN_eq (N : Go.Abs.Nd) (H : Go.Abs.Heap) (Q : Go.Abs.Res → Prop) : gLongN N H Q =
  (N.cmp BinOp.lss IntKind.i64 (0 : Int) IntKind.i64 (0 : Int) (N.cmp BinOp.lss IntKind.i64 (0 : Int) IntKind.i64 (60000 : Int) (N.ari BinOp.add IntKind.i64 (0 : Int) IntKind.i64 (60 : Int) (fun z0 =>
   False)) (N.cmp BinOp.geq IntKind.i64 (0 : Int) IntKind.i64 (60000 : Int) (Q (Res.en (Ending.returned (Value.bool true)) FrameMode.run H)) (Q (Res.en (Ending.returned (Value.bool false)) FrameMode.run H)))) (N.cmp BinOp.geq IntKind.i64 (0 : Int) IntKind.i64 (60000 : Int) (Q (Res.en (Ending.returned (Value.bool true)) FrameMode.run H)) (Q (Res.en (Ending.returned (Value.bool false)) FrameMode.run H)))) := by kernel_rfl
theorem gLongZ_eq (N : Go.Abs.Nd) (b : Nat) (sp : Option Nat) (H : Go.Abs.Heap) (Q : Go.Abs.Res → Prop) : gLongZ N b sp H Q =
  (N.cmp BinOp.lss IntKind.i64 (0 : Int) IntKind.i64 (0 : Int) (N.cmp BinOp.lss IntKind.i64 (0 : Int) IntKind.i64 (60000 : Int) (N.ari BinOp.add IntKind.i64 (0 : Int) IntKind.i64 (60 : Int) (fun z0 =>
   False)) (N.cmp BinOp.geq IntKind.i64 (0 : Int) IntKind.i64 (60000 : Int) (Q (Res.en (Ending.returned (Value.bool true)) FrameMode.run H)) (Q (Res.en (Ending.returned (Value.bool false)) FrameMode.run H)))) (N.cmp BinOp.geq IntKind.i64 (0 : Int) IntKind.i64 (60000 : Int) (Q (Res.en (Ending.returned (Value.bool true)) FrameMode.run H)) (Q (Res.en (Ending.returned (Value.bool false)) FrameMode.run H)))) := by kernel_rfl
theorem gEach_eq (N : Go.Abs.Nd) (M : Go.Proofs.Ytknplaghilagfaa.Po.PN) (LV : Go.Value → List (Option Go.Abs.AObj) → Prop → Prop → Prop) (L5 : Go.Proofs.Ytknplaghilagfaa.Po.LE) (L14 : Go.Proofs.Ytknplaghilagfaa.Po.LE) (sv : Go.Value) (oa : Option Go.Abs.AObj) (x : Int) (K : Go.Proofs.Ytknplaghilagfaa.Po.RK) : gEach N M LV L5 L14 sv oa x K =
  (LV sv [oa] (K (Value.bool true) [oa]) (M.new (fun l0 =>
   M.new (fun l1 =>
    L5 (loopIn Try.prog 4 5) 87 [sv, (Value.int IntKind.i64 x), (Value.pointer (some (Addr.mk 101 0 none))), (Value.pointer (some (Addr.mk 102 0 none))), (Value.int IntKind.i64 (0 : Int))] oa l0 l1 (fun l2 l3 =>
     L14 (loopIn Try.prog 4 14) 87 [(Value.int IntKind.i64 x), (Value.pointer (some (Addr.mk 101 0 none))), (Value.pointer (some (Addr.mk 102 0 none))), (Value.int IntKind.i64 (1 : Int))] oa l2 l3 (fun l4 l5 =>
      M.isUp l4 x (M.isUp l5 x (M.all l4 x (M.all l5 x ((0 = 0) ∧
       ((0 = 0) ∧
       (M.same [] 0 [] 0 (K (Value.bool true) [oa, (some (AObj.cells l4 56 560 false true)), (some (AObj.cells l5 56 560 false true))]) (K (Value.bool false) [oa, (some (AObj.cells l4 56 560 false true)), (some (AObj.cells l5 56 560 false true))])))) (fun l6 o7 =>
       (0 = 0) ∧
        ((o7 = o7) ∧
        (M.same [] 0 l6 o7 (K (Value.bool true) [oa, (some (AObj.cells l4 56 560 false true)), (some (AObj.cells l5 56 560 false true)), (some (AObj.cells l6 9 1 true true))]) (K (Value.bool false) [oa, (some (AObj.cells l4 56 560 false true)), (some (AObj.cells l5 56 560 false true)), (some (AObj.cells l6 9 1 true true))]))))) (fun l6 o7 =>
       M.all l5 x ((o7 = o7) ∧
        ((0 = 0) ∧
        (M.same l6 o7 [] 0 (K (Value.bool true) [oa, (some (AObj.cells l4 56 560 false true)), (some (AObj.cells l5 56 560 false true)), (some (AObj.cells l6 9 1 true true))]) (K (Value.bool false) [oa, (some (AObj.cells l4 56 560 false true)), (some (AObj.cells l5 56 560 false true)), (some (AObj.cells l6 9 1 true true))])))) (fun l8 o9 =>
        (o7 = o7) ∧
         ((o9 = o9) ∧
         (M.same l6 o7 l8 o9 (K (Value.bool true) [oa, (some (AObj.cells l4 56 560 false true)), (some (AObj.cells l5 56 560 false true)), (some (AObj.cells l6 9 1 true true)), (some (AObj.cells l8 9 1 true true))]) (K (Value.bool false) [oa, (some (AObj.cells l4 56 560 false true)), (some (AObj.cells l5 56 560 false true)), (some (AObj.cells l6 9 1 true true)), (some (AObj.cells l8 9 1 true true))])))))) (K (Value.bool false) [oa, (some (AObj.cells l4 56 560 false true)), (some (AObj.cells l5 56 560 false true))])) (M.isUp l5 x (K (Value.bool false) [oa, (some (AObj.cells l4 56 560 false true)), (some (AObj.cells l5 56 560 false true))]) (M.all l4 x (M.all l5 x ((0 = 0) ∧
       ((0 = 0) ∧
       (M.same [] 0 [] 0 (K (Value.bool true) [oa, (some (AObj.cells l4 56 560 false true)), (some (AObj.cells l5 56 560 false true))]) (K (Value.bool false) [oa, (some (AObj.cells l4 56 560 false true)), (some (AObj.cells l5 56 560 false true))])))) (fun l6 o7 =>
       (0 = 0) ∧
        ((o7 = o7) ∧
        (M.same [] 0 l6 o7 (K (Value.bool true) [oa, (some (AObj.cells l4 56 560 false true)), (some (AObj.cells l5 56 560 false true)), (some (AObj.cells l6 9 1 true true))]) (K (Value.bool false) [oa, (some (AObj.cells l4 56 560 false true)), (some (AObj.cells l5 56 560 false true)), (some (AObj.cells l6 9 1 true true))]))))) (fun l6 o7 =>
       M.all l5 x ((o7 = o7) ∧
        ((0 = 0) ∧
        (M.same l6 o7 [] 0 (K (Value.bool true) [oa, (some (AObj.cells l4 56 560 false true)), (some (AObj.cells l5 56 560 false true)), (some (AObj.cells l6 9 1 true true))]) (K (Value.bool false) [oa, (some (AObj.cells l4 56 560 false true)), (some (AObj.cells l5 56 560 false true)), (some (AObj.cells l6 9 1 true true))])))) (fun l8 o9 =>
        (o7 = o7) ∧
         ((o9 = o9) ∧
         (M.same l6 o7 l8 o9 (K (Value.bool true) [oa, (some (AObj.cells l4 56 560 false true)), (some (AObj.cells l5 56 560 false true)), (some (AObj.cells l6 9 1 true true)), (some (AObj.cells l8 9 1 true true))]) (K (Value.bool false) [oa, (some (AObj.cells l4 56 560 false true)), (some (AObj.cells l5 56 560 false true)), (some (AObj.cells l6 9 1 true true)), (some (AObj.cells l8 9 1 true true))]))))))))))))) := by kernel_rfl
end
end Go.Proofs.Ytknplaghilagfaa.Po
