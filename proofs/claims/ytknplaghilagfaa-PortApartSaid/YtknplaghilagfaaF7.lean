/- PortApart, to be looked at. -/
import Derived.Test.YtknplaghilagfaaF5
import Derived.KernelRfl
namespace Go.Proofs.Ytknplaghilagfaa.Po
open Go Go.Abs
set_option linter.unusedVariables false
noncomputable section
def p103 : Value := .pointer (some ⟨103, 0, none⟩)
def p104 : Value := .pointer (some ⟨104, 0, none⟩)
def p105 : Value := .pointer (some ⟨105, 0, none⟩)
abbrev LX := Code → Nat → List Value → List (Option AObj) → (List (List Value) → Prop) → Prop
-- the loop that steps p, again
def gA5 (N : Nd) (M : PN) (av : List Value) (n c : Nat) (sm : Value) (ob : Option AObj) (va vb : List Value) (i : Int) (back : Back) (out : Out) : Prop :=
  wpe Try.prog N (WD M) 300 (.code false (loopIn Try.prog 7 5) (stOf 100 83 [0, 1, 5, 6, 7] ([asl n c, sm, p102, p103, i64 i], [some (acs av), ob, some (pob va), some (pob vb)]))) (roundQ 100 [0, 1, 5, 6, 7] [1, 5, 6] 83 back out)
def gA50 (N : Nd) (M : PN) (sm : Value) (oa ob : Option AObj) (va vb : List Value) (back : Back) (out : Out) : Prop :=
  wpe Try.prog N (WR M) 300 (.code false (loopIn Try.prog 7 5) (stOf 100 83 [0, 1, 5, 6, 7] ([.slice none 0 0, sm, p102, p103, i64 0], [oa, ob, some (pob va), some (pob vb)]))) (roundQ 100 [0, 1, 5, 6, 7] [1, 5, 6] 83 back out)
def gA5Z (N : Nd) (M : PN) (sp : Option Nat) (sm : Value) (oa ob : Option AObj) (va vb : List Value) (back : Back) (out : Out) : Prop :=
  wpe Try.prog N (WR M) 300 (.code false (loopIn Try.prog 7 5) (stOf 100 83 [0, 1, 5, 6, 7] ([.slice (some ⟨100, 0, sp⟩) 0 0, sm, p102, p103, i64 0], [oa, ob, some (pob va), some (pob vb)]))) (roundQ 100 [0, 1, 5, 6, 7] [1, 5, 6] 83 back out)
def sLoopA5 (L : Code → Nat → List Value → Option AObj → Option AObj → List Value → List Value → (List Value → List Value → Prop) → Prop) : Code → Nat → List Value → Heap → (Res → Prop) → Prop := fun c n vals h Q =>
  match objsOf 100 h with
  | [oa, ob, some (.cells va 56 560 false true), some (.cells vb 56 560 false true)] => L c n vals oa ob va vb fun va' vb' => Q (.ex (.exit 0) (stOf 100 n [1, 5, 6] ((vals.drop 1).take 3, [oa, ob, some (pob va'), some (pob vb')])))
  | _ => False
-- the loop that steps the copy
def bsl (n c : Nat) : Value := .slice (some ⟨101, 0, none⟩) n c
def WB (M : PN) : How := ⟨fun n => Nat.beq n 101, false, lookN (knRest M), fun _ => none⟩
def gA11 (N : Nd) (M : PN) (oa : Option AObj) (av : List Value) (n c : Nat) (va vb vc : List Value) (i : Int) (back : Back) (out : Out) : Prop :=
  wpe Try.prog N (WB M) 300 (.code false (loopIn Try.prog 7 11) (stOf 100 83 [1, 5, 6, 8, 9] ([bsl n c, p102, p103, p104, i64 i], [oa, some (acs av), some (pob va), some (pob vb), some (pob vc)]))) (roundQ 100 [1, 5, 6, 8, 9] [1, 5, 6, 8] 83 back out)
def gA110 (N : Nd) (M : PN) (oa ob : Option AObj) (va vb vc : List Value) (back : Back) (out : Out) : Prop :=
  wpe Try.prog N (WR M) 300 (.code false (loopIn Try.prog 7 11) (stOf 100 83 [1, 5, 6, 8, 9] ([.slice none 0 0, p102, p103, p104, i64 0], [oa, ob, some (pob va), some (pob vb), some (pob vc)]))) (roundQ 100 [1, 5, 6, 8, 9] [1, 5, 6, 8] 83 back out)
def gA11Z (N : Nd) (M : PN) (sp : Option Nat) (oa ob : Option AObj) (va vb vc : List Value) (back : Back) (out : Out) : Prop :=
  wpe Try.prog N (WR M) 300 (.code false (loopIn Try.prog 7 11) (stOf 100 83 [1, 5, 6, 8, 9] ([.slice (some ⟨101, 0, sp⟩) 0 0, p102, p103, p104, i64 0], [oa, ob, some (pob va), some (pob vb), some (pob vc)]))) (roundQ 100 [1, 5, 6, 8, 9] [1, 5, 6, 8] 83 back out)
def sLoopA11 (L : Code → Nat → List Value → Option AObj → Option AObj → List Value → List Value → List Value → (List Value → Prop) → Prop) : Code → Nat → List Value → Heap → (Res → Prop) → Prop := fun c n vals h Q =>
  match objsOf 100 h with
  | [oa, ob, some (.cells va 56 560 false true), some (.cells vb 56 560 false true), some (.cells vc 56 560 false true)] => L c n vals oa ob va vb vc fun vc' => Q (.ex (.exit 2) (stOf 100 n [1, 5, 6, 8] (vals.take 4, [oa, ob, some (pob va), some (pob vb), some (pob vc')])))
  | _ => False
-- the loop that steps p by the further acts
def gA18 (N : Nd) (M : PN) (oa : Option AObj) (av : List Value) (n c : Nat) (va vb vc vd : List Value) (i : Int) (back : Back) (out : Out) : Prop :=
  wpe Try.prog N (WB M) 300 (.code false (loopIn Try.prog 7 18) (stOf 100 83 [1, 5, 8, 10, 11] ([bsl n c, p102, p104, p105, i64 i], [oa, some (acs av), some (pob va), some (pob vb), some (pob vc), some (pob vd)]))) (roundQ 100 [1, 5, 8, 10, 11] [5, 8, 10] 83 back out)
def gA180 (N : Nd) (M : PN) (oa ob : Option AObj) (va vb vc vd : List Value) (back : Back) (out : Out) : Prop :=
  wpe Try.prog N (WR M) 300 (.code false (loopIn Try.prog 7 18) (stOf 100 83 [1, 5, 8, 10, 11] ([.slice none 0 0, p102, p104, p105, i64 0], [oa, ob, some (pob va), some (pob vb), some (pob vc), some (pob vd)]))) (roundQ 100 [1, 5, 8, 10, 11] [5, 8, 10] 83 back out)
def gA18Z (N : Nd) (M : PN) (sp : Option Nat) (oa ob : Option AObj) (va vb vc vd : List Value) (back : Back) (out : Out) : Prop :=
  wpe Try.prog N (WR M) 300 (.code false (loopIn Try.prog 7 18) (stOf 100 83 [1, 5, 8, 10, 11] ([.slice (some ⟨101, 0, sp⟩) 0 0, p102, p104, p105, i64 0], [oa, ob, some (pob va), some (pob vb), some (pob vc), some (pob vd)]))) (roundQ 100 [1, 5, 8, 10, 11] [5, 8, 10] 83 back out)
def sLoopA18 (L : Code → Nat → List Value → Option AObj → Option AObj → List Value → List Value → List Value → List Value → (List Value → Prop) → Prop) : Code → Nat → List Value → Heap → (Res → Prop) → Prop := fun c n vals h Q =>
  match objsOf 100 h with
  | [oa, ob, some (.cells va 56 560 false true), some (.cells vb 56 560 false true), some (.cells vc 56 560 false true), some (.cells vd 56 560 false true)] => L c n vals oa ob va vb vc vd fun va' =>
      Q (.ex (.exit 4) (stOf 100 n [5, 8, 10] ((vals.drop 1).take 3, [oa, ob, some (pob va'), some (pob vb), some (pob vc), some (pob vd)])))
  | _ => False
def gApart (N : Nd) (M : PN) (LV : Value → List (Option AObj) → Prop → Prop → Prop) (E : List Value → List Value → Prop → Prop → Prop)
    (L5 : Code → Nat → List Value → Option AObj → Option AObj → List Value → List Value → (List Value → List Value → Prop) → Prop)
    (L11 : Code → Nat → List Value → Option AObj → Option AObj → List Value → List Value → List Value → (List Value → Prop) → Prop)
    (L18 : Code → Nat → List Value → Option AObj → Option AObj → List Value → List Value → List Value → List Value → (List Value → Prop) → Prop) (sl sm : Value) (oa ob : Option AObj) (K : RK) : Prop :=
  wpe Try.prog N ⟨fun _ => false, false, lookN ((22, sEqp E) :: knV LV M), lookN [(5, ([0, 1, 5, 6, 7], sLoopA5 L5)), (11, ([1, 5, 6, 8, 9], sLoopA11 L11)), (18, ([1, 5, 8, 10, 11], sLoopA18 L18))]⟩ 600 (.call 7 [sl, sm] (hOf 100 [] [oa, ob])) (retQ 100 K)
set_option maxRecDepth 100000
theorem gA5_eq (N : Go.Abs.Nd) (M : Go.Proofs.Ytknplaghilagfaa.Po.PN) (av : List Go.Value) (n : Nat) (c : Nat) (sm : Go.Value) (ob : Option Go.Abs.AObj) (va : List Go.Value) (vb : List Go.Value) (i : Int) (back : Go.Proofs.Ytknplaghilagfaa.Po.Back) (out : Go.Proofs.Ytknplaghilagfaa.Po.Out) : gA5 N M av n c sm ob va vb i back out =
  (N.cmp BinOp.lss IntKind.i64 i IntKind.i64 (Int.ofNat n) (N.idx n 0 4 i (fun o0 =>
   N.rdI IntKind.u8 av o0 (fun z1 =>
    N.rdI IntKind.i64 av (o0 + 1) (fun z2 =>
     N.rdI IntKind.u8 av (o0 + 2) (fun z3 =>
      N.rdS av (o0 + 3) (fun s4 =>
       M.step va z1 z2 z3 s4 (fun l5 =>
        N.idx n 0 4 i (fun o6 =>
         N.rdI IntKind.u8 av o6 (fun z7 =>
          N.rdI IntKind.i64 av (o6 + 1) (fun z8 =>
           N.rdI IntKind.u8 av (o6 + 2) (fun z9 =>
            N.rdS av (o6 + 3) (fun s10 =>
             M.step vb z7 z8 z9 s10 (fun l11 =>
              N.ari BinOp.add IntKind.i64 i IntKind.i64 (1 : Int) (fun z12 =>
               back [(Value.slice (some (Addr.mk 100 0 none)) n c), sm, (Value.pointer (some (Addr.mk 102 0 none))), (Value.pointer (some (Addr.mk 103 0 none))), (Value.int IntKind.i64 z12)] [(some (AObj.cells av 29 4 true false)), ob, (some (AObj.cells l5 56 560 false true)), (some (AObj.cells l11 56 560 false true))])))))))))))))) (out (Exit.exit 0) [sm, (Value.pointer (some (Addr.mk 102 0 none))), (Value.pointer (some (Addr.mk 103 0 none)))] [(some (AObj.cells av 29 4 true false)), ob, (some (AObj.cells va 56 560 false true)), (some (AObj.cells vb 56 560 false true))])) := by kernel_rfl
theorem gA50_eq (N : Go.Abs.Nd) (M : Go.Proofs.Ytknplaghilagfaa.Po.PN) (sm : Go.Value) (oa : Option Go.Abs.AObj) (ob : Option Go.Abs.AObj) (va : List Go.Value) (vb : List Go.Value) (back : Go.Proofs.Ytknplaghilagfaa.Po.Back) (out : Go.Proofs.Ytknplaghilagfaa.Po.Out) : gA50 N M sm oa ob va vb back out =
  (N.cmp BinOp.lss IntKind.i64 (0 : Int) IntKind.i64 (0 : Int) (False) (out (Exit.exit 0) [sm, (Value.pointer (some (Addr.mk 102 0 none))), (Value.pointer (some (Addr.mk 103 0 none)))] [oa, ob, (some (AObj.cells va 56 560 false true)), (some (AObj.cells vb 56 560 false true))])) := by kernel_rfl
theorem gA5Z_eq (N : Go.Abs.Nd) (M : Go.Proofs.Ytknplaghilagfaa.Po.PN) (sp : Option Nat) (sm : Go.Value) (oa : Option Go.Abs.AObj) (ob : Option Go.Abs.AObj) (va : List Go.Value) (vb : List Go.Value) (back : Go.Proofs.Ytknplaghilagfaa.Po.Back) (out : Go.Proofs.Ytknplaghilagfaa.Po.Out) : gA5Z N M sp sm oa ob va vb back out =
  (N.cmp BinOp.lss IntKind.i64 (0 : Int) IntKind.i64 (0 : Int) (False) (out (Exit.exit 0) [sm, (Value.pointer (some (Addr.mk 102 0 none))), (Value.pointer (some (Addr.mk 103 0 none)))] [oa, ob, (some (AObj.cells va 56 560 false true)), (some (AObj.cells vb 56 560 false true))])) := by kernel_rfl
theorem gA11_eq (N : Go.Abs.Nd) (M : Go.Proofs.Ytknplaghilagfaa.Po.PN) (oa : Option Go.Abs.AObj) (av : List Go.Value) (n : Nat) (c : Nat) (va : List Go.Value) (vb : List Go.Value) (vc : List Go.Value) (i : Int) (back : Go.Proofs.Ytknplaghilagfaa.Po.Back) (out : Go.Proofs.Ytknplaghilagfaa.Po.Out) : gA11 N M oa av n c va vb vc i back out =
  (N.cmp BinOp.lss IntKind.i64 i IntKind.i64 (Int.ofNat n) (N.idx n 0 4 i (fun o0 =>
   N.rdI IntKind.u8 av o0 (fun z1 =>
    N.rdI IntKind.i64 av (o0 + 1) (fun z2 =>
     N.rdI IntKind.u8 av (o0 + 2) (fun z3 =>
      N.rdS av (o0 + 3) (fun s4 =>
       M.step vc z1 z2 z3 s4 (fun l5 =>
        N.ari BinOp.add IntKind.i64 i IntKind.i64 (1 : Int) (fun z6 =>
         back [(Value.slice (some (Addr.mk 101 0 none)) n c), (Value.pointer (some (Addr.mk 102 0 none))), (Value.pointer (some (Addr.mk 103 0 none))), (Value.pointer (some (Addr.mk 104 0 none))), (Value.int IntKind.i64 z6)] [oa, (some (AObj.cells av 29 4 true false)), (some (AObj.cells va 56 560 false true)), (some (AObj.cells vb 56 560 false true)), (some (AObj.cells l5 56 560 false true))])))))))) (out (Exit.exit 2) [(Value.slice (some (Addr.mk 101 0 none)) n c), (Value.pointer (some (Addr.mk 102 0 none))), (Value.pointer (some (Addr.mk 103 0 none))), (Value.pointer (some (Addr.mk 104 0 none)))] [oa, (some (AObj.cells av 29 4 true false)), (some (AObj.cells va 56 560 false true)), (some (AObj.cells vb 56 560 false true)), (some (AObj.cells vc 56 560 false true))])) := by kernel_rfl
theorem gA110_eq (N : Go.Abs.Nd) (M : Go.Proofs.Ytknplaghilagfaa.Po.PN) (oa : Option Go.Abs.AObj) (ob : Option Go.Abs.AObj) (va : List Go.Value) (vb : List Go.Value) (vc : List Go.Value) (back : Go.Proofs.Ytknplaghilagfaa.Po.Back) (out : Go.Proofs.Ytknplaghilagfaa.Po.Out) : gA110 N M oa ob va vb vc back out =
  (N.cmp BinOp.lss IntKind.i64 (0 : Int) IntKind.i64 (0 : Int) (False) (out (Exit.exit 2) [(Value.slice none 0 0), (Value.pointer (some (Addr.mk 102 0 none))), (Value.pointer (some (Addr.mk 103 0 none))), (Value.pointer (some (Addr.mk 104 0 none)))] [oa, ob, (some (AObj.cells va 56 560 false true)), (some (AObj.cells vb 56 560 false true)), (some (AObj.cells vc 56 560 false true))])) := by kernel_rfl
theorem gA11Z_eq (N : Go.Abs.Nd) (M : Go.Proofs.Ytknplaghilagfaa.Po.PN) (sp : Option Nat) (oa : Option Go.Abs.AObj) (ob : Option Go.Abs.AObj) (va : List Go.Value) (vb : List Go.Value) (vc : List Go.Value) (back : Go.Proofs.Ytknplaghilagfaa.Po.Back) (out : Go.Proofs.Ytknplaghilagfaa.Po.Out) : gA11Z N M sp oa ob va vb vc back out =
  (N.cmp BinOp.lss IntKind.i64 (0 : Int) IntKind.i64 (0 : Int) (False) (out (Exit.exit 2) [(Value.slice (some (Addr.mk 101 0 sp)) 0 0), (Value.pointer (some (Addr.mk 102 0 none))), (Value.pointer (some (Addr.mk 103 0 none))), (Value.pointer (some (Addr.mk 104 0 none)))] [oa, ob, (some (AObj.cells va 56 560 false true)), (some (AObj.cells vb 56 560 false true)), (some (AObj.cells vc 56 560 false true))])) := by kernel_rfl
theorem gA18_eq (N : Go.Abs.Nd) (M : Go.Proofs.Ytknplaghilagfaa.Po.PN) (oa : Option Go.Abs.AObj) (av : List Go.Value) (n : Nat) (c : Nat) (va : List Go.Value) (vb : List Go.Value) (vc : List Go.Value) (vd : List Go.Value) (i : Int) (back : Go.Proofs.Ytknplaghilagfaa.Po.Back) (out : Go.Proofs.Ytknplaghilagfaa.Po.Out) : gA18 N M oa av n c va vb vc vd i back out =
  (N.cmp BinOp.lss IntKind.i64 i IntKind.i64 (Int.ofNat n) (N.idx n 0 4 i (fun o0 =>
   N.rdI IntKind.u8 av o0 (fun z1 =>
    N.rdI IntKind.i64 av (o0 + 1) (fun z2 =>
     N.rdI IntKind.u8 av (o0 + 2) (fun z3 =>
      N.rdS av (o0 + 3) (fun s4 =>
       M.step va z1 z2 z3 s4 (fun l5 =>
        N.ari BinOp.add IntKind.i64 i IntKind.i64 (1 : Int) (fun z6 =>
         back [(Value.slice (some (Addr.mk 101 0 none)) n c), (Value.pointer (some (Addr.mk 102 0 none))), (Value.pointer (some (Addr.mk 104 0 none))), (Value.pointer (some (Addr.mk 105 0 none))), (Value.int IntKind.i64 z6)] [oa, (some (AObj.cells av 29 4 true false)), (some (AObj.cells l5 56 560 false true)), (some (AObj.cells vb 56 560 false true)), (some (AObj.cells vc 56 560 false true)), (some (AObj.cells vd 56 560 false true))])))))))) (out (Exit.exit 4) [(Value.pointer (some (Addr.mk 102 0 none))), (Value.pointer (some (Addr.mk 104 0 none))), (Value.pointer (some (Addr.mk 105 0 none)))] [oa, (some (AObj.cells av 29 4 true false)), (some (AObj.cells va 56 560 false true)), (some (AObj.cells vb 56 560 false true)), (some (AObj.cells vc 56 560 false true)), (some (AObj.cells vd 56 560 false true))])) := by kernel_rfl
theorem gA180_eq (N : Go.Abs.Nd) (M : Go.Proofs.Ytknplaghilagfaa.Po.PN) (oa : Option Go.Abs.AObj) (ob : Option Go.Abs.AObj) (va : List Go.Value) (vb : List Go.Value) (vc : List Go.Value) (vd : List Go.Value) (back : Go.Proofs.Ytknplaghilagfaa.Po.Back) (out : Go.Proofs.Ytknplaghilagfaa.Po.Out) : gA180 N M oa ob va vb vc vd back out =
  (N.cmp BinOp.lss IntKind.i64 (0 : Int) IntKind.i64 (0 : Int) (False) (out (Exit.exit 4) [(Value.pointer (some (Addr.mk 102 0 none))), (Value.pointer (some (Addr.mk 104 0 none))), (Value.pointer (some (Addr.mk 105 0 none)))] [oa, ob, (some (AObj.cells va 56 560 false true)), (some (AObj.cells vb 56 560 false true)), (some (AObj.cells vc 56 560 false true)), (some (AObj.cells vd 56 560 false true))])) := by kernel_rfl
theorem gA18Z_eq (N : Go.Abs.Nd) (M : Go.Proofs.Ytknplaghilagfaa.Po.PN) (sp : Option Nat) (oa : Option Go.Abs.AObj) (ob : Option Go.Abs.AObj) (va : List Go.Value) (vb : List Go.Value) (vc : List Go.Value) (vd : List Go.Value) (back : Go.Proofs.Ytknplaghilagfaa.Po.Back) (out : Go.Proofs.Ytknplaghilagfaa.Po.Out) : gA18Z N M sp oa ob va vb vc vd back out =
  (N.cmp BinOp.lss IntKind.i64 (0 : Int) IntKind.i64 (0 : Int) (False) (out (Exit.exit 4) [(Value.pointer (some (Addr.mk 102 0 none))), (Value.pointer (some (Addr.mk 104 0 none))), (Value.pointer (some (Addr.mk 105 0 none)))] [oa, ob, (some (AObj.cells va 56 560 false true)), (some (AObj.cells vb 56 560 false true)), (some (AObj.cells vc 56 560 false true)), (some (AObj.cells vd 56 560 false true))])) := by kernel_rfl
theorem gApart_eq (N : Go.Abs.Nd) (M : Go.Proofs.Ytknplaghilagfaa.Po.PN) (LV : Go.Value → List (Option Go.Abs.AObj) → Prop → Prop → Prop) (E : List Go.Value → List Go.Value → Prop → Prop → Prop) (L5 : Go.Code →
  Nat →
    List Go.Value →
      Option Go.Abs.AObj →
        Option Go.Abs.AObj → List Go.Value → List Go.Value → (List Go.Value → List Go.Value → Prop) → Prop) (L11 : Go.Code →
  Nat →
    List Go.Value →
      Option Go.Abs.AObj →
        Option Go.Abs.AObj → List Go.Value → List Go.Value → List Go.Value → (List Go.Value → Prop) → Prop) (L18 : Go.Code →
  Nat →
    List Go.Value →
      Option Go.Abs.AObj →
        Option Go.Abs.AObj →
          List Go.Value → List Go.Value → List Go.Value → List Go.Value → (List Go.Value → Prop) → Prop) (sl : Go.Value) (sm : Go.Value) (oa : Option Go.Abs.AObj) (ob : Option Go.Abs.AObj) (K : Go.Proofs.Ytknplaghilagfaa.Po.RK) : gApart N M LV E L5 L11 L18 sl sm oa ob K =
  (LV sl [oa, ob] (K (Value.bool true) [oa, ob]) (LV sm [oa, ob] (K (Value.bool true) [oa, ob]) (M.new (fun l0 =>
   M.new (fun l1 =>
    L5 (loopIn Try.prog 7 5) 83 [sl, sm, (Value.pointer (some (Addr.mk 102 0 none))), (Value.pointer (some (Addr.mk 103 0 none))), (Value.int IntKind.i64 (0 : Int))] oa ob l0 l1 (fun l2 l3 =>
     M.copy l2 (fun l4 =>
      L11 (loopIn Try.prog 7 11) 83 [sm, (Value.pointer (some (Addr.mk 102 0 none))), (Value.pointer (some (Addr.mk 103 0 none))), (Value.pointer (some (Addr.mk 104 0 none))), (Value.int IntKind.i64 (0 : Int))] oa ob l2 l3 l4 (fun l5 =>
       E l2 l3 (M.copy l5 (fun l6 =>
        L18 (loopIn Try.prog 7 18) 83 [sm, (Value.pointer (some (Addr.mk 102 0 none))), (Value.pointer (some (Addr.mk 104 0 none))), (Value.pointer (some (Addr.mk 105 0 none))), (Value.int IntKind.i64 (0 : Int))] oa ob l2 l3 l5 l6 (fun l7 =>
         E l5 l6 (E l7 l5 (K (Value.bool true) [oa, ob, (some (AObj.cells l7 56 560 false true)), (some (AObj.cells l3 56 560 false true)), (some (AObj.cells l5 56 560 false true)), (some (AObj.cells l6 56 560 false true))]) (K (Value.bool false) [oa, ob, (some (AObj.cells l7 56 560 false true)), (some (AObj.cells l3 56 560 false true)), (some (AObj.cells l5 56 560 false true)), (some (AObj.cells l6 56 560 false true))])) (K (Value.bool false) [oa, ob, (some (AObj.cells l7 56 560 false true)), (some (AObj.cells l3 56 560 false true)), (some (AObj.cells l5 56 560 false true)), (some (AObj.cells l6 56 560 false true))])))) (K (Value.bool false) [oa, ob, (some (AObj.cells l2 56 560 false true)), (some (AObj.cells l3 56 560 false true)), (some (AObj.cells l5 56 560 false true))]))))))))) := by kernel_rfl
end
end Go.Proofs.Ytknplaghilagfaa.Po
