/- The functions of ObjSame, to be looked at. -/
import Derived.Test.YtblbaohcelldpaaD10
import Derived.Test.YtblbaohcelldpaaN1
import Derived.KernelRfl
namespace Go.Proofs.Ytblbaohcelldpaa.Ob
open Go Go.Abs
set_option linter.unusedVariables false
noncomputable section
abbrev RK := Value → List (Option AObj) → Prop
abbrev Back := List Value → List (Option AObj) → Prop
abbrev Out := Exit → List Value → List (Option AObj) → Prop
def sy01 (n : Nat) : Bool := match Nat.beq n 100 with
  | true => true
  | false => Nat.beq n 101
def WL : How := ⟨sy01, false, fun _ => none, fun _ => none, fun _ => none⟩
def WO : How := ⟨fun _ => false, true, fun _ => none, fun _ => none, fun _ => none⟩
abbrev LT := Code → Nat → List Value → List (Option AObj) → Prop → Prop → Prop
def sLoopE (L : LT) : Code → Nat → List Value → Heap → (Res → Prop) → Prop := fun c n vals h Q =>
  L c n vals (objsOf 100 h) (Q (.ex (.exit 0) (stOf 100 n [4] ([top], objsOf 100 h)))) (Q (.ex .ret (stOf 100 n [4] ([.bool false], objsOf 100 h))))
def sLoopR (L : LT) : Code → Nat → List Value → Heap → (Res → Prop) → Prop := fun c n vals h Q =>
  L c n vals (objsOf 100 h) (Q (.ex (.exit 0) (stOf 100 n [2, 3, 4] (vals.take 2 ++ [top], objsOf 100 h)))) (Q (.ex .ret (stOf 100 n [2, 3, 4] (vals.take 2 ++ [.bool false], objsOf 100 h))))
abbrev MT := Nat → List Value → List (Option AObj) → (Bool → Prop) → Prop
def sPu (M : MT) (f : Nat) : List Value → Heap → (Value → Prop) → Prop := fun args h K => M f args (objsOf 100 h) fun t => K (.bool t)
def WM (M : MT) : How := ⟨fun _ => false, true, fun _ => none, fun _ => none, lookN [(32, sPu M 32), (33, sPu M 33), (34, sPu M 34), (35, sPu M 35), (36, sPu M 36)]⟩
/-- The slices that were handed in, and those that 'own' made. -/
def sel (l : List (Option AObj)) : List (Option AObj) := l.take 12 ++ [(l.drop 19).headD none, (l.drop 21).headD none, (l.drop 23).headD none, (l.drop 25).headD none, (l.drop 27).headD none]
def sPs (M : MT) (f : Nat) : List Value → Heap → (Value → Prop) → Prop := fun args h K => match Nat.ble 128 h.next with
  | true => M f args (sel (objsOf 100 h)) fun t => K (.bool t)
  | false => False
def sAw : List Value → Heap → (Value → Prop) → Prop := fun args h K => match args with
  | [] => K (.bool true)
  | _ => False
def WS (M : MT) : How := ⟨fun _ => false, true, fun _ => none, fun _ => none, lookN ((6, sAw) :: [8, 9, 10, 11, 12, 13, 14, 15, 16, 17, 18, 19, 20, 21, 22, 23].map fun f => (f, sPs M f))⟩
set_option maxRecDepth 100000
def gLoopEArm (N : Nd) (vs ws : List Value) (ea qa eb qb : Nat) (ka wa kb wb : Bool) (n ca cb : Nat) (i : Int) (back : Back) (out : Out) : Prop :=
  wpe Try.prog N WL 100 (.code false (loopIn Try.prog 32 4) (stOf 100 26 [0, 1, 12, 13] ([(.slice (some ⟨100, 0, none⟩) n ca), (.slice (some ⟨101, 0, none⟩) n cb), .int .i64 n, .int .i64 i], [some (.cells vs ea qa ka wa), some (.cells ws eb qb kb wb)]))) (roundQ 100 [0, 1, 12, 13] [4] 26 back out)
def gEqArm (N : Nd) (L : LT) (vs ws : List Value) (ea qa eb qb : Nat) (ka wa kb wb : Bool) (n ca cb : Nat) (K : RK) : Prop :=
  wpe Try.prog N ⟨sy01, false, fun _ => none, lookN [(4, ([0, 1, 12, 13], sLoopE L))], fun _ => none⟩ 100 (.call 32 [(.slice (some ⟨100, 0, none⟩) n ca), (.slice (some ⟨101, 0, none⟩) n cb)] (hOf 100 [] [some (.cells vs ea qa ka wa), some (.cells ws eb qb kb wb)])) (retQ 100 K)
def gEqoArm (N : Nd) (x y : Value) (oa ob : Option AObj) (K : RK) : Prop :=
  wpe Try.prog N WO 100 (.call 32 [x, y] (hOf 100 [] [oa, ob])) (retQ 100 K)
def gLoopRArm (N : Nd) (vs ws : List Value) (ea qa eb qb : Nat) (ka wa kb wb : Bool) (n ca cb : Nat) (p0 p1 p2 p3 p4 p5 p6 p8 : Int) (q0 q1 q2 q3 q4 q5 q6 q8 : Int) (i : Int) (back : Back) (out : Out) : Prop :=
  wpe Try.prog N WL 200 (.code false (loopIn Try.prog 9 4) (stOf 100 85 [2, 3, 5] ([.pointer (some ⟨102, 0, none⟩), .pointer (some ⟨103, 0, none⟩), .int .i64 i], [some (.cells vs ea qa ka wa), some (.cells ws eb qb kb wb), some (.cells [.int .i64 p0, .int .i64 p1, .int .i64 p2, .int .i64 p3, .int .i64 p4, .int .i64 p5, .int .i64 p6, (.slice (some ⟨100, 0, none⟩) n ca), .int .i64 p8] 27 9 false true), some (.cells [.int .i64 q0, .int .i64 q1, .int .i64 q2, .int .i64 q3, .int .i64 q4, .int .i64 q5, .int .i64 q6, (.slice (some ⟨101, 0, none⟩) n cb), .int .i64 q8] 27 9 false true)]))) (roundQ 100 [2, 3, 5] [2, 3, 4] 85 back out)
def gRefArm (N : Nd) (L : LT) (vs ws : List Value) (ea qa eb qb : Nat) (ka wa kb wb : Bool) (n ca cb : Nat) (p0 p1 p2 p3 p4 p5 p6 p8 : Int) (q0 q1 q2 q3 q4 q5 q6 q8 : Int) (K : RK) : Prop :=
  wpe Try.prog N ⟨sy01, true, fun _ => none, lookN [(4, ([2, 3, 5], sLoopR L))], fun _ => none⟩ 300 (.call 9 [.agg ⟨[.int .i64 p0, .int .i64 p1, .int .i64 p2, .int .i64 p3, .int .i64 p4, .int .i64 p5, .int .i64 p6, (.slice (some ⟨100, 0, none⟩) n ca), .int .i64 p8]⟩, .agg ⟨[.int .i64 q0, .int .i64 q1, .int .i64 q2, .int .i64 q3, .int .i64 q4, .int .i64 q5, .int .i64 q6, (.slice (some ⟨101, 0, none⟩) n cb), .int .i64 q8]⟩] (hOf 100 [] [some (.cells vs ea qa ka wa), some (.cells ws eb qb kb wb)])) (retQ 100 K)
def gRefoArm (N : Nd) (x y : Value) (oa ob : Option AObj) (p0 p1 p2 p3 p4 p5 p6 p8 : Int) (q0 q1 q2 q3 q4 q5 q6 q8 : Int) (K : RK) : Prop :=
  wpe Try.prog N WO 300 (.call 9 [.agg ⟨[.int .i64 p0, .int .i64 p1, .int .i64 p2, .int .i64 p3, .int .i64 p4, .int .i64 p5, .int .i64 p6, x, .int .i64 p8]⟩, .agg ⟨[.int .i64 q0, .int .i64 q1, .int .i64 q2, .int .i64 q3, .int .i64 q4, .int .i64 q5, .int .i64 q6, y, .int .i64 q8]⟩] (hOf 100 [] [oa, ob])) (retQ 100 K)
def gObjArm (N : Nd) (M : MT) (x y : Value) (oa ob : Option AObj) (p0 p1 p2 p3 p4 p5 p6 p8 : Int) (q0 q1 q2 q3 q4 q5 q6 q8 : Int) (K : RK) : Prop :=
  wpe Try.prog N (WM M) 300 (.call 8 [.agg ⟨[.int .i64 p0, .int .i64 p1, .int .i64 p2, .int .i64 p3, .int .i64 p4, .int .i64 p5, .int .i64 p6, x, .int .i64 p8]⟩, .agg ⟨[.int .i64 q0, .int .i64 q1, .int .i64 q2, .int .i64 q3, .int .i64 q4, .int .i64 q5, .int .i64 q6, y, .int .i64 q8]⟩] (hOf 100 [] [oa, ob])) (retQ 100 K)
def gLoopEInt (N : Nd) (vs ws : List Value) (ea qa eb qb : Nat) (ka wa kb wb : Bool) (n ca cb : Nat) (i : Int) (back : Back) (out : Out) : Prop :=
  wpe Try.prog N WL 100 (.code false (loopIn Try.prog 33 4) (stOf 100 26 [0, 1, 12, 13] ([(.slice (some ⟨100, 0, none⟩) n ca), (.slice (some ⟨101, 0, none⟩) n cb), .int .i64 n, .int .i64 i], [some (.cells vs ea qa ka wa), some (.cells ws eb qb kb wb)]))) (roundQ 100 [0, 1, 12, 13] [4] 26 back out)
def gEqInt (N : Nd) (L : LT) (vs ws : List Value) (ea qa eb qb : Nat) (ka wa kb wb : Bool) (n ca cb : Nat) (K : RK) : Prop :=
  wpe Try.prog N ⟨sy01, false, fun _ => none, lookN [(4, ([0, 1, 12, 13], sLoopE L))], fun _ => none⟩ 100 (.call 33 [(.slice (some ⟨100, 0, none⟩) n ca), (.slice (some ⟨101, 0, none⟩) n cb)] (hOf 100 [] [some (.cells vs ea qa ka wa), some (.cells ws eb qb kb wb)])) (retQ 100 K)
def gEqoInt (N : Nd) (x y : Value) (oa ob : Option AObj) (K : RK) : Prop :=
  wpe Try.prog N WO 100 (.call 33 [x, y] (hOf 100 [] [oa, ob])) (retQ 100 K)
def gLoopRInt (N : Nd) (vs ws : List Value) (ea qa eb qb : Nat) (ka wa kb wb : Bool) (n ca cb : Nat) (p0 p1 p3 p4 : Int) (q0 q1 q3 q4 : Int) (i : Int) (back : Back) (out : Out) : Prop :=
  wpe Try.prog N WL 200 (.code false (loopIn Try.prog 13 4) (stOf 100 57 [2, 3, 5] ([.pointer (some ⟨102, 0, none⟩), .pointer (some ⟨103, 0, none⟩), .int .i64 i], [some (.cells vs ea qa ka wa), some (.cells ws eb qb kb wb), some (.cells [.int .i64 p0, .int .u8 p1, (.slice (some ⟨100, 0, none⟩) n ca), .int .i64 p3, .int .i64 p4] 32 5 false true), some (.cells [.int .i64 q0, .int .u8 q1, (.slice (some ⟨101, 0, none⟩) n cb), .int .i64 q3, .int .i64 q4] 32 5 false true)]))) (roundQ 100 [2, 3, 5] [2, 3, 4] 57 back out)
def gRefInt (N : Nd) (L : LT) (vs ws : List Value) (ea qa eb qb : Nat) (ka wa kb wb : Bool) (n ca cb : Nat) (p0 p1 p3 p4 : Int) (q0 q1 q3 q4 : Int) (K : RK) : Prop :=
  wpe Try.prog N ⟨sy01, true, fun _ => none, lookN [(4, ([2, 3, 5], sLoopR L))], fun _ => none⟩ 300 (.call 13 [.agg ⟨[.int .i64 p0, .int .u8 p1, (.slice (some ⟨100, 0, none⟩) n ca), .int .i64 p3, .int .i64 p4]⟩, .agg ⟨[.int .i64 q0, .int .u8 q1, (.slice (some ⟨101, 0, none⟩) n cb), .int .i64 q3, .int .i64 q4]⟩] (hOf 100 [] [some (.cells vs ea qa ka wa), some (.cells ws eb qb kb wb)])) (retQ 100 K)
def gRefoInt (N : Nd) (x y : Value) (oa ob : Option AObj) (p0 p1 p3 p4 : Int) (q0 q1 q3 q4 : Int) (K : RK) : Prop :=
  wpe Try.prog N WO 300 (.call 13 [.agg ⟨[.int .i64 p0, .int .u8 p1, x, .int .i64 p3, .int .i64 p4]⟩, .agg ⟨[.int .i64 q0, .int .u8 q1, y, .int .i64 q3, .int .i64 q4]⟩] (hOf 100 [] [oa, ob])) (retQ 100 K)
def gObjInt (N : Nd) (M : MT) (x y : Value) (oa ob : Option AObj) (p0 p1 p3 p4 : Int) (q0 q1 q3 q4 : Int) (K : RK) : Prop :=
  wpe Try.prog N (WM M) 300 (.call 12 [.agg ⟨[.int .i64 p0, .int .u8 p1, x, .int .i64 p3, .int .i64 p4]⟩, .agg ⟨[.int .i64 q0, .int .u8 q1, y, .int .i64 q3, .int .i64 q4]⟩] (hOf 100 [] [oa, ob])) (retQ 100 K)
def gLoopEU64 (N : Nd) (vs ws : List Value) (ea qa eb qb : Nat) (ka wa kb wb : Bool) (n ca cb : Nat) (i : Int) (back : Back) (out : Out) : Prop :=
  wpe Try.prog N WL 100 (.code false (loopIn Try.prog 34 4) (stOf 100 26 [0, 1, 12, 13] ([(.slice (some ⟨100, 0, none⟩) n ca), (.slice (some ⟨101, 0, none⟩) n cb), .int .i64 n, .int .i64 i], [some (.cells vs ea qa ka wa), some (.cells ws eb qb kb wb)]))) (roundQ 100 [0, 1, 12, 13] [4] 26 back out)
def gEqU64 (N : Nd) (L : LT) (vs ws : List Value) (ea qa eb qb : Nat) (ka wa kb wb : Bool) (n ca cb : Nat) (K : RK) : Prop :=
  wpe Try.prog N ⟨sy01, false, fun _ => none, lookN [(4, ([0, 1, 12, 13], sLoopE L))], fun _ => none⟩ 100 (.call 34 [(.slice (some ⟨100, 0, none⟩) n ca), (.slice (some ⟨101, 0, none⟩) n cb)] (hOf 100 [] [some (.cells vs ea qa ka wa), some (.cells ws eb qb kb wb)])) (retQ 100 K)
def gEqoU64 (N : Nd) (x y : Value) (oa ob : Option AObj) (K : RK) : Prop :=
  wpe Try.prog N WO 100 (.call 34 [x, y] (hOf 100 [] [oa, ob])) (retQ 100 K)
def gLoopRU64 (N : Nd) (vs ws : List Value) (ea qa eb qb : Nat) (ka wa kb wb : Bool) (n ca cb : Nat) (p0 p3 p4 p5 p7 p8 p9 : Int) (p1 p2 : ByteArray) (p10 : Bool) (q0 q3 q4 q5 q7 q8 q9 : Int) (q1 q2 : ByteArray) (q10 : Bool) (i : Int) (back : Back) (out : Out) : Prop :=
  wpe Try.prog N WL 200 (.code false (loopIn Try.prog 15 4) (stOf 100 99 [2, 3, 5] ([.pointer (some ⟨102, 0, none⟩), .pointer (some ⟨103, 0, none⟩), .int .i64 i], [some (.cells vs ea qa ka wa), some (.cells ws eb qb kb wb), some (.cells [.int .i64 p0, .string p1, .string p2, .int .i64 p3, .int .i64 p4, .int .i64 p5, (.slice (some ⟨100, 0, none⟩) n ca), .int .i64 p7, .int .i64 p8, .int .u64 p9, .bool p10] 34 11 false true), some (.cells [.int .i64 q0, .string q1, .string q2, .int .i64 q3, .int .i64 q4, .int .i64 q5, (.slice (some ⟨101, 0, none⟩) n cb), .int .i64 q7, .int .i64 q8, .int .u64 q9, .bool q10] 34 11 false true)]))) (roundQ 100 [2, 3, 5] [2, 3, 4] 99 back out)
def gRefU64 (N : Nd) (L : LT) (vs ws : List Value) (ea qa eb qb : Nat) (ka wa kb wb : Bool) (n ca cb : Nat) (p0 p3 p4 p5 p7 p8 p9 : Int) (p1 p2 : ByteArray) (p10 : Bool) (q0 q3 q4 q5 q7 q8 q9 : Int) (q1 q2 : ByteArray) (q10 : Bool) (K : RK) : Prop :=
  wpe Try.prog N ⟨sy01, true, fun _ => none, lookN [(4, ([2, 3, 5], sLoopR L))], fun _ => none⟩ 300 (.call 15 [.agg ⟨[.int .i64 p0, .string p1, .string p2, .int .i64 p3, .int .i64 p4, .int .i64 p5, (.slice (some ⟨100, 0, none⟩) n ca), .int .i64 p7, .int .i64 p8, .int .u64 p9, .bool p10]⟩, .agg ⟨[.int .i64 q0, .string q1, .string q2, .int .i64 q3, .int .i64 q4, .int .i64 q5, (.slice (some ⟨101, 0, none⟩) n cb), .int .i64 q7, .int .i64 q8, .int .u64 q9, .bool q10]⟩] (hOf 100 [] [some (.cells vs ea qa ka wa), some (.cells ws eb qb kb wb)])) (retQ 100 K)
def gRefoU64 (N : Nd) (x y : Value) (oa ob : Option AObj) (p0 p3 p4 p5 p7 p8 p9 : Int) (p1 p2 : ByteArray) (p10 : Bool) (q0 q3 q4 q5 q7 q8 q9 : Int) (q1 q2 : ByteArray) (q10 : Bool) (K : RK) : Prop :=
  wpe Try.prog N WO 300 (.call 15 [.agg ⟨[.int .i64 p0, .string p1, .string p2, .int .i64 p3, .int .i64 p4, .int .i64 p5, x, .int .i64 p7, .int .i64 p8, .int .u64 p9, .bool p10]⟩, .agg ⟨[.int .i64 q0, .string q1, .string q2, .int .i64 q3, .int .i64 q4, .int .i64 q5, y, .int .i64 q7, .int .i64 q8, .int .u64 q9, .bool q10]⟩] (hOf 100 [] [oa, ob])) (retQ 100 K)
def gObjU64 (N : Nd) (M : MT) (x y : Value) (oa ob : Option AObj) (p0 p3 p4 p5 p7 p8 p9 : Int) (p1 p2 : ByteArray) (p10 : Bool) (q0 q3 q4 q5 q7 q8 q9 : Int) (q1 q2 : ByteArray) (q10 : Bool) (K : RK) : Prop :=
  wpe Try.prog N (WM M) 300 (.call 14 [.agg ⟨[.int .i64 p0, .string p1, .string p2, .int .i64 p3, .int .i64 p4, .int .i64 p5, x, .int .i64 p7, .int .i64 p8, .int .u64 p9, .bool p10]⟩, .agg ⟨[.int .i64 q0, .string q1, .string q2, .int .i64 q3, .int .i64 q4, .int .i64 q5, y, .int .i64 q7, .int .i64 q8, .int .u64 q9, .bool q10]⟩] (hOf 100 [] [oa, ob])) (retQ 100 K)
def gLoopEIns (N : Nd) (vs ws : List Value) (ea qa eb qb : Nat) (ka wa kb wb : Bool) (n ca cb : Nat) (i : Int) (back : Back) (out : Out) : Prop :=
  wpe Try.prog N WL 100 (.code false (loopIn Try.prog 35 4) (stOf 100 26 [0, 1, 12, 13] ([(.slice (some ⟨100, 0, none⟩) n ca), (.slice (some ⟨101, 0, none⟩) n cb), .int .i64 n, .int .i64 i], [some (.cells vs ea qa ka wa), some (.cells ws eb qb kb wb)]))) (roundQ 100 [0, 1, 12, 13] [4] 26 back out)
def gEqIns (N : Nd) (L : LT) (vs ws : List Value) (ea qa eb qb : Nat) (ka wa kb wb : Bool) (n ca cb : Nat) (K : RK) : Prop :=
  wpe Try.prog N ⟨sy01, false, fun _ => none, lookN [(4, ([0, 1, 12, 13], sLoopE L))], fun _ => none⟩ 100 (.call 35 [(.slice (some ⟨100, 0, none⟩) n ca), (.slice (some ⟨101, 0, none⟩) n cb)] (hOf 100 [] [some (.cells vs ea qa ka wa), some (.cells ws eb qb kb wb)])) (retQ 100 K)
def gEqoIns (N : Nd) (x y : Value) (oa ob : Option AObj) (K : RK) : Prop :=
  wpe Try.prog N WO 100 (.call 35 [x, y] (hOf 100 [] [oa, ob])) (retQ 100 K)
def gLoopRIns (N : Nd) (vs ws : List Value) (ea qa eb qb : Nat) (ka wa kb wb : Bool) (n ca cb : Nat) (p0 : Int) (q0 : Int) (i : Int) (back : Back) (out : Out) : Prop :=
  wpe Try.prog N WL 200 (.code false (loopIn Try.prog 17 4) (stOf 100 36 [2, 3, 5] ([.pointer (some ⟨102, 0, none⟩), .pointer (some ⟨103, 0, none⟩), .int .i64 i], [some (.cells vs ea qa ka wa), some (.cells ws eb qb kb wb), some (.cells [.int .i64 p0, (.slice (some ⟨100, 0, none⟩) n ca)] 37 2 false true), some (.cells [.int .i64 q0, (.slice (some ⟨101, 0, none⟩) n cb)] 37 2 false true)]))) (roundQ 100 [2, 3, 5] [2, 3, 4] 36 back out)
def gRefIns (N : Nd) (L : LT) (vs ws : List Value) (ea qa eb qb : Nat) (ka wa kb wb : Bool) (n ca cb : Nat) (p0 : Int) (q0 : Int) (K : RK) : Prop :=
  wpe Try.prog N ⟨sy01, true, fun _ => none, lookN [(4, ([2, 3, 5], sLoopR L))], fun _ => none⟩ 300 (.call 17 [.agg ⟨[.int .i64 p0, (.slice (some ⟨100, 0, none⟩) n ca)]⟩, .agg ⟨[.int .i64 q0, (.slice (some ⟨101, 0, none⟩) n cb)]⟩] (hOf 100 [] [some (.cells vs ea qa ka wa), some (.cells ws eb qb kb wb)])) (retQ 100 K)
def gRefoIns (N : Nd) (x y : Value) (oa ob : Option AObj) (p0 : Int) (q0 : Int) (K : RK) : Prop :=
  wpe Try.prog N WO 300 (.call 17 [.agg ⟨[.int .i64 p0, x]⟩, .agg ⟨[.int .i64 q0, y]⟩] (hOf 100 [] [oa, ob])) (retQ 100 K)
def gObjIns (N : Nd) (M : MT) (x y : Value) (oa ob : Option AObj) (p0 : Int) (q0 : Int) (K : RK) : Prop :=
  wpe Try.prog N (WM M) 300 (.call 16 [.agg ⟨[.int .i64 p0, x]⟩, .agg ⟨[.int .i64 q0, y]⟩] (hOf 100 [] [oa, ob])) (retQ 100 K)
def gLoopEBuc (N : Nd) (vs ws : List Value) (ea qa eb qb : Nat) (ka wa kb wb : Bool) (n ca cb : Nat) (i : Int) (back : Back) (out : Out) : Prop :=
  wpe Try.prog N WL 100 (.code false (loopIn Try.prog 36 4) (stOf 100 26 [0, 1, 12, 13] ([(.slice (some ⟨100, 0, none⟩) n ca), (.slice (some ⟨101, 0, none⟩) n cb), .int .i64 n, .int .i64 i], [some (.cells vs ea qa ka wa), some (.cells ws eb qb kb wb)]))) (roundQ 100 [0, 1, 12, 13] [4] 26 back out)
def gEqBuc (N : Nd) (L : LT) (vs ws : List Value) (ea qa eb qb : Nat) (ka wa kb wb : Bool) (n ca cb : Nat) (K : RK) : Prop :=
  wpe Try.prog N ⟨sy01, false, fun _ => none, lookN [(4, ([0, 1, 12, 13], sLoopE L))], fun _ => none⟩ 100 (.call 36 [(.slice (some ⟨100, 0, none⟩) n ca), (.slice (some ⟨101, 0, none⟩) n cb)] (hOf 100 [] [some (.cells vs ea qa ka wa), some (.cells ws eb qb kb wb)])) (retQ 100 K)
def gEqoBuc (N : Nd) (x y : Value) (oa ob : Option AObj) (K : RK) : Prop :=
  wpe Try.prog N WO 100 (.call 36 [x, y] (hOf 100 [] [oa, ob])) (retQ 100 K)
def gLoopRBuc (N : Nd) (vs ws : List Value) (ea qa eb qb : Nat) (ka wa kb wb : Bool) (n ca cb : Nat) (p0 p1 p2 : Int) (q0 q1 q2 : Int) (i : Int) (back : Back) (out : Out) : Prop :=
  wpe Try.prog N WL 200 (.code false (loopIn Try.prog 19 4) (stOf 100 50 [2, 3, 5] ([.pointer (some ⟨102, 0, none⟩), .pointer (some ⟨103, 0, none⟩), .int .i64 i], [some (.cells vs ea qa ka wa), some (.cells ws eb qb kb wb), some (.cells [.int .i64 p0, .int .u8 p1, .int .i64 p2, (.slice (some ⟨100, 0, none⟩) n ca)] 40 4 false true), some (.cells [.int .i64 q0, .int .u8 q1, .int .i64 q2, (.slice (some ⟨101, 0, none⟩) n cb)] 40 4 false true)]))) (roundQ 100 [2, 3, 5] [2, 3, 4] 50 back out)
def gRefBuc (N : Nd) (L : LT) (vs ws : List Value) (ea qa eb qb : Nat) (ka wa kb wb : Bool) (n ca cb : Nat) (p0 p1 p2 : Int) (q0 q1 q2 : Int) (K : RK) : Prop :=
  wpe Try.prog N ⟨sy01, true, fun _ => none, lookN [(4, ([2, 3, 5], sLoopR L))], fun _ => none⟩ 300 (.call 19 [.agg ⟨[.int .i64 p0, .int .u8 p1, .int .i64 p2, (.slice (some ⟨100, 0, none⟩) n ca)]⟩, .agg ⟨[.int .i64 q0, .int .u8 q1, .int .i64 q2, (.slice (some ⟨101, 0, none⟩) n cb)]⟩] (hOf 100 [] [some (.cells vs ea qa ka wa), some (.cells ws eb qb kb wb)])) (retQ 100 K)
def gRefoBuc (N : Nd) (x y : Value) (oa ob : Option AObj) (p0 p1 p2 : Int) (q0 q1 q2 : Int) (K : RK) : Prop :=
  wpe Try.prog N WO 300 (.call 19 [.agg ⟨[.int .i64 p0, .int .u8 p1, .int .i64 p2, x]⟩, .agg ⟨[.int .i64 q0, .int .u8 q1, .int .i64 q2, y]⟩] (hOf 100 [] [oa, ob])) (retQ 100 K)
def gObjBuc (N : Nd) (M : MT) (x y : Value) (oa ob : Option AObj) (p0 p1 p2 : Int) (q0 q1 q2 : Int) (K : RK) : Prop :=
  wpe Try.prog N (WM M) 300 (.call 18 [.agg ⟨[.int .i64 p0, .int .u8 p1, .int .i64 p2, x]⟩, .agg ⟨[.int .i64 q0, .int .u8 q1, .int .i64 q2, y]⟩] (hOf 100 [] [oa, ob])) (retQ 100 K)
def gFl10 (N : Nd) (p0 p1 p2 p3 p4 q0 q1 q2 q3 q4 : Int) (K : RK) : Prop :=
  wpe Try.prog N WO 60 (.call 10 [.agg ⟨[.int .i64 p0, .int .u8 p1, .int .i64 p2, .int .i64 p3, .int .i64 p4]⟩, .agg ⟨[.int .i64 q0, .int .u8 q1, .int .i64 q2, .int .i64 q3, .int .i64 q4]⟩] (hOf 100 [] [])) (retQ 100 K)
def gFl11 (N : Nd) (p0 p1 p2 p3 p4 q0 q1 q2 q3 q4 : Int) (K : RK) : Prop :=
  wpe Try.prog N WO 60 (.call 11 [.agg ⟨[.int .i64 p0, .int .u8 p1, .int .i64 p2, .int .i64 p3, .int .i64 p4]⟩, .agg ⟨[.int .i64 q0, .int .u8 q1, .int .i64 q2, .int .i64 q3, .int .i64 q4]⟩] (hOf 100 [] [])) (retQ 100 K)
def gFl20 (N : Nd) (p0 p1 p2 q0 q1 q2 : Int) (K : RK) : Prop :=
  wpe Try.prog N WO 60 (.call 20 [.agg ⟨[.int .i64 p0, .int .i64 p1, .int .i64 p2]⟩, .agg ⟨[.int .i64 q0, .int .i64 q1, .int .i64 q2]⟩] (hOf 100 [] [])) (retQ 100 K)
def gFl21 (N : Nd) (p0 p1 p2 q0 q1 q2 : Int) (K : RK) : Prop :=
  wpe Try.prog N WO 60 (.call 21 [.agg ⟨[.int .i64 p0, .int .i64 p1, .int .i64 p2]⟩, .agg ⟨[.int .i64 q0, .int .i64 q1, .int .i64 q2]⟩] (hOf 100 [] [])) (retQ 100 K)
def gFl22 (N : Nd) (p0 p1 q0 q1 : Int) (K : RK) : Prop :=
  wpe Try.prog N WO 60 (.call 22 [.agg ⟨[.int .i64 p0, .int .i64 p1]⟩, .agg ⟨[.int .i64 q0, .int .i64 q1]⟩] (hOf 100 [] [])) (retQ 100 K)
def gFl23 (N : Nd) (p0 p1 q0 q1 : Int) (K : RK) : Prop :=
  wpe Try.prog N WO 60 (.call 23 [.agg ⟨[.int .i64 p0, .int .i64 p1]⟩, .agg ⟨[.int .i64 q0, .int .i64 q1]⟩] (hOf 100 [] [])) (retQ 100 K)
def gSame (N : Nd) (M : MT) (wo : Option Addr) (wn wc : Nat) (px18 px27 px36 px42 px46 qx10 qx18 qx27 qx36 qx42 qx46 : Value) (op10 op18 op27 op36 op42 op46 oq10 oq18 oq27 oq36 oq42 oq46 : Option AObj) (p0 p1 p2 p3 p4 p5 p6 p7 p8 p11 p12 p13 p14 p15 p16 p17 p19 p20 p21 p22 p23 p24 p25 p26 p28 p29 p30 p33 p34 p35 p37 p38 p39 p41 p43 p44 p45 p47 p48 p49 p50 p51 : Int) (p9 p31 p32 : ByteArray) (p40 : Bool) (q0 q1 q2 q3 q4 q5 q6 q7 q8 q11 q12 q13 q14 q15 q16 q17 q19 q20 q21 q22 q23 q24 q25 q26 q28 q29 q30 q33 q34 q35 q37 q38 q39 q41 q43 q44 q45 q47 q48 q49 q50 q51 : Int) (q9 q31 q32 : ByteArray) (q40 : Bool) (K : Value → Prop) : Prop :=
  wpe Try.prog N (WS M) 3000 (.call 3 [.agg ⟨[.int .u8 p0, .int .u32 p1, .int .i64 p2, .int .i64 p3, .int .i64 p4, .int .i64 p5, .int .i64 p6, .int .u64 p7, .int .u64 p8, .string p9, .slice wo wn wc, .int .i64 p11, .int .i64 p12, .int .i64 p13, .int .i64 p14, .int .i64 p15, .int .i64 p16, .int .i64 p17, px18, .int .i64 p19, .int .i64 p20, .int .u8 p21, .int .i64 p22, .int .i64 p23, .int .i64 p24, .int .i64 p25, .int .u8 p26, px27, .int .i64 p28, .int .i64 p29, .int .i64 p30, .string p31, .string p32, .int .i64 p33, .int .i64 p34, .int .i64 p35, px36, .int .i64 p37, .int .i64 p38, .int .u64 p39, .bool p40, .int .i64 p41, px42, .int .i64 p43, .int .u8 p44, .int .i64 p45, px46, .int .i64 p47, .int .i64 p48, .int .i64 p49, .int .i64 p50, .int .i64 p51]⟩, .agg ⟨[.int .u8 q0, .int .u32 q1, .int .i64 q2, .int .i64 q3, .int .i64 q4, .int .i64 q5, .int .i64 q6, .int .u64 q7, .int .u64 q8, .string q9, qx10, .int .i64 q11, .int .i64 q12, .int .i64 q13, .int .i64 q14, .int .i64 q15, .int .i64 q16, .int .i64 q17, qx18, .int .i64 q19, .int .i64 q20, .int .u8 q21, .int .i64 q22, .int .i64 q23, .int .i64 q24, .int .i64 q25, .int .u8 q26, qx27, .int .i64 q28, .int .i64 q29, .int .i64 q30, .string q31, .string q32, .int .i64 q33, .int .i64 q34, .int .i64 q35, qx36, .int .i64 q37, .int .i64 q38, .int .u64 q39, .bool q40, .int .i64 q41, qx42, .int .i64 q43, .int .u8 q44, .int .i64 q45, qx46, .int .i64 q47, .int .i64 q48, .int .i64 q49, .int .i64 q50, .int .i64 q51]⟩] (hOf 100 [] [op10, op18, op27, op36, op42, op46, oq10, oq18, oq27, oq36, oq42, oq46])) (retQ 100 fun v _ => K v)
end
end Go.Proofs.Ytblbaohcelldpaa.Ob
