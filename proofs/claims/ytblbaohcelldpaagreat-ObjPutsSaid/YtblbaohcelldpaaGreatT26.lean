/- Objects in new memory: what the code comes to. -/
import Derived.Test.YtblbaohcelldpaaGreatT25
namespace Go.Abs
open Go
noncomputable section
section
variable {G : Nat}
theorem VRL.at {F : Nm} : ∀ {l l' : List Value}, VRL F l l' → ∀ (i : Nat) v, l[i]? = some v → ∃ v', l'[i]? = some v' ∧ VR F v v'
  | [], l', h, i, v, hi => by simp at hi
  | a :: l, l', h, i, v, hi => by
    simp only [VRL] at h
    obtain ⟨b, r, h1, h2, e⟩ := h
    subst e
    cases i with
    | zero => simp only [List.getElem?_cons_zero, Option.some.injEq] at hi; subst hi; exact ⟨b, rfl, h1⟩
    | succ i => simpa using VRL.at h2 i v (by simpa using hi)
theorem VRL.of_at {F : Nm} : ∀ {l l' : List Value}, l'.length = l.length → (∀ (i : Nat) v v', l[i]? = some v → l'[i]? = some v' → VR F v v') → VRL F l l'
  | [], l', hl, _ => by
    have : l' = [] := List.eq_nil_of_length_eq_zero hl
    subst this; simp only [VRL]
  | a :: l, [], hl, _ => by simp at hl
  | a :: l, b :: l', hl, h => by
    simp only [VRL]
    exact ⟨b, l', h 0 a b rfl rfl, VRL.of_at (by simpa using hl) (fun i v v' h1 h2 => h (i + 1) v v' (by simpa using h1) (by simpa using h2)), rfl⟩
theorem wk_agg {n0 : Nat} {cs cs' : List Value} {objs objs' : List (Option AObj)} (h : Wk G n0 cs objs cs' objs') : Wk G n0 [.agg ⟨cs⟩] objs [.agg ⟨cs'⟩] objs' := by
  refine ⟨rfl, fun B F w R => ?_⟩
  obtain ⟨F', h1, h2, h3⟩ := h.2 B F w R
  refine ⟨F', h1, h2, fun i v v' x e1 e2 hx => ?_⟩
  cases i with
  | succ i => simp at e1
  | zero =>
    simp only [List.getElem?_cons_zero, Option.some.injEq] at e1 e2
    subst e1; subst e2
    obtain ⟨xs, rfl, hl⟩ := hx.aggL
    refine VR.ofAggL (VRL.of_at (by rw [hl.length, h.1]) fun i v v' g1 g2 => ?_)
    have hlt : i < cs.length := by rw [← h.1]; exact (List.getElem?_eq_some_iff.1 g1).1
    obtain ⟨y, k1, k2⟩ := hl.at i cs[i] (List.getElem?_eq_getElem hlt)
    rw [g2] at k1; simp only [Option.some.injEq] at k1; subst k1
    exact h3 i _ v _ (List.getElem?_eq_getElem hlt) g1 k2
theorem wk_set_frz {n0 : Nat} (j i : Nat) {vals : List Value} {objs : List (Option AObj)} {rows vs : List Value} {n e size : Nat} {lo : Bool} (hj : vals[j]? = some (.slice (some ⟨G + i, 0, none⟩) n n)) (ho : objs[i]? = some (some (.cells vs e size lo true))) (hf : flatRows size rows = some vs) (hb : belowL 0 vs = true) (hs : 0 < size) (hn : n = rows.length) :
    Wk G n0 vals objs (vals.set j (.iface mkD (.agg ⟨rows⟩))) (objs.set i none) := by
  subst hn
  refine wk_freeze ho hf hb hs (by simp) (fun k v v' h1 h2 => ?_)
  by_cases e : k = j
  · subst e
    rw [hj] at h1; simp only [Option.some.injEq] at h1; subst h1
    rw [List.getElem?_set_self (List.getElem?_eq_some_iff.1 hj).1] at h2
    simp only [Option.some.injEq] at h2; subst h2
    exact .inr ⟨rfl, rows.length, Nat.le_refl _, .inl rfl⟩
  · rw [List.getElem?_set_ne (fun h => e h.symm), h1] at h2
    simp only [Option.some.injEq] at h2
    exact .inl h2.symm
theorem weak_set : ∀ {l : List Value} (j : Nat) {v v' : Value}, l[j]? = some v → Weak v v' → WeakL l (l.set j v')
  | [], j, v, v', h, _ => by simp at h
  | a :: l, 0, v, v', h, hw => by simp only [List.getElem?_cons_zero, Option.some.injEq] at h; subst h; exact .cons hw (WeakL.refl _)
  | a :: l, j + 1, v, v', h, hw => .cons (.refl _) (weak_set j (by simpa using h) hw)
theorem wk_set_nil {n0 : Nat} (j : Nat) {vals : List Value} {objs : List (Option AObj)} {rows : List Value} {a : Addr} {c : Nat} (hj : vals[j]? = some (.slice (some a) 0 c)) (hr : rows = []) : Wk G n0 vals objs (vals.set j (.iface mkD (.agg ⟨rows⟩))) objs := by
  subst hr
  exact wk_weak (weak_set j hj .emptyD) (WeakOs.refl _)
end
end
end Go.Abs
namespace Go.Tlv
open Go Go.Abs
structure OMsg where
  a0 : Nat
  a1 : Nat
  a2 : Int
  a3 : Int
  a4 : Int
  a5 : Int
  a6 : Int
  a7 : Nat
  a8 : Nat
  a9 : ByteArray
  a10 : List Nat
  n : ONode
  f : OField
  t : OTable
  e : OEntry
  b : OBlock
  g : OGroup
  m : OMeter
  r : ORegs
def vMsg (x : OMsg) : Value := .agg ⟨[.int .u8 (x.a0 : Int), .int .u32 (x.a1 : Int), .int .i64 x.a2, .int .i64 x.a3, .int .i64 x.a4, .int .i64 x.a5, .int .i64 x.a6, .int .u64 (x.a7 : Int), .int .u64 (x.a8 : Int), .string x.a9, dsl (rowsOf cNat x.a10), .int .i64 x.n.id, .int .i64 x.n.size, .int .i64 x.n.lo, .int .i64 x.n.lw, .int .i64 x.n.lu, .int .i64 x.n.so, .int .i64 x.n.sw, dsl (rowsOf cArm x.n.arms), .int .i64 x.n.ot, .int .i64 x.f.id, .int .u8 (x.f.base : Int), .int .i64 x.f.node, .int .i64 x.f.off, .int .i64 x.f.wid, .int .i64 x.t.id, .int .u8 (x.t.kind : Int), dsl (rowsOf cInt x.t.keys), .int .i64 x.t.cap, .int .i64 x.t.miss, .int .i64 x.e.tab, .string x.e.key, .string x.e.oth, .int .i64 x.e.len, .int .i64 x.e.prio, .int .i64 x.e.blk, dsl (rowsOf cNat x.e.args), .int .i64 x.e.idle, .int .i64 x.e.hard, .int .u64 (x.e.cook : Int), .bool x.e.tell, .int .i64 x.b.id, dsl (rowsOf cInstr x.b.code), .int .i64 x.g.id, .int .u8 (x.g.kind : Int), .int .i64 x.g.fld, dsl (rowsOf cBucket x.g.bks), .int .i64 x.m.id, .int .i64 x.m.rate, .int .i64 x.m.burst, .int .i64 x.r.id, .int .i64 x.r.size]⟩
def okNode (x : ONode) : Prop := fitNode x ∧ wfNode x ∧ x.arms.length < 1000
def okField (x : OField) : Prop := fitField x ∧ wfField x ∧ True
def okTable (x : OTable) : Prop := fitTable x ∧ wfTable x ∧ x.keys.length < 1000
def okEntry (x : OEntry) : Prop := fitEntry x ∧ wfEntry x ∧ x.args.length < 1000
def okBlock (x : OBlock) : Prop := fitBlock x ∧ wfBlock x ∧ x.code.length < 1000
def okGroup (x : OGroup) : Prop := fitGroup x ∧ wfGroup x ∧ x.bks.length < 1000
def okMeter (x : OMeter) : Prop := fitMeter x ∧ wfMeter x ∧ True
def okRegs (x : ORegs) : Prop := fitRegs x ∧ wfRegs x ∧ True
def okMsg (x : OMsg) : Prop := okNode x.n ∧ okField x.f ∧ okTable x.t ∧ okEntry x.e ∧ okBlock x.b ∧ okGroup x.g ∧ okMeter x.m ∧ okRegs x.r
theorem flat_of {α : Type} {c : α → List Value} {n : Nat} (hc : ∀ x, (c x).length = n) (l : List α) : flatRows n (rowsOf c l) = some (l.flatMap c) := by
  induction l with
  | nil => rfl
  | cons a l ih =>
    show flatRows n (.agg ⟨c a⟩ :: rowsOf c l) = _
    simp only [flatRows, ih, hc a, Nat.beq_refl, List.flatMap_cons]
theorem below_of {α : Type} {c : α → List Value} (hc : ∀ x m, belowL 0 m = true → belowL 0 (c x ++ m) = true) (l : List α) : belowL 0 (l.flatMap c) = true := by
  induction l with
  | nil => rfl
  | cons a l ih => rw [List.flatMap_cons]; exact hc a _ ih
theorem cell_of {α : Type} {c : α → List Value} (hc : ∀ x, (c x).all isCell = true) (l : List α) : (l.flatMap c).all isCell = true := by
  induction l with
  | nil => rfl
  | cons a l ih => rw [List.flatMap_cons, List.all_append, ih, hc a]; rfl
end Go.Tlv
namespace Go.Proofs.YtblbaohcelldpaaGreat.Ob
open Go Go.Abs Go.Tlv
set_option linter.unusedVariables false
set_option maxRecDepth 100000
noncomputable section
theorem flL0 (l : List Arm) : flatRows 2 (rowsOf cArm l) = some (l.flatMap cArm) := flat_of (c := cArm) (n := 2) (fun _ => rfl) l
theorem beL0 (l : List Arm) : belowL 0 (l.flatMap cArm) = true := below_of (c := cArm) (fun _ _ h => h) l
theorem ceL0 (l : List Arm) : (l.flatMap cArm).all isCell = true := cell_of (c := cArm) (fun _ => rfl) l
theorem flL1 (l : List Int) : flatRows 1 (rowsOf cInt l) = some (l.flatMap cInt) := flat_of (c := cInt) (n := 1) (fun _ => rfl) l
theorem beL1 (l : List Int) : belowL 0 (l.flatMap cInt) = true := below_of (c := cInt) (fun _ _ h => h) l
theorem ceL1 (l : List Int) : (l.flatMap cInt).all isCell = true := cell_of (c := cInt) (fun _ => rfl) l
theorem flL2 (l : List Nat) : flatRows 1 (rowsOf cNat l) = some (l.flatMap cNat) := flat_of (c := cNat) (n := 1) (fun _ => rfl) l
theorem beL2 (l : List Nat) : belowL 0 (l.flatMap cNat) = true := below_of (c := cNat) (fun _ _ h => h) l
theorem ceL2 (l : List Nat) : (l.flatMap cNat).all isCell = true := cell_of (c := cNat) (fun _ => rfl) l
theorem flL3 (l : List Instr) : flatRows 7 (rowsOf cInstr l) = some (l.flatMap cInstr) := flat_of (c := cInstr) (n := 7) (fun _ => rfl) l
theorem beL3 (l : List Instr) : belowL 0 (l.flatMap cInstr) = true := below_of (c := cInstr) (fun _ _ h => h) l
theorem ceL3 (l : List Instr) : (l.flatMap cInstr).all isCell = true := cell_of (c := cInstr) (fun _ => rfl) l
theorem flL4 (l : List Bucket) : flatRows 2 (rowsOf cBucket l) = some (l.flatMap cBucket) := flat_of (c := cBucket) (n := 2) (fun _ => rfl) l
theorem beL4 (l : List Bucket) : belowL 0 (l.flatMap cBucket) = true := below_of (c := cBucket) (fun _ _ h => h) l
theorem ceL4 (l : List Bucket) : (l.flatMap cBucket).all isCell = true := cell_of (c := cBucket) (fun _ => rfl) l
theorem fz0 (i : Nat) {vals : List Value} {objs : List (Option AObj)} {l : List Arm} {e : Nat} {lo : Bool} (hj : vals[18]? = some (.slice (some ⟨100 + i, 0, none⟩) (0 + (rowsOf cArm l).length) (0 + (rowsOf cArm l).length))) (ho : objs[i]? = some (some (.cells (l.flatMap cArm) e 2 lo true))) :
    Wk 100 100 vals objs (vals.set 18 (.iface mkD (.agg ⟨rowsOf cArm l⟩))) (objs.set i none) := wk_set_frz 18 i hj ho (flL0 l) (beL0 l) (by omega) (Nat.zero_add _)
theorem ap0 {l : List Arm} {by_ : Nat} {X : Prop} {K : List Value → Nat → Prop} (hl : l.length ≤ 400) (hb : by_ ≤ 100) (h0 : rowsOf cArm l = [] → X) (h1 : K ([] ++ l.flatMap cArm) (0 + (rowsOf cArm l).length)) : (real Tryz.prog).appD 0 [] (rowsOf cArm l) 2 by_ X K :=
  ⟨_, flL0 l, ceL0 l, h0, fun _ => ⟨Nat.le_trans (Nat.mul_le_mul_left _ hb) (by rw [rowsOf_len, tops_eq]; omega), by rw [rowsOf_len]; omega, h1⟩⟩
theorem fz1 (i : Nat) {vals : List Value} {objs : List (Option AObj)} {l : List Int} {e : Nat} {lo : Bool} (hj : vals[27]? = some (.slice (some ⟨100 + i, 0, none⟩) (0 + (rowsOf cInt l).length) (0 + (rowsOf cInt l).length))) (ho : objs[i]? = some (some (.cells (l.flatMap cInt) e 1 lo true))) :
    Wk 100 100 vals objs (vals.set 27 (.iface mkD (.agg ⟨rowsOf cInt l⟩))) (objs.set i none) := wk_set_frz 27 i hj ho (flL1 l) (beL1 l) (by omega) (Nat.zero_add _)
theorem ap1 {l : List Int} {by_ : Nat} {X : Prop} {K : List Value → Nat → Prop} (hl : l.length ≤ 400) (hb : by_ ≤ 100) (h0 : rowsOf cInt l = [] → X) (h1 : K ([] ++ l.flatMap cInt) (0 + (rowsOf cInt l).length)) : (real Tryz.prog).appD 0 [] (rowsOf cInt l) 1 by_ X K :=
  ⟨_, flL1 l, ceL1 l, h0, fun _ => ⟨Nat.le_trans (Nat.mul_le_mul_left _ hb) (by rw [rowsOf_len, tops_eq]; omega), by rw [rowsOf_len]; omega, h1⟩⟩
theorem fz2 (i : Nat) {vals : List Value} {objs : List (Option AObj)} {l : List Nat} {e : Nat} {lo : Bool} (hj : vals[36]? = some (.slice (some ⟨100 + i, 0, none⟩) (0 + (rowsOf cNat l).length) (0 + (rowsOf cNat l).length))) (ho : objs[i]? = some (some (.cells (l.flatMap cNat) e 1 lo true))) :
    Wk 100 100 vals objs (vals.set 36 (.iface mkD (.agg ⟨rowsOf cNat l⟩))) (objs.set i none) := wk_set_frz 36 i hj ho (flL2 l) (beL2 l) (by omega) (Nat.zero_add _)
theorem ap2 {l : List Nat} {by_ : Nat} {X : Prop} {K : List Value → Nat → Prop} (hl : l.length ≤ 400) (hb : by_ ≤ 100) (h0 : rowsOf cNat l = [] → X) (h1 : K ([] ++ l.flatMap cNat) (0 + (rowsOf cNat l).length)) : (real Tryz.prog).appD 0 [] (rowsOf cNat l) 1 by_ X K :=
  ⟨_, flL2 l, ceL2 l, h0, fun _ => ⟨Nat.le_trans (Nat.mul_le_mul_left _ hb) (by rw [rowsOf_len, tops_eq]; omega), by rw [rowsOf_len]; omega, h1⟩⟩
theorem fz3 (i : Nat) {vals : List Value} {objs : List (Option AObj)} {l : List Instr} {e : Nat} {lo : Bool} (hj : vals[42]? = some (.slice (some ⟨100 + i, 0, none⟩) (0 + (rowsOf cInstr l).length) (0 + (rowsOf cInstr l).length))) (ho : objs[i]? = some (some (.cells (l.flatMap cInstr) e 7 lo true))) :
    Wk 100 100 vals objs (vals.set 42 (.iface mkD (.agg ⟨rowsOf cInstr l⟩))) (objs.set i none) := wk_set_frz 42 i hj ho (flL3 l) (beL3 l) (by omega) (Nat.zero_add _)
theorem ap3 {l : List Instr} {by_ : Nat} {X : Prop} {K : List Value → Nat → Prop} (hl : l.length ≤ 400) (hb : by_ ≤ 100) (h0 : rowsOf cInstr l = [] → X) (h1 : K ([] ++ l.flatMap cInstr) (0 + (rowsOf cInstr l).length)) : (real Tryz.prog).appD 0 [] (rowsOf cInstr l) 7 by_ X K :=
  ⟨_, flL3 l, ceL3 l, h0, fun _ => ⟨Nat.le_trans (Nat.mul_le_mul_left _ hb) (by rw [rowsOf_len, tops_eq]; omega), by rw [rowsOf_len]; omega, h1⟩⟩
theorem fz4 (i : Nat) {vals : List Value} {objs : List (Option AObj)} {l : List Bucket} {e : Nat} {lo : Bool} (hj : vals[46]? = some (.slice (some ⟨100 + i, 0, none⟩) (0 + (rowsOf cBucket l).length) (0 + (rowsOf cBucket l).length))) (ho : objs[i]? = some (some (.cells (l.flatMap cBucket) e 2 lo true))) :
    Wk 100 100 vals objs (vals.set 46 (.iface mkD (.agg ⟨rowsOf cBucket l⟩))) (objs.set i none) := wk_set_frz 46 i hj ho (flL4 l) (beL4 l) (by omega) (Nat.zero_add _)
theorem ap4 {l : List Bucket} {by_ : Nat} {X : Prop} {K : List Value → Nat → Prop} (hl : l.length ≤ 400) (hb : by_ ≤ 100) (h0 : rowsOf cBucket l = [] → X) (h1 : K ([] ++ l.flatMap cBucket) (0 + (rowsOf cBucket l).length)) : (real Tryz.prog).appD 0 [] (rowsOf cBucket l) 2 by_ X K :=
  ⟨_, flL4 l, ceL4 l, h0, fun _ => ⟨Nat.le_trans (Nat.mul_le_mul_left _ hb) (by rw [rowsOf_len, tops_eq]; omega), by rw [rowsOf_len]; omega, h1⟩⟩
theorem ownC (x : OMsg) (h1 : x.n.arms.length ≤ 400) (h2 : x.t.keys.length ≤ 400) (h3 : x.e.args.length ≤ 400) (h4 : x.b.code.length ≤ 400) (h5 : x.g.bks.length ≤ 400) : Is (gOwn (real Tryz.prog) (x.a0 : Int) (x.a1 : Int) x.a2 x.a3 x.a4 x.a5 x.a6 (x.a7 : Int) (x.a8 : Int) x.a9 (rowsOf cNat x.a10) x.n.id x.n.size x.n.lo x.n.lw x.n.lu x.n.so x.n.sw (rowsOf cArm x.n.arms) x.n.ot x.f.id (x.f.base : Int) x.f.node x.f.off x.f.wid x.t.id (x.t.kind : Int) (rowsOf cInt x.t.keys) x.t.cap x.t.miss x.e.tab x.e.key x.e.oth x.e.len x.e.prio x.e.blk (rowsOf cNat x.e.args) x.e.idle x.e.hard (x.e.cook : Int) x.e.tell x.b.id (rowsOf cInstr x.b.code) x.g.id (x.g.kind : Int) x.g.fld (rowsOf cBucket x.g.bks) x.m.id x.m.rate x.m.burst x.r.id x.r.size (PQ (vMsg x))) := by
  refine ⟨?_⟩
  rw [gOwn_eq]
  exact ap0 h1 (by omega) (fun e0 => ap1 h2 (by omega) (fun e1 => ap2 h3 (by omega) (fun e2 => ap3 h4 (by omega) (fun e3 => ap4 h5 (by omega) (fun e4 => (wk_agg ((wk_set_nil 18 rfl e0).trans ((wk_set_nil 27 rfl e1).trans ((wk_set_nil 36 rfl e2).trans ((wk_set_nil 42 rfl e3).trans (wk_set_nil 46 rfl e4)))))).trans (wk_pure rfl)) ((wk_agg ((wk_set_nil 18 rfl e0).trans ((wk_set_nil 27 rfl e1).trans ((wk_set_nil 36 rfl e2).trans ((wk_set_nil 42 rfl e3).trans (fz4 7 rfl rfl)))))).trans (wk_pure rfl))) (ap4 h5 (by omega) (fun e4 => (wk_agg ((wk_set_nil 18 rfl e0).trans ((wk_set_nil 27 rfl e1).trans ((wk_set_nil 36 rfl e2).trans ((fz3 6 rfl rfl).trans (wk_set_nil 46 rfl e4)))))).trans (wk_pure rfl)) ((wk_agg ((wk_set_nil 18 rfl e0).trans ((wk_set_nil 27 rfl e1).trans ((wk_set_nil 36 rfl e2).trans ((fz3 6 rfl rfl).trans (fz4 8 rfl rfl)))))).trans (wk_pure rfl)))) (ap3 h4 (by omega) (fun e3 => ap4 h5 (by omega) (fun e4 => (wk_agg ((wk_set_nil 18 rfl e0).trans ((wk_set_nil 27 rfl e1).trans ((fz2 5 rfl rfl).trans ((wk_set_nil 42 rfl e3).trans (wk_set_nil 46 rfl e4)))))).trans (wk_pure rfl)) ((wk_agg ((wk_set_nil 18 rfl e0).trans ((wk_set_nil 27 rfl e1).trans ((fz2 5 rfl rfl).trans ((wk_set_nil 42 rfl e3).trans (fz4 8 rfl rfl)))))).trans (wk_pure rfl))) (ap4 h5 (by omega) (fun e4 => (wk_agg ((wk_set_nil 18 rfl e0).trans ((wk_set_nil 27 rfl e1).trans ((fz2 5 rfl rfl).trans ((fz3 7 rfl rfl).trans (wk_set_nil 46 rfl e4)))))).trans (wk_pure rfl)) ((wk_agg ((wk_set_nil 18 rfl e0).trans ((wk_set_nil 27 rfl e1).trans ((fz2 5 rfl rfl).trans ((fz3 7 rfl rfl).trans (fz4 9 rfl rfl)))))).trans (wk_pure rfl))))) (ap2 h3 (by omega) (fun e2 => ap3 h4 (by omega) (fun e3 => ap4 h5 (by omega) (fun e4 => (wk_agg ((wk_set_nil 18 rfl e0).trans ((fz1 4 rfl rfl).trans ((wk_set_nil 36 rfl e2).trans ((wk_set_nil 42 rfl e3).trans (wk_set_nil 46 rfl e4)))))).trans (wk_pure rfl)) ((wk_agg ((wk_set_nil 18 rfl e0).trans ((fz1 4 rfl rfl).trans ((wk_set_nil 36 rfl e2).trans ((wk_set_nil 42 rfl e3).trans (fz4 8 rfl rfl)))))).trans (wk_pure rfl))) (ap4 h5 (by omega) (fun e4 => (wk_agg ((wk_set_nil 18 rfl e0).trans ((fz1 4 rfl rfl).trans ((wk_set_nil 36 rfl e2).trans ((fz3 7 rfl rfl).trans (wk_set_nil 46 rfl e4)))))).trans (wk_pure rfl)) ((wk_agg ((wk_set_nil 18 rfl e0).trans ((fz1 4 rfl rfl).trans ((wk_set_nil 36 rfl e2).trans ((fz3 7 rfl rfl).trans (fz4 9 rfl rfl)))))).trans (wk_pure rfl)))) (ap3 h4 (by omega) (fun e3 => ap4 h5 (by omega) (fun e4 => (wk_agg ((wk_set_nil 18 rfl e0).trans ((fz1 4 rfl rfl).trans ((fz2 6 rfl rfl).trans ((wk_set_nil 42 rfl e3).trans (wk_set_nil 46 rfl e4)))))).trans (wk_pure rfl)) ((wk_agg ((wk_set_nil 18 rfl e0).trans ((fz1 4 rfl rfl).trans ((fz2 6 rfl rfl).trans ((wk_set_nil 42 rfl e3).trans (fz4 9 rfl rfl)))))).trans (wk_pure rfl))) (ap4 h5 (by omega) (fun e4 => (wk_agg ((wk_set_nil 18 rfl e0).trans ((fz1 4 rfl rfl).trans ((fz2 6 rfl rfl).trans ((fz3 8 rfl rfl).trans (wk_set_nil 46 rfl e4)))))).trans (wk_pure rfl)) ((wk_agg ((wk_set_nil 18 rfl e0).trans ((fz1 4 rfl rfl).trans ((fz2 6 rfl rfl).trans ((fz3 8 rfl rfl).trans (fz4 10 rfl rfl)))))).trans (wk_pure rfl)))))) (ap1 h2 (by omega) (fun e1 => ap2 h3 (by omega) (fun e2 => ap3 h4 (by omega) (fun e3 => ap4 h5 (by omega) (fun e4 => (wk_agg ((fz0 3 rfl rfl).trans ((wk_set_nil 27 rfl e1).trans ((wk_set_nil 36 rfl e2).trans ((wk_set_nil 42 rfl e3).trans (wk_set_nil 46 rfl e4)))))).trans (wk_pure rfl)) ((wk_agg ((fz0 3 rfl rfl).trans ((wk_set_nil 27 rfl e1).trans ((wk_set_nil 36 rfl e2).trans ((wk_set_nil 42 rfl e3).trans (fz4 8 rfl rfl)))))).trans (wk_pure rfl))) (ap4 h5 (by omega) (fun e4 => (wk_agg ((fz0 3 rfl rfl).trans ((wk_set_nil 27 rfl e1).trans ((wk_set_nil 36 rfl e2).trans ((fz3 7 rfl rfl).trans (wk_set_nil 46 rfl e4)))))).trans (wk_pure rfl)) ((wk_agg ((fz0 3 rfl rfl).trans ((wk_set_nil 27 rfl e1).trans ((wk_set_nil 36 rfl e2).trans ((fz3 7 rfl rfl).trans (fz4 9 rfl rfl)))))).trans (wk_pure rfl)))) (ap3 h4 (by omega) (fun e3 => ap4 h5 (by omega) (fun e4 => (wk_agg ((fz0 3 rfl rfl).trans ((wk_set_nil 27 rfl e1).trans ((fz2 6 rfl rfl).trans ((wk_set_nil 42 rfl e3).trans (wk_set_nil 46 rfl e4)))))).trans (wk_pure rfl)) ((wk_agg ((fz0 3 rfl rfl).trans ((wk_set_nil 27 rfl e1).trans ((fz2 6 rfl rfl).trans ((wk_set_nil 42 rfl e3).trans (fz4 9 rfl rfl)))))).trans (wk_pure rfl))) (ap4 h5 (by omega) (fun e4 => (wk_agg ((fz0 3 rfl rfl).trans ((wk_set_nil 27 rfl e1).trans ((fz2 6 rfl rfl).trans ((fz3 8 rfl rfl).trans (wk_set_nil 46 rfl e4)))))).trans (wk_pure rfl)) ((wk_agg ((fz0 3 rfl rfl).trans ((wk_set_nil 27 rfl e1).trans ((fz2 6 rfl rfl).trans ((fz3 8 rfl rfl).trans (fz4 10 rfl rfl)))))).trans (wk_pure rfl))))) (ap2 h3 (by omega) (fun e2 => ap3 h4 (by omega) (fun e3 => ap4 h5 (by omega) (fun e4 => (wk_agg ((fz0 3 rfl rfl).trans ((fz1 5 rfl rfl).trans ((wk_set_nil 36 rfl e2).trans ((wk_set_nil 42 rfl e3).trans (wk_set_nil 46 rfl e4)))))).trans (wk_pure rfl)) ((wk_agg ((fz0 3 rfl rfl).trans ((fz1 5 rfl rfl).trans ((wk_set_nil 36 rfl e2).trans ((wk_set_nil 42 rfl e3).trans (fz4 9 rfl rfl)))))).trans (wk_pure rfl))) (ap4 h5 (by omega) (fun e4 => (wk_agg ((fz0 3 rfl rfl).trans ((fz1 5 rfl rfl).trans ((wk_set_nil 36 rfl e2).trans ((fz3 8 rfl rfl).trans (wk_set_nil 46 rfl e4)))))).trans (wk_pure rfl)) ((wk_agg ((fz0 3 rfl rfl).trans ((fz1 5 rfl rfl).trans ((wk_set_nil 36 rfl e2).trans ((fz3 8 rfl rfl).trans (fz4 10 rfl rfl)))))).trans (wk_pure rfl)))) (ap3 h4 (by omega) (fun e3 => ap4 h5 (by omega) (fun e4 => (wk_agg ((fz0 3 rfl rfl).trans ((fz1 5 rfl rfl).trans ((fz2 7 rfl rfl).trans ((wk_set_nil 42 rfl e3).trans (wk_set_nil 46 rfl e4)))))).trans (wk_pure rfl)) ((wk_agg ((fz0 3 rfl rfl).trans ((fz1 5 rfl rfl).trans ((fz2 7 rfl rfl).trans ((wk_set_nil 42 rfl e3).trans (fz4 10 rfl rfl)))))).trans (wk_pure rfl))) (ap4 h5 (by omega) (fun e4 => (wk_agg ((fz0 3 rfl rfl).trans ((fz1 5 rfl rfl).trans ((fz2 7 rfl rfl).trans ((fz3 9 rfl rfl).trans (wk_set_nil 46 rfl e4)))))).trans (wk_pure rfl)) ((wk_agg ((fz0 3 rfl rfl).trans ((fz1 5 rfl rfl).trans ((fz2 7 rfl rfl).trans ((fz3 9 rfl rfl).trans (fz4 11 rfl rfl)))))).trans (wk_pure rfl))))))
end
end Go.Proofs.YtblbaohcelldpaaGreat.Ob
/- The law ObjPuts: what the code comes to. -/
namespace Go.Tlv
open Go Go.Abs
def putS (may : Bool) (l : List At) : ByteArray := match may with
  | true => bytesOf (encS l)
  | false => bytesOf []
def putE (may : Bool) : Int := match may with
  | true => 0
  | false => 3
theorem putV_eq (may : Bool) (l : List At) : putV may l = .tuple ⟨[.string (putS may l), .int .i64 (putE may)]⟩ := by cases may <;> rfl
def mayJ (x : OMsg) : Nat → Bool
  | 0 => mayNode x.n
  | 1 => mayField x.f
  | 2 => mayTable x.t
  | 3 => mayEntry x.e
  | 4 => mayBlock x.b
  | 5 => mayGroup x.g
  | 6 => mayMeter x.m
  | _ => mayRegs x.r
def attsJ (x : OMsg) : Nat → List At
  | 0 => attsNode x.n
  | 1 => attsField x.f
  | 2 => attsTable x.t
  | 3 => attsEntry x.e
  | 4 => attsBlock x.b
  | 5 => attsGroup x.g
  | 6 => attsMeter x.m
  | _ => attsRegs x.r
def tupJ (x : OMsg) (j : Nat) : Value := .tuple ⟨[.bool (mayJ x j), .string (putS (mayJ x j) (attsJ x j)), .int .i64 (putE (mayJ x j))]⟩
end Go.Tlv
namespace Go.Proofs.YtblbaohcelldpaaGreat.Ob
open Go Go.Abs Go.Tlv
set_option linter.unusedVariables false
set_option maxRecDepth 100000
noncomputable section
theorem awake_ran : retTrue (ev Tryz.prog (fun _ => none) 10000 (.call 9 [] (hOf 100 [] []))) = true := by kernel_rfl
theorem awakeH (B : Base) (H : Heap) : CallH Tryz.prog 100 B 9 [] H (.returned (.bool true)) H := by
  refine pure_lift (fun B => ?_) rfl rfl B H
  have h := awake_ran
  unfold retTrue at h
  split at h
  · rename_i u h' he
    have h1 : CallH Tryz.prog 100 B 9 [] (hOf 100 [] []) (.returned (.bool true)) h' := ev_ok_all okp orc_none _ B _ _ he
    rcases Nat.lt_or_ge h'.next 100 with hle | hle
    · intro F w args' R ha
      exact (h1 F w args' R ha).mono fun e' w' ⟨F', k1, k2, R'⟩ => by have := R'.next_le; omega
    · exact call_wk (ins := []) (call_objs hle h1) (wk_pure rfl)
  · cases h
theorem pu9 : PuOk Tryz.prog 100 9 sAw := by
  intro args K h
  unfold sAw at h
  split at h
  · exact ⟨_, awakeH, h⟩
  · exact h.elim
def MIr : Value → Prop → Prop := fun v p => ∃ x : OMsg, v = vMsg x ∧ (x.n.arms.length ≤ 400 ∧ x.t.keys.length ≤ 400 ∧ x.e.args.length ≤ 400 ∧ x.b.code.length ≤ 400 ∧ x.g.bks.length ≤ 400) ∧ p
theorem pu10 : PuOk Tryz.prog 100 10 (sId MIr) := by
  intro args K h
  unfold sId at h
  split at h <;> try exact h.elim
  obtain ⟨x, rfl, ⟨h1, h2, h3, h4, h5⟩, hK⟩ := h
  exact ⟨_, fun B H => pu_mk okp kn_none lp_none rfl rfl (ownC x h1 h2 h3 h4 h5) B H, hK⟩
abbrev MBNode : MBt := MBr vNode okNode mayNode
abbrev MBField : MBt := MBr vField okField mayField
abbrev MBTable : MBt := MBr vTable okTable mayTable
abbrev MBEntry : MBt := MBr vEntry okEntry mayEntry
abbrev MBBlock : MBt := MBr vBlock okBlock mayBlock
abbrev MBGroup : MBt := MBr vGroup okGroup mayGroup
abbrev MBMeter : MBt := MBr vMeter okMeter mayMeter
abbrev MBRegs : MBt := MBr vRegs okRegs mayRegs
def MPr {α : Type} (v : α → Value) (ok : α → Prop) (may : α → Bool) (atts : α → List At) : MPt := fun a K => ∃ x : α, a = v x ∧ ok x ∧ K (putS (may x) (atts x)) (putE (may x))
theorem pu_p {α : Type} {v : α → Value} {ok : α → Prop} {may : α → Bool} {atts : α → List At} {f : FuncId} (h : ∀ x, ok x → ∀ B H, CallH Tryz.prog 100 B f [v x] H (.returned (putV (may x) (atts x))) H) : PuOk Tryz.prog 100 f (sPt (MPr v ok may atts)) := by
  intro args K hs
  unfold sPt at hs
  split at hs <;> try exact hs.elim
  obtain ⟨x, rfl, hf, hK⟩ := hs
  exact ⟨_, h x hf, by rw [putV_eq]; exact hK⟩
theorem pu9s {l : PuL} {a b c d e f g h i : FuncId × (List Value → (Value → Prop) → Prop)} (h1 : PuOk Tryz.prog 100 a.1 a.2) (h2 : PuOk Tryz.prog 100 b.1 b.2) (h3 : PuOk Tryz.prog 100 c.1 c.2) (h4 : PuOk Tryz.prog 100 d.1 d.2) (h5 : PuOk Tryz.prog 100 e.1 e.2) (h6 : PuOk Tryz.prog 100 f.1 f.2) (h7 : PuOk Tryz.prog 100 g.1 g.2) (h8 : PuOk Tryz.prog 100 h.1 h.2) (hl : ∀ x ∈ l, PuOk Tryz.prog 100 x.1 x.2) :
    ∀ x ∈ a :: b :: c :: d :: e :: f :: g :: h :: l, PuOk Tryz.prog 100 x.1 x.2 := fun x hx => by
  simp only [List.mem_cons] at hx
  rcases hx with rfl | rfl | rfl | rfl | rfl | rfl | rfl | rfl | hx
  · exact h1
  · exact h2
  · exact h3
  · exact h4
  · exact h5
  · exact h6
  · exact h7
  · exact h8
  · exact hl x hx
theorem puts0C (x : OMsg) (h : okMsg x) : Is (gPuts0 (real Tryz.prog) MBNode MBField MBTable MBEntry MBBlock MBGroup MBMeter MBRegs (MPr vNode okNode mayNode attsNode) (x.a0 : Int) (x.a1 : Int) x.a2 x.a3 x.a4 x.a5 x.a6 (x.a7 : Int) (x.a8 : Int) x.a9 (rowsOf cNat x.a10) x.n.id x.n.size x.n.lo x.n.lw x.n.lu x.n.so x.n.sw (rowsOf cArm x.n.arms) x.n.ot x.f.id (x.f.base : Int) x.f.node x.f.off x.f.wid x.t.id (x.t.kind : Int) (rowsOf cInt x.t.keys) x.t.cap x.t.miss x.e.tab x.e.key x.e.oth x.e.len x.e.prio x.e.blk (rowsOf cNat x.e.args) x.e.idle x.e.hard (x.e.cook : Int) x.e.tell x.b.id (rowsOf cInstr x.b.code) x.g.id (x.g.kind : Int) x.g.fld (rowsOf cBucket x.g.bks) x.m.id x.m.rate x.m.burst x.r.id x.r.size (PQ (tupJ x 0))) := by
  refine ⟨?_⟩
  rw [gPuts0_eq]
  exact ⟨x.n, rfl, h.1, x.f, rfl, h.2.1, x.t, rfl, h.2.2.1, x.e, rfl, h.2.2.2.1, x.b, rfl, h.2.2.2.2.1, x.g, rfl, h.2.2.2.2.2.1, x.m, rfl, h.2.2.2.2.2.2.1, x.r, rfl, h.2.2.2.2.2.2.2, x.n, rfl, h.1, PQ.of rfl rfl⟩
theorem puts0H (x : OMsg) (h : okMsg x) (B : Base) (H : Heap) : CallH Tryz.prog 100 B 11 [vMsg x, .int .i64 0] H (.returned (tupJ x 0)) H :=
  pu_mk okp (kn_pu (pu9s (i := (0, sAw)) (pu_b fun x h B H => mayNodeH x h.1 B H) (pu_b fun x h B H => mayFieldH x h.1 B H) (pu_b fun x h B H => mayTableH x h.1 B H) (pu_b fun x h B H => mayEntryH x h.1 B H) (pu_b fun x h B H => mayBlockH x h.1 B H) (pu_b fun x h B H => mayGroupH x h.1 B H) (pu_b fun x h B H => mayMeterH x h.1 B H) (pu_b fun x h B H => mayRegsH x h.1 B H) (pu1 (pu_p fun x h B H => putNodeH x h.1 h.2.1 h.2.2 B H)))) lp_none rfl rfl (puts0C x h) B H
theorem puts1C (x : OMsg) (h : okMsg x) : Is (gPuts1 (real Tryz.prog) MBNode MBField MBTable MBEntry MBBlock MBGroup MBMeter MBRegs (MPr vField okField mayField attsField) (x.a0 : Int) (x.a1 : Int) x.a2 x.a3 x.a4 x.a5 x.a6 (x.a7 : Int) (x.a8 : Int) x.a9 (rowsOf cNat x.a10) x.n.id x.n.size x.n.lo x.n.lw x.n.lu x.n.so x.n.sw (rowsOf cArm x.n.arms) x.n.ot x.f.id (x.f.base : Int) x.f.node x.f.off x.f.wid x.t.id (x.t.kind : Int) (rowsOf cInt x.t.keys) x.t.cap x.t.miss x.e.tab x.e.key x.e.oth x.e.len x.e.prio x.e.blk (rowsOf cNat x.e.args) x.e.idle x.e.hard (x.e.cook : Int) x.e.tell x.b.id (rowsOf cInstr x.b.code) x.g.id (x.g.kind : Int) x.g.fld (rowsOf cBucket x.g.bks) x.m.id x.m.rate x.m.burst x.r.id x.r.size (PQ (tupJ x 1))) := by
  refine ⟨?_⟩
  rw [gPuts1_eq]
  exact ⟨x.n, rfl, h.1, x.f, rfl, h.2.1, x.t, rfl, h.2.2.1, x.e, rfl, h.2.2.2.1, x.b, rfl, h.2.2.2.2.1, x.g, rfl, h.2.2.2.2.2.1, x.m, rfl, h.2.2.2.2.2.2.1, x.r, rfl, h.2.2.2.2.2.2.2, x.f, rfl, h.2.1, PQ.of rfl rfl⟩
theorem puts1H (x : OMsg) (h : okMsg x) (B : Base) (H : Heap) : CallH Tryz.prog 100 B 11 [vMsg x, .int .i64 1] H (.returned (tupJ x 1)) H :=
  pu_mk okp (kn_pu (pu9s (i := (0, sAw)) (pu_b fun x h B H => mayNodeH x h.1 B H) (pu_b fun x h B H => mayFieldH x h.1 B H) (pu_b fun x h B H => mayTableH x h.1 B H) (pu_b fun x h B H => mayEntryH x h.1 B H) (pu_b fun x h B H => mayBlockH x h.1 B H) (pu_b fun x h B H => mayGroupH x h.1 B H) (pu_b fun x h B H => mayMeterH x h.1 B H) (pu_b fun x h B H => mayRegsH x h.1 B H) (pu1 (pu_p fun x h B H => putFieldH x h.1 h.2.1 B H)))) lp_none rfl rfl (puts1C x h) B H
theorem puts2C (x : OMsg) (h : okMsg x) : Is (gPuts2 (real Tryz.prog) MBNode MBField MBTable MBEntry MBBlock MBGroup MBMeter MBRegs (MPr vTable okTable mayTable attsTable) (x.a0 : Int) (x.a1 : Int) x.a2 x.a3 x.a4 x.a5 x.a6 (x.a7 : Int) (x.a8 : Int) x.a9 (rowsOf cNat x.a10) x.n.id x.n.size x.n.lo x.n.lw x.n.lu x.n.so x.n.sw (rowsOf cArm x.n.arms) x.n.ot x.f.id (x.f.base : Int) x.f.node x.f.off x.f.wid x.t.id (x.t.kind : Int) (rowsOf cInt x.t.keys) x.t.cap x.t.miss x.e.tab x.e.key x.e.oth x.e.len x.e.prio x.e.blk (rowsOf cNat x.e.args) x.e.idle x.e.hard (x.e.cook : Int) x.e.tell x.b.id (rowsOf cInstr x.b.code) x.g.id (x.g.kind : Int) x.g.fld (rowsOf cBucket x.g.bks) x.m.id x.m.rate x.m.burst x.r.id x.r.size (PQ (tupJ x 2))) := by
  refine ⟨?_⟩
  rw [gPuts2_eq]
  exact ⟨x.n, rfl, h.1, x.f, rfl, h.2.1, x.t, rfl, h.2.2.1, x.e, rfl, h.2.2.2.1, x.b, rfl, h.2.2.2.2.1, x.g, rfl, h.2.2.2.2.2.1, x.m, rfl, h.2.2.2.2.2.2.1, x.r, rfl, h.2.2.2.2.2.2.2, x.t, rfl, h.2.2.1, PQ.of rfl rfl⟩
theorem puts2H (x : OMsg) (h : okMsg x) (B : Base) (H : Heap) : CallH Tryz.prog 100 B 11 [vMsg x, .int .i64 2] H (.returned (tupJ x 2)) H :=
  pu_mk okp (kn_pu (pu9s (i := (0, sAw)) (pu_b fun x h B H => mayNodeH x h.1 B H) (pu_b fun x h B H => mayFieldH x h.1 B H) (pu_b fun x h B H => mayTableH x h.1 B H) (pu_b fun x h B H => mayEntryH x h.1 B H) (pu_b fun x h B H => mayBlockH x h.1 B H) (pu_b fun x h B H => mayGroupH x h.1 B H) (pu_b fun x h B H => mayMeterH x h.1 B H) (pu_b fun x h B H => mayRegsH x h.1 B H) (pu1 (pu_p fun x h B H => putTableH x h.1 h.2.1 h.2.2 B H)))) lp_none rfl rfl (puts2C x h) B H
theorem puts3C (x : OMsg) (h : okMsg x) : Is (gPuts3 (real Tryz.prog) MBNode MBField MBTable MBEntry MBBlock MBGroup MBMeter MBRegs (MPr vEntry okEntry mayEntry attsEntry) (x.a0 : Int) (x.a1 : Int) x.a2 x.a3 x.a4 x.a5 x.a6 (x.a7 : Int) (x.a8 : Int) x.a9 (rowsOf cNat x.a10) x.n.id x.n.size x.n.lo x.n.lw x.n.lu x.n.so x.n.sw (rowsOf cArm x.n.arms) x.n.ot x.f.id (x.f.base : Int) x.f.node x.f.off x.f.wid x.t.id (x.t.kind : Int) (rowsOf cInt x.t.keys) x.t.cap x.t.miss x.e.tab x.e.key x.e.oth x.e.len x.e.prio x.e.blk (rowsOf cNat x.e.args) x.e.idle x.e.hard (x.e.cook : Int) x.e.tell x.b.id (rowsOf cInstr x.b.code) x.g.id (x.g.kind : Int) x.g.fld (rowsOf cBucket x.g.bks) x.m.id x.m.rate x.m.burst x.r.id x.r.size (PQ (tupJ x 3))) := by
  refine ⟨?_⟩
  rw [gPuts3_eq]
  exact ⟨x.n, rfl, h.1, x.f, rfl, h.2.1, x.t, rfl, h.2.2.1, x.e, rfl, h.2.2.2.1, x.b, rfl, h.2.2.2.2.1, x.g, rfl, h.2.2.2.2.2.1, x.m, rfl, h.2.2.2.2.2.2.1, x.r, rfl, h.2.2.2.2.2.2.2, x.e, rfl, h.2.2.2.1, PQ.of rfl rfl⟩
theorem puts3H (x : OMsg) (h : okMsg x) (B : Base) (H : Heap) : CallH Tryz.prog 100 B 11 [vMsg x, .int .i64 3] H (.returned (tupJ x 3)) H :=
  pu_mk okp (kn_pu (pu9s (i := (0, sAw)) (pu_b fun x h B H => mayNodeH x h.1 B H) (pu_b fun x h B H => mayFieldH x h.1 B H) (pu_b fun x h B H => mayTableH x h.1 B H) (pu_b fun x h B H => mayEntryH x h.1 B H) (pu_b fun x h B H => mayBlockH x h.1 B H) (pu_b fun x h B H => mayGroupH x h.1 B H) (pu_b fun x h B H => mayMeterH x h.1 B H) (pu_b fun x h B H => mayRegsH x h.1 B H) (pu1 (pu_p fun x h B H => putEntryH x h.1 h.2.1 h.2.2 B H)))) lp_none rfl rfl (puts3C x h) B H
theorem puts4C (x : OMsg) (h : okMsg x) : Is (gPuts4 (real Tryz.prog) MBNode MBField MBTable MBEntry MBBlock MBGroup MBMeter MBRegs (MPr vBlock okBlock mayBlock attsBlock) (x.a0 : Int) (x.a1 : Int) x.a2 x.a3 x.a4 x.a5 x.a6 (x.a7 : Int) (x.a8 : Int) x.a9 (rowsOf cNat x.a10) x.n.id x.n.size x.n.lo x.n.lw x.n.lu x.n.so x.n.sw (rowsOf cArm x.n.arms) x.n.ot x.f.id (x.f.base : Int) x.f.node x.f.off x.f.wid x.t.id (x.t.kind : Int) (rowsOf cInt x.t.keys) x.t.cap x.t.miss x.e.tab x.e.key x.e.oth x.e.len x.e.prio x.e.blk (rowsOf cNat x.e.args) x.e.idle x.e.hard (x.e.cook : Int) x.e.tell x.b.id (rowsOf cInstr x.b.code) x.g.id (x.g.kind : Int) x.g.fld (rowsOf cBucket x.g.bks) x.m.id x.m.rate x.m.burst x.r.id x.r.size (PQ (tupJ x 4))) := by
  refine ⟨?_⟩
  rw [gPuts4_eq]
  exact ⟨x.n, rfl, h.1, x.f, rfl, h.2.1, x.t, rfl, h.2.2.1, x.e, rfl, h.2.2.2.1, x.b, rfl, h.2.2.2.2.1, x.g, rfl, h.2.2.2.2.2.1, x.m, rfl, h.2.2.2.2.2.2.1, x.r, rfl, h.2.2.2.2.2.2.2, x.b, rfl, h.2.2.2.2.1, PQ.of rfl rfl⟩
theorem puts4H (x : OMsg) (h : okMsg x) (B : Base) (H : Heap) : CallH Tryz.prog 100 B 11 [vMsg x, .int .i64 4] H (.returned (tupJ x 4)) H :=
  pu_mk okp (kn_pu (pu9s (i := (0, sAw)) (pu_b fun x h B H => mayNodeH x h.1 B H) (pu_b fun x h B H => mayFieldH x h.1 B H) (pu_b fun x h B H => mayTableH x h.1 B H) (pu_b fun x h B H => mayEntryH x h.1 B H) (pu_b fun x h B H => mayBlockH x h.1 B H) (pu_b fun x h B H => mayGroupH x h.1 B H) (pu_b fun x h B H => mayMeterH x h.1 B H) (pu_b fun x h B H => mayRegsH x h.1 B H) (pu1 (pu_p fun x h B H => putBlockH x h.1 h.2.1 h.2.2 B H)))) lp_none rfl rfl (puts4C x h) B H
theorem puts5C (x : OMsg) (h : okMsg x) : Is (gPuts5 (real Tryz.prog) MBNode MBField MBTable MBEntry MBBlock MBGroup MBMeter MBRegs (MPr vGroup okGroup mayGroup attsGroup) (x.a0 : Int) (x.a1 : Int) x.a2 x.a3 x.a4 x.a5 x.a6 (x.a7 : Int) (x.a8 : Int) x.a9 (rowsOf cNat x.a10) x.n.id x.n.size x.n.lo x.n.lw x.n.lu x.n.so x.n.sw (rowsOf cArm x.n.arms) x.n.ot x.f.id (x.f.base : Int) x.f.node x.f.off x.f.wid x.t.id (x.t.kind : Int) (rowsOf cInt x.t.keys) x.t.cap x.t.miss x.e.tab x.e.key x.e.oth x.e.len x.e.prio x.e.blk (rowsOf cNat x.e.args) x.e.idle x.e.hard (x.e.cook : Int) x.e.tell x.b.id (rowsOf cInstr x.b.code) x.g.id (x.g.kind : Int) x.g.fld (rowsOf cBucket x.g.bks) x.m.id x.m.rate x.m.burst x.r.id x.r.size (PQ (tupJ x 5))) := by
  refine ⟨?_⟩
  rw [gPuts5_eq]
  exact ⟨x.n, rfl, h.1, x.f, rfl, h.2.1, x.t, rfl, h.2.2.1, x.e, rfl, h.2.2.2.1, x.b, rfl, h.2.2.2.2.1, x.g, rfl, h.2.2.2.2.2.1, x.m, rfl, h.2.2.2.2.2.2.1, x.r, rfl, h.2.2.2.2.2.2.2, x.g, rfl, h.2.2.2.2.2.1, PQ.of rfl rfl⟩
theorem puts5H (x : OMsg) (h : okMsg x) (B : Base) (H : Heap) : CallH Tryz.prog 100 B 11 [vMsg x, .int .i64 5] H (.returned (tupJ x 5)) H :=
  pu_mk okp (kn_pu (pu9s (i := (0, sAw)) (pu_b fun x h B H => mayNodeH x h.1 B H) (pu_b fun x h B H => mayFieldH x h.1 B H) (pu_b fun x h B H => mayTableH x h.1 B H) (pu_b fun x h B H => mayEntryH x h.1 B H) (pu_b fun x h B H => mayBlockH x h.1 B H) (pu_b fun x h B H => mayGroupH x h.1 B H) (pu_b fun x h B H => mayMeterH x h.1 B H) (pu_b fun x h B H => mayRegsH x h.1 B H) (pu1 (pu_p fun x h B H => putGroupH x h.1 h.2.1 h.2.2 B H)))) lp_none rfl rfl (puts5C x h) B H
theorem puts6C (x : OMsg) (h : okMsg x) : Is (gPuts6 (real Tryz.prog) MBNode MBField MBTable MBEntry MBBlock MBGroup MBMeter MBRegs (MPr vMeter okMeter mayMeter attsMeter) (x.a0 : Int) (x.a1 : Int) x.a2 x.a3 x.a4 x.a5 x.a6 (x.a7 : Int) (x.a8 : Int) x.a9 (rowsOf cNat x.a10) x.n.id x.n.size x.n.lo x.n.lw x.n.lu x.n.so x.n.sw (rowsOf cArm x.n.arms) x.n.ot x.f.id (x.f.base : Int) x.f.node x.f.off x.f.wid x.t.id (x.t.kind : Int) (rowsOf cInt x.t.keys) x.t.cap x.t.miss x.e.tab x.e.key x.e.oth x.e.len x.e.prio x.e.blk (rowsOf cNat x.e.args) x.e.idle x.e.hard (x.e.cook : Int) x.e.tell x.b.id (rowsOf cInstr x.b.code) x.g.id (x.g.kind : Int) x.g.fld (rowsOf cBucket x.g.bks) x.m.id x.m.rate x.m.burst x.r.id x.r.size (PQ (tupJ x 6))) := by
  refine ⟨?_⟩
  rw [gPuts6_eq]
  exact ⟨x.n, rfl, h.1, x.f, rfl, h.2.1, x.t, rfl, h.2.2.1, x.e, rfl, h.2.2.2.1, x.b, rfl, h.2.2.2.2.1, x.g, rfl, h.2.2.2.2.2.1, x.m, rfl, h.2.2.2.2.2.2.1, x.r, rfl, h.2.2.2.2.2.2.2, x.m, rfl, h.2.2.2.2.2.2.1, PQ.of rfl rfl⟩
theorem puts6H (x : OMsg) (h : okMsg x) (B : Base) (H : Heap) : CallH Tryz.prog 100 B 11 [vMsg x, .int .i64 6] H (.returned (tupJ x 6)) H :=
  pu_mk okp (kn_pu (pu9s (i := (0, sAw)) (pu_b fun x h B H => mayNodeH x h.1 B H) (pu_b fun x h B H => mayFieldH x h.1 B H) (pu_b fun x h B H => mayTableH x h.1 B H) (pu_b fun x h B H => mayEntryH x h.1 B H) (pu_b fun x h B H => mayBlockH x h.1 B H) (pu_b fun x h B H => mayGroupH x h.1 B H) (pu_b fun x h B H => mayMeterH x h.1 B H) (pu_b fun x h B H => mayRegsH x h.1 B H) (pu1 (pu_p fun x h B H => putMeterH x h.1 h.2.1 B H)))) lp_none rfl rfl (puts6C x h) B H
theorem puts7C (x : OMsg) (h : okMsg x) : Is (gPuts7 (real Tryz.prog) MBNode MBField MBTable MBEntry MBBlock MBGroup MBMeter MBRegs (MPr vRegs okRegs mayRegs attsRegs) (x.a0 : Int) (x.a1 : Int) x.a2 x.a3 x.a4 x.a5 x.a6 (x.a7 : Int) (x.a8 : Int) x.a9 (rowsOf cNat x.a10) x.n.id x.n.size x.n.lo x.n.lw x.n.lu x.n.so x.n.sw (rowsOf cArm x.n.arms) x.n.ot x.f.id (x.f.base : Int) x.f.node x.f.off x.f.wid x.t.id (x.t.kind : Int) (rowsOf cInt x.t.keys) x.t.cap x.t.miss x.e.tab x.e.key x.e.oth x.e.len x.e.prio x.e.blk (rowsOf cNat x.e.args) x.e.idle x.e.hard (x.e.cook : Int) x.e.tell x.b.id (rowsOf cInstr x.b.code) x.g.id (x.g.kind : Int) x.g.fld (rowsOf cBucket x.g.bks) x.m.id x.m.rate x.m.burst x.r.id x.r.size (PQ (tupJ x 7))) := by
  refine ⟨?_⟩
  rw [gPuts7_eq]
  exact ⟨x.n, rfl, h.1, x.f, rfl, h.2.1, x.t, rfl, h.2.2.1, x.e, rfl, h.2.2.2.1, x.b, rfl, h.2.2.2.2.1, x.g, rfl, h.2.2.2.2.2.1, x.m, rfl, h.2.2.2.2.2.2.1, x.r, rfl, h.2.2.2.2.2.2.2, x.r, rfl, h.2.2.2.2.2.2.2, PQ.of rfl rfl⟩
theorem puts7H (x : OMsg) (h : okMsg x) (B : Base) (H : Heap) : CallH Tryz.prog 100 B 11 [vMsg x, .int .i64 7] H (.returned (tupJ x 7)) H :=
  pu_mk okp (kn_pu (pu9s (i := (0, sAw)) (pu_b fun x h B H => mayNodeH x h.1 B H) (pu_b fun x h B H => mayFieldH x h.1 B H) (pu_b fun x h B H => mayTableH x h.1 B H) (pu_b fun x h B H => mayEntryH x h.1 B H) (pu_b fun x h B H => mayBlockH x h.1 B H) (pu_b fun x h B H => mayGroupH x h.1 B H) (pu_b fun x h B H => mayMeterH x h.1 B H) (pu_b fun x h B H => mayRegsH x h.1 B H) (pu1 (pu_p fun x h B H => putRegsH x h.1 h.2.1 B H)))) lp_none rfl rfl (puts7C x h) B H
theorem must0C (x : OMsg) (h : okMsg x) : Is (gMust0 (real Tryz.prog) MBNode MBField MBTable MBEntry MBBlock MBGroup MBMeter MBRegs (MPr vNode okNode mayNode attsNode) (x.a0 : Int) (x.a1 : Int) x.a2 x.a3 x.a4 x.a5 x.a6 (x.a7 : Int) (x.a8 : Int) x.a9 (rowsOf cNat x.a10) x.n.id x.n.size x.n.lo x.n.lw x.n.lu x.n.so x.n.sw (rowsOf cArm x.n.arms) x.n.ot x.f.id (x.f.base : Int) x.f.node x.f.off x.f.wid x.t.id (x.t.kind : Int) (rowsOf cInt x.t.keys) x.t.cap x.t.miss x.e.tab x.e.key x.e.oth x.e.len x.e.prio x.e.blk (rowsOf cNat x.e.args) x.e.idle x.e.hard (x.e.cook : Int) x.e.tell x.b.id (rowsOf cInstr x.b.code) x.g.id (x.g.kind : Int) x.g.fld (rowsOf cBucket x.g.bks) x.m.id x.m.rate x.m.burst x.r.id x.r.size (PQ (tupJ x 0))) := by
  refine ⟨?_⟩
  rw [gMust0_eq]
  exact ⟨x.n, rfl, h.1, x.f, rfl, h.2.1, x.t, rfl, h.2.2.1, x.e, rfl, h.2.2.2.1, x.b, rfl, h.2.2.2.2.1, x.g, rfl, h.2.2.2.2.2.1, x.m, rfl, h.2.2.2.2.2.2.1, x.r, rfl, h.2.2.2.2.2.2.2, x.n, rfl, h.1, PQ.of rfl rfl⟩
theorem must0H (x : OMsg) (h : okMsg x) (B : Base) (H : Heap) : CallH Tryz.prog 100 B 12 [vMsg x, .int .i64 0] H (.returned (tupJ x 0)) H :=
  pu_mk okp (kn_pu (pu9s (i := (0, sAw)) (pu_b fun x h B H => rmayNodeH x h.1 B H) (pu_b fun x h B H => rmayFieldH x h.1 B H) (pu_b fun x h B H => rmayTableH x h.1 B H) (pu_b fun x h B H => rmayEntryH x h.1 B H) (pu_b fun x h B H => rmayBlockH x h.1 B H) (pu_b fun x h B H => rmayGroupH x h.1 B H) (pu_b fun x h B H => rmayMeterH x h.1 B H) (pu_b fun x h B H => rmayRegsH x h.1 B H) (pu1 (pu_p fun x h B H => rputNodeH x h.1 h.2.1 h.2.2 B H)))) lp_none rfl rfl (must0C x h) B H
theorem must1C (x : OMsg) (h : okMsg x) : Is (gMust1 (real Tryz.prog) MBNode MBField MBTable MBEntry MBBlock MBGroup MBMeter MBRegs (MPr vField okField mayField attsField) (x.a0 : Int) (x.a1 : Int) x.a2 x.a3 x.a4 x.a5 x.a6 (x.a7 : Int) (x.a8 : Int) x.a9 (rowsOf cNat x.a10) x.n.id x.n.size x.n.lo x.n.lw x.n.lu x.n.so x.n.sw (rowsOf cArm x.n.arms) x.n.ot x.f.id (x.f.base : Int) x.f.node x.f.off x.f.wid x.t.id (x.t.kind : Int) (rowsOf cInt x.t.keys) x.t.cap x.t.miss x.e.tab x.e.key x.e.oth x.e.len x.e.prio x.e.blk (rowsOf cNat x.e.args) x.e.idle x.e.hard (x.e.cook : Int) x.e.tell x.b.id (rowsOf cInstr x.b.code) x.g.id (x.g.kind : Int) x.g.fld (rowsOf cBucket x.g.bks) x.m.id x.m.rate x.m.burst x.r.id x.r.size (PQ (tupJ x 1))) := by
  refine ⟨?_⟩
  rw [gMust1_eq]
  exact ⟨x.n, rfl, h.1, x.f, rfl, h.2.1, x.t, rfl, h.2.2.1, x.e, rfl, h.2.2.2.1, x.b, rfl, h.2.2.2.2.1, x.g, rfl, h.2.2.2.2.2.1, x.m, rfl, h.2.2.2.2.2.2.1, x.r, rfl, h.2.2.2.2.2.2.2, x.f, rfl, h.2.1, PQ.of rfl rfl⟩
theorem must1H (x : OMsg) (h : okMsg x) (B : Base) (H : Heap) : CallH Tryz.prog 100 B 12 [vMsg x, .int .i64 1] H (.returned (tupJ x 1)) H :=
  pu_mk okp (kn_pu (pu9s (i := (0, sAw)) (pu_b fun x h B H => rmayNodeH x h.1 B H) (pu_b fun x h B H => rmayFieldH x h.1 B H) (pu_b fun x h B H => rmayTableH x h.1 B H) (pu_b fun x h B H => rmayEntryH x h.1 B H) (pu_b fun x h B H => rmayBlockH x h.1 B H) (pu_b fun x h B H => rmayGroupH x h.1 B H) (pu_b fun x h B H => rmayMeterH x h.1 B H) (pu_b fun x h B H => rmayRegsH x h.1 B H) (pu1 (pu_p fun x h B H => rputFieldH x h.1 h.2.1 B H)))) lp_none rfl rfl (must1C x h) B H
theorem must2C (x : OMsg) (h : okMsg x) : Is (gMust2 (real Tryz.prog) MBNode MBField MBTable MBEntry MBBlock MBGroup MBMeter MBRegs (MPr vTable okTable mayTable attsTable) (x.a0 : Int) (x.a1 : Int) x.a2 x.a3 x.a4 x.a5 x.a6 (x.a7 : Int) (x.a8 : Int) x.a9 (rowsOf cNat x.a10) x.n.id x.n.size x.n.lo x.n.lw x.n.lu x.n.so x.n.sw (rowsOf cArm x.n.arms) x.n.ot x.f.id (x.f.base : Int) x.f.node x.f.off x.f.wid x.t.id (x.t.kind : Int) (rowsOf cInt x.t.keys) x.t.cap x.t.miss x.e.tab x.e.key x.e.oth x.e.len x.e.prio x.e.blk (rowsOf cNat x.e.args) x.e.idle x.e.hard (x.e.cook : Int) x.e.tell x.b.id (rowsOf cInstr x.b.code) x.g.id (x.g.kind : Int) x.g.fld (rowsOf cBucket x.g.bks) x.m.id x.m.rate x.m.burst x.r.id x.r.size (PQ (tupJ x 2))) := by
  refine ⟨?_⟩
  rw [gMust2_eq]
  exact ⟨x.n, rfl, h.1, x.f, rfl, h.2.1, x.t, rfl, h.2.2.1, x.e, rfl, h.2.2.2.1, x.b, rfl, h.2.2.2.2.1, x.g, rfl, h.2.2.2.2.2.1, x.m, rfl, h.2.2.2.2.2.2.1, x.r, rfl, h.2.2.2.2.2.2.2, x.t, rfl, h.2.2.1, PQ.of rfl rfl⟩
theorem must2H (x : OMsg) (h : okMsg x) (B : Base) (H : Heap) : CallH Tryz.prog 100 B 12 [vMsg x, .int .i64 2] H (.returned (tupJ x 2)) H :=
  pu_mk okp (kn_pu (pu9s (i := (0, sAw)) (pu_b fun x h B H => rmayNodeH x h.1 B H) (pu_b fun x h B H => rmayFieldH x h.1 B H) (pu_b fun x h B H => rmayTableH x h.1 B H) (pu_b fun x h B H => rmayEntryH x h.1 B H) (pu_b fun x h B H => rmayBlockH x h.1 B H) (pu_b fun x h B H => rmayGroupH x h.1 B H) (pu_b fun x h B H => rmayMeterH x h.1 B H) (pu_b fun x h B H => rmayRegsH x h.1 B H) (pu1 (pu_p fun x h B H => rputTableH x h.1 h.2.1 h.2.2 B H)))) lp_none rfl rfl (must2C x h) B H
theorem must3C (x : OMsg) (h : okMsg x) : Is (gMust3 (real Tryz.prog) MBNode MBField MBTable MBEntry MBBlock MBGroup MBMeter MBRegs (MPr vEntry okEntry mayEntry attsEntry) (x.a0 : Int) (x.a1 : Int) x.a2 x.a3 x.a4 x.a5 x.a6 (x.a7 : Int) (x.a8 : Int) x.a9 (rowsOf cNat x.a10) x.n.id x.n.size x.n.lo x.n.lw x.n.lu x.n.so x.n.sw (rowsOf cArm x.n.arms) x.n.ot x.f.id (x.f.base : Int) x.f.node x.f.off x.f.wid x.t.id (x.t.kind : Int) (rowsOf cInt x.t.keys) x.t.cap x.t.miss x.e.tab x.e.key x.e.oth x.e.len x.e.prio x.e.blk (rowsOf cNat x.e.args) x.e.idle x.e.hard (x.e.cook : Int) x.e.tell x.b.id (rowsOf cInstr x.b.code) x.g.id (x.g.kind : Int) x.g.fld (rowsOf cBucket x.g.bks) x.m.id x.m.rate x.m.burst x.r.id x.r.size (PQ (tupJ x 3))) := by
  refine ⟨?_⟩
  rw [gMust3_eq]
  exact ⟨x.n, rfl, h.1, x.f, rfl, h.2.1, x.t, rfl, h.2.2.1, x.e, rfl, h.2.2.2.1, x.b, rfl, h.2.2.2.2.1, x.g, rfl, h.2.2.2.2.2.1, x.m, rfl, h.2.2.2.2.2.2.1, x.r, rfl, h.2.2.2.2.2.2.2, x.e, rfl, h.2.2.2.1, PQ.of rfl rfl⟩
theorem must3H (x : OMsg) (h : okMsg x) (B : Base) (H : Heap) : CallH Tryz.prog 100 B 12 [vMsg x, .int .i64 3] H (.returned (tupJ x 3)) H :=
  pu_mk okp (kn_pu (pu9s (i := (0, sAw)) (pu_b fun x h B H => rmayNodeH x h.1 B H) (pu_b fun x h B H => rmayFieldH x h.1 B H) (pu_b fun x h B H => rmayTableH x h.1 B H) (pu_b fun x h B H => rmayEntryH x h.1 B H) (pu_b fun x h B H => rmayBlockH x h.1 B H) (pu_b fun x h B H => rmayGroupH x h.1 B H) (pu_b fun x h B H => rmayMeterH x h.1 B H) (pu_b fun x h B H => rmayRegsH x h.1 B H) (pu1 (pu_p fun x h B H => rputEntryH x h.1 h.2.1 h.2.2 B H)))) lp_none rfl rfl (must3C x h) B H
theorem must4C (x : OMsg) (h : okMsg x) : Is (gMust4 (real Tryz.prog) MBNode MBField MBTable MBEntry MBBlock MBGroup MBMeter MBRegs (MPr vBlock okBlock mayBlock attsBlock) (x.a0 : Int) (x.a1 : Int) x.a2 x.a3 x.a4 x.a5 x.a6 (x.a7 : Int) (x.a8 : Int) x.a9 (rowsOf cNat x.a10) x.n.id x.n.size x.n.lo x.n.lw x.n.lu x.n.so x.n.sw (rowsOf cArm x.n.arms) x.n.ot x.f.id (x.f.base : Int) x.f.node x.f.off x.f.wid x.t.id (x.t.kind : Int) (rowsOf cInt x.t.keys) x.t.cap x.t.miss x.e.tab x.e.key x.e.oth x.e.len x.e.prio x.e.blk (rowsOf cNat x.e.args) x.e.idle x.e.hard (x.e.cook : Int) x.e.tell x.b.id (rowsOf cInstr x.b.code) x.g.id (x.g.kind : Int) x.g.fld (rowsOf cBucket x.g.bks) x.m.id x.m.rate x.m.burst x.r.id x.r.size (PQ (tupJ x 4))) := by
  refine ⟨?_⟩
  rw [gMust4_eq]
  exact ⟨x.n, rfl, h.1, x.f, rfl, h.2.1, x.t, rfl, h.2.2.1, x.e, rfl, h.2.2.2.1, x.b, rfl, h.2.2.2.2.1, x.g, rfl, h.2.2.2.2.2.1, x.m, rfl, h.2.2.2.2.2.2.1, x.r, rfl, h.2.2.2.2.2.2.2, x.b, rfl, h.2.2.2.2.1, PQ.of rfl rfl⟩
theorem must4H (x : OMsg) (h : okMsg x) (B : Base) (H : Heap) : CallH Tryz.prog 100 B 12 [vMsg x, .int .i64 4] H (.returned (tupJ x 4)) H :=
  pu_mk okp (kn_pu (pu9s (i := (0, sAw)) (pu_b fun x h B H => rmayNodeH x h.1 B H) (pu_b fun x h B H => rmayFieldH x h.1 B H) (pu_b fun x h B H => rmayTableH x h.1 B H) (pu_b fun x h B H => rmayEntryH x h.1 B H) (pu_b fun x h B H => rmayBlockH x h.1 B H) (pu_b fun x h B H => rmayGroupH x h.1 B H) (pu_b fun x h B H => rmayMeterH x h.1 B H) (pu_b fun x h B H => rmayRegsH x h.1 B H) (pu1 (pu_p fun x h B H => rputBlockH x h.1 h.2.1 h.2.2 B H)))) lp_none rfl rfl (must4C x h) B H
theorem must5C (x : OMsg) (h : okMsg x) : Is (gMust5 (real Tryz.prog) MBNode MBField MBTable MBEntry MBBlock MBGroup MBMeter MBRegs (MPr vGroup okGroup mayGroup attsGroup) (x.a0 : Int) (x.a1 : Int) x.a2 x.a3 x.a4 x.a5 x.a6 (x.a7 : Int) (x.a8 : Int) x.a9 (rowsOf cNat x.a10) x.n.id x.n.size x.n.lo x.n.lw x.n.lu x.n.so x.n.sw (rowsOf cArm x.n.arms) x.n.ot x.f.id (x.f.base : Int) x.f.node x.f.off x.f.wid x.t.id (x.t.kind : Int) (rowsOf cInt x.t.keys) x.t.cap x.t.miss x.e.tab x.e.key x.e.oth x.e.len x.e.prio x.e.blk (rowsOf cNat x.e.args) x.e.idle x.e.hard (x.e.cook : Int) x.e.tell x.b.id (rowsOf cInstr x.b.code) x.g.id (x.g.kind : Int) x.g.fld (rowsOf cBucket x.g.bks) x.m.id x.m.rate x.m.burst x.r.id x.r.size (PQ (tupJ x 5))) := by
  refine ⟨?_⟩
  rw [gMust5_eq]
  exact ⟨x.n, rfl, h.1, x.f, rfl, h.2.1, x.t, rfl, h.2.2.1, x.e, rfl, h.2.2.2.1, x.b, rfl, h.2.2.2.2.1, x.g, rfl, h.2.2.2.2.2.1, x.m, rfl, h.2.2.2.2.2.2.1, x.r, rfl, h.2.2.2.2.2.2.2, x.g, rfl, h.2.2.2.2.2.1, PQ.of rfl rfl⟩
theorem must5H (x : OMsg) (h : okMsg x) (B : Base) (H : Heap) : CallH Tryz.prog 100 B 12 [vMsg x, .int .i64 5] H (.returned (tupJ x 5)) H :=
  pu_mk okp (kn_pu (pu9s (i := (0, sAw)) (pu_b fun x h B H => rmayNodeH x h.1 B H) (pu_b fun x h B H => rmayFieldH x h.1 B H) (pu_b fun x h B H => rmayTableH x h.1 B H) (pu_b fun x h B H => rmayEntryH x h.1 B H) (pu_b fun x h B H => rmayBlockH x h.1 B H) (pu_b fun x h B H => rmayGroupH x h.1 B H) (pu_b fun x h B H => rmayMeterH x h.1 B H) (pu_b fun x h B H => rmayRegsH x h.1 B H) (pu1 (pu_p fun x h B H => rputGroupH x h.1 h.2.1 h.2.2 B H)))) lp_none rfl rfl (must5C x h) B H
theorem must6C (x : OMsg) (h : okMsg x) : Is (gMust6 (real Tryz.prog) MBNode MBField MBTable MBEntry MBBlock MBGroup MBMeter MBRegs (MPr vMeter okMeter mayMeter attsMeter) (x.a0 : Int) (x.a1 : Int) x.a2 x.a3 x.a4 x.a5 x.a6 (x.a7 : Int) (x.a8 : Int) x.a9 (rowsOf cNat x.a10) x.n.id x.n.size x.n.lo x.n.lw x.n.lu x.n.so x.n.sw (rowsOf cArm x.n.arms) x.n.ot x.f.id (x.f.base : Int) x.f.node x.f.off x.f.wid x.t.id (x.t.kind : Int) (rowsOf cInt x.t.keys) x.t.cap x.t.miss x.e.tab x.e.key x.e.oth x.e.len x.e.prio x.e.blk (rowsOf cNat x.e.args) x.e.idle x.e.hard (x.e.cook : Int) x.e.tell x.b.id (rowsOf cInstr x.b.code) x.g.id (x.g.kind : Int) x.g.fld (rowsOf cBucket x.g.bks) x.m.id x.m.rate x.m.burst x.r.id x.r.size (PQ (tupJ x 6))) := by
  refine ⟨?_⟩
  rw [gMust6_eq]
  exact ⟨x.n, rfl, h.1, x.f, rfl, h.2.1, x.t, rfl, h.2.2.1, x.e, rfl, h.2.2.2.1, x.b, rfl, h.2.2.2.2.1, x.g, rfl, h.2.2.2.2.2.1, x.m, rfl, h.2.2.2.2.2.2.1, x.r, rfl, h.2.2.2.2.2.2.2, x.m, rfl, h.2.2.2.2.2.2.1, PQ.of rfl rfl⟩
theorem must6H (x : OMsg) (h : okMsg x) (B : Base) (H : Heap) : CallH Tryz.prog 100 B 12 [vMsg x, .int .i64 6] H (.returned (tupJ x 6)) H :=
  pu_mk okp (kn_pu (pu9s (i := (0, sAw)) (pu_b fun x h B H => rmayNodeH x h.1 B H) (pu_b fun x h B H => rmayFieldH x h.1 B H) (pu_b fun x h B H => rmayTableH x h.1 B H) (pu_b fun x h B H => rmayEntryH x h.1 B H) (pu_b fun x h B H => rmayBlockH x h.1 B H) (pu_b fun x h B H => rmayGroupH x h.1 B H) (pu_b fun x h B H => rmayMeterH x h.1 B H) (pu_b fun x h B H => rmayRegsH x h.1 B H) (pu1 (pu_p fun x h B H => rputMeterH x h.1 h.2.1 B H)))) lp_none rfl rfl (must6C x h) B H
theorem must7C (x : OMsg) (h : okMsg x) : Is (gMust7 (real Tryz.prog) MBNode MBField MBTable MBEntry MBBlock MBGroup MBMeter MBRegs (MPr vRegs okRegs mayRegs attsRegs) (x.a0 : Int) (x.a1 : Int) x.a2 x.a3 x.a4 x.a5 x.a6 (x.a7 : Int) (x.a8 : Int) x.a9 (rowsOf cNat x.a10) x.n.id x.n.size x.n.lo x.n.lw x.n.lu x.n.so x.n.sw (rowsOf cArm x.n.arms) x.n.ot x.f.id (x.f.base : Int) x.f.node x.f.off x.f.wid x.t.id (x.t.kind : Int) (rowsOf cInt x.t.keys) x.t.cap x.t.miss x.e.tab x.e.key x.e.oth x.e.len x.e.prio x.e.blk (rowsOf cNat x.e.args) x.e.idle x.e.hard (x.e.cook : Int) x.e.tell x.b.id (rowsOf cInstr x.b.code) x.g.id (x.g.kind : Int) x.g.fld (rowsOf cBucket x.g.bks) x.m.id x.m.rate x.m.burst x.r.id x.r.size (PQ (tupJ x 7))) := by
  refine ⟨?_⟩
  rw [gMust7_eq]
  exact ⟨x.n, rfl, h.1, x.f, rfl, h.2.1, x.t, rfl, h.2.2.1, x.e, rfl, h.2.2.2.1, x.b, rfl, h.2.2.2.2.1, x.g, rfl, h.2.2.2.2.2.1, x.m, rfl, h.2.2.2.2.2.2.1, x.r, rfl, h.2.2.2.2.2.2.2, x.r, rfl, h.2.2.2.2.2.2.2, PQ.of rfl rfl⟩
theorem must7H (x : OMsg) (h : okMsg x) (B : Base) (H : Heap) : CallH Tryz.prog 100 B 12 [vMsg x, .int .i64 7] H (.returned (tupJ x 7)) H :=
  pu_mk okp (kn_pu (pu9s (i := (0, sAw)) (pu_b fun x h B H => rmayNodeH x h.1 B H) (pu_b fun x h B H => rmayFieldH x h.1 B H) (pu_b fun x h B H => rmayTableH x h.1 B H) (pu_b fun x h B H => rmayEntryH x h.1 B H) (pu_b fun x h B H => rmayBlockH x h.1 B H) (pu_b fun x h B H => rmayGroupH x h.1 B H) (pu_b fun x h B H => rmayMeterH x h.1 B H) (pu_b fun x h B H => rmayRegsH x h.1 B H) (pu1 (pu_p fun x h B H => rputRegsH x h.1 h.2.1 B H)))) lp_none rfl rfl (must7C x h) B H
def MQr : MQt := fun v k K => ∃ (x : OMsg) (j : Nat), v = vMsg x ∧ okMsg x ∧ k = j ∧ j < 8 ∧ K (mayJ x j) (putS (mayJ x j) (attsJ x j)) (putE (mayJ x j))
theorem pu11 : PuOk Tryz.prog 100 11 (sPuts MQr) := by
  intro args K hs
  unfold sPuts at hs
  split at hs <;> try exact hs.elim
  obtain ⟨x, j, rfl, hx, rfl, hj, hK⟩ := hs
  refine ⟨tupJ x j, ?_, hK⟩
  rcases j with _ | _ | _ | _ | _ | _ | _ | _ | j
  · exact puts0H x hx
  · exact puts1H x hx
  · exact puts2H x hx
  · exact puts3H x hx
  · exact puts4H x hx
  · exact puts5H x hx
  · exact puts6H x hx
  · exact puts7H x hx
  · omega
theorem pu12 : PuOk Tryz.prog 100 12 (sPuts MQr) := by
  intro args K hs
  unfold sPuts at hs
  split at hs <;> try exact hs.elim
  obtain ⟨x, j, rfl, hx, rfl, hj, hK⟩ := hs
  refine ⟨tupJ x j, ?_, hK⟩
  rcases j with _ | _ | _ | _ | _ | _ | _ | _ | j
  · exact must0H x hx
  · exact must1H x hx
  · exact must2H x hx
  · exact must3H x hx
  · exact must4H x hx
  · exact must5H x hx
  · exact must6H x hx
  · exact must7H x hx
  · omega
theorem sameMC (x : OMsg) (h : okMsg x) : Is (gSameM (real Tryz.prog) (MEr vNode okNode) (MEr vField okField) (MEr vTable okTable) (MEr vEntry okEntry) (MEr vBlock okBlock) (MEr vGroup okGroup) (MEr vMeter okMeter) (MEr vRegs okRegs) (x.a0 : Int) (x.a1 : Int) x.a2 x.a3 x.a4 x.a5 x.a6 (x.a7 : Int) (x.a8 : Int) x.a9 (rowsOf cNat x.a10) x.n.id x.n.size x.n.lo x.n.lw x.n.lu x.n.so x.n.sw (rowsOf cArm x.n.arms) x.n.ot x.f.id (x.f.base : Int) x.f.node x.f.off x.f.wid x.t.id (x.t.kind : Int) (rowsOf cInt x.t.keys) x.t.cap x.t.miss x.e.tab x.e.key x.e.oth x.e.len x.e.prio x.e.blk (rowsOf cNat x.e.args) x.e.idle x.e.hard (x.e.cook : Int) x.e.tell x.b.id (rowsOf cInstr x.b.code) x.g.id (x.g.kind : Int) x.g.fld (rowsOf cBucket x.g.bks) x.m.id x.m.rate x.m.burst x.r.id x.r.size (PQ (.bool true))) := by
  refine ⟨?_⟩
  rw [gSameM_eq]
  exact ⟨x.n, rfl, rfl, h.1, x.f, rfl, rfl, h.2.1, x.t, rfl, rfl, h.2.2.1, x.e, rfl, rfl, h.2.2.2.1, x.b, rfl, rfl, h.2.2.2.2.1, x.g, rfl, rfl, h.2.2.2.2.2.1, x.m, rfl, rfl, h.2.2.2.2.2.2.1, x.r, rfl, rfl, h.2.2.2.2.2.2.2, PQ.of rfl rfl⟩
theorem pu13 : PuOk Tryz.prog 100 13 (sEq (MEr vMsg okMsg)) := pu_e fun x h B H =>
  pu_mk okp (kn_pu (pu9s (i := (0, sAw)) (pu_e fun x h B H => sameNodeH x h.1 B H) (pu_e fun x h B H => sameFieldH x h.1 B H) (pu_e fun x h B H => sameTableH x h.1 B H) (pu_e fun x h B H => sameEntryH x h.1 B H) (pu_e fun x h B H => sameBlockH x h.1 B H) (pu_e fun x h B H => sameGroupH x h.1 B H) (pu_e fun x h B H => sameMeterH x h.1 B H) (pu_e fun x h B H => sameRegsH x h.1 B H) (fun x hx => by cases hx))) lp_none rfl rfl (sameMC x h) B H
theorem bnd_big (n : Nat) (h : n ≤ 400) : n < 1000000000 := by omega
theorem wfMsg_ok (x : OMsg) (h1 : x.n.arms.length ≤ 400) (h2 : x.t.keys.length ≤ 400) (h3 : x.e.args.length ≤ 400) (h4 : x.b.code.length ≤ 400) (h5 : x.g.bks.length ≤ 400) (we : wfEntry x.e) (wb : wfBlock x.b) (wg : wfGroup x.g) : okMsg x :=
  ⟨⟨bnd_big _ h1, trivial, by omega⟩, ⟨trivial, trivial, trivial⟩, ⟨bnd_big _ h2, trivial, by omega⟩, ⟨bnd_big _ h3, we, by omega⟩, ⟨bnd_big _ h4, wb, by omega⟩, ⟨bnd_big _ h5, wg, by omega⟩, ⟨trivial, trivial, trivial⟩, ⟨trivial, trivial, trivial⟩⟩
theorem lawC (x : OMsg) (b1 : x.n.arms.length ≤ 140737488355328) (b2 : x.t.keys.length ≤ 140737488355328) (b3 : x.e.args.length ≤ 140737488355328) (b4 : x.b.code.length ≤ 140737488355328) (b5 : x.g.bks.length ≤ 140737488355328) (we : wfEntry x.e) (wb : wfBlock x.b) (wg : wfGroup x.g) :
    Is (gLaw (real Tryz.prog) MIr MQr MQr (MEr vMsg okMsg) (x.a0 : Int) (x.a1 : Int) x.a2 x.a3 x.a4 x.a5 x.a6 (x.a7 : Int) (x.a8 : Int) x.a9 (rowsOf cNat x.a10) x.n.id x.n.size x.n.lo x.n.lw x.n.lu x.n.so x.n.sw (rowsOf cArm x.n.arms) x.n.ot x.f.id (x.f.base : Int) x.f.node x.f.off x.f.wid x.t.id (x.t.kind : Int) (rowsOf cInt x.t.keys) x.t.cap x.t.miss x.e.tab x.e.key x.e.oth x.e.len x.e.prio x.e.blk (rowsOf cNat x.e.args) x.e.idle x.e.hard (x.e.cook : Int) x.e.tell x.b.id (rowsOf cInstr x.b.code) x.g.id (x.g.kind : Int) x.g.fld (rowsOf cBucket x.g.bks) x.m.id x.m.rate x.m.burst x.r.id x.r.size (PQ (.bool true))) := by
  refine ⟨?_⟩
  rw [gLaw_eq]
  have e1 : Int.ofNat x.n.arms.length = (x.n.arms.length : Int) := rfl
  have e2 : Int.ofNat x.t.keys.length = (x.t.keys.length : Int) := rfl
  have e3 : Int.ofNat x.e.args.length = (x.e.args.length : Int) := rfl
  have e4 : Int.ofNat x.b.code.length = (x.b.code.length : Int) := rfl
  have e5 : Int.ofNat x.g.bks.length = (x.g.bks.length : Int) := rfl
  refine n_dlen x.n.arms.length (rowsOf_len _ _) ?_
  refine n_dlen x.t.keys.length (rowsOf_len _ _) ?_
  refine n_add (by omega) (by omega) ?_
  refine n_dlen x.e.args.length (rowsOf_len _ _) ?_
  refine n_add (by omega) (by omega) ?_
  refine n_dlen x.b.code.length (rowsOf_len _ _) ?_
  refine n_add (by omega) (by omega) ?_
  refine n_dlen x.g.bks.length (rowsOf_len _ _) ?_
  refine n_add (by omega) (by omega) ?_
  refine n_gtr (fun _ => PQ.of rfl rfl) (fun hs => ?_)
  refine n_slen (n_gtr (fun _ => PQ.of rfl rfl) (fun _ => ?_))
  refine n_slen (n_gtr (fun _ => PQ.of rfl rfl) (fun _ => ?_))
  have h1 : x.n.arms.length ≤ 400 := by omega
  have h2 : x.t.keys.length ≤ 400 := by omega
  have h3 : x.e.args.length ≤ 400 := by omega
  have h4 : x.b.code.length ≤ 400 := by omega
  have h5 : x.g.bks.length ≤ 400 := by omega
  have hok := wfMsg_ok x h1 h2 h3 h4 h5 we wb wg
  exact ⟨x, rfl, ⟨h1, h2, h3, h4, h5⟩, ⟨x, 0, rfl, hok, rfl, by omega, x, 0, rfl, hok, rfl, by omega, b_ne (s_ne (c_ne (⟨x, 1, rfl, hok, rfl, by omega, x, 1, rfl, hok, rfl, by omega, b_ne (s_ne (c_ne (⟨x, 2, rfl, hok, rfl, by omega, x, 2, rfl, hok, rfl, by omega, b_ne (s_ne (c_ne (⟨x, 3, rfl, hok, rfl, by omega, x, 3, rfl, hok, rfl, by omega, b_ne (s_ne (c_ne (⟨x, 4, rfl, hok, rfl, by omega, x, 4, rfl, hok, rfl, by omega, b_ne (s_ne (c_ne (⟨x, 5, rfl, hok, rfl, by omega, x, 5, rfl, hok, rfl, by omega, b_ne (s_ne (c_ne (⟨x, 6, rfl, hok, rfl, by omega, x, 6, rfl, hok, rfl, by omega, b_ne (s_ne (c_ne (⟨x, 7, rfl, hok, rfl, by omega, x, 7, rfl, hok, rfl, by omega, b_ne (s_ne (c_ne (⟨x, rfl, rfl, hok, PQ.of rfl rfl⟩)))⟩)))⟩)))⟩)))⟩)))⟩)))⟩)))⟩)))⟩⟩
theorem lawH (x : OMsg) (b1 : x.n.arms.length ≤ 140737488355328) (b2 : x.t.keys.length ≤ 140737488355328) (b3 : x.e.args.length ≤ 140737488355328) (b4 : x.b.code.length ≤ 140737488355328) (b5 : x.g.bks.length ≤ 140737488355328) (we : wfEntry x.e) (wb : wfBlock x.b) (wg : wfGroup x.g) (B : Base) (H : Heap) :
    CallH Tryz.prog 100 B 3 [vMsg x] H (.returned (.bool true)) H :=
  pu_mk okp (kn_pu (fun y hy => by
    simp only [List.mem_cons, List.not_mem_nil, or_false] at hy
    rcases hy with rfl | rfl | rfl | rfl | rfl
    · exact pu9
    · exact pu10
    · exact pu11
    · exact pu12
    · exact pu13)) lp_none rfl rfl (lawC x b1 b2 b3 b4 b5 we wb wg) B H
end
end Go.Proofs.YtblbaohcelldpaaGreat.Ob
