/- May it be said: what the code comes to, program and reference. -/
import Derived.Test.YtblbaohcelldpaaGreatT7
namespace Go.Tlv
open Go Go.Abs
def cNat (n : Nat) : List Value := [.int .u64 (n : Int)]
structure ONode where
  id : Int
  size : Int
  lo : Int
  lw : Int
  lu : Int
  so : Int
  sw : Int
  arms : List Arm
  ot : Int
def vNode (x : ONode) : Value := .agg ⟨[.int .i64 x.id, .int .i64 x.size, .int .i64 x.lo, .int .i64 x.lw, .int .i64 x.lu, .int .i64 x.so, .int .i64 x.sw, dsl (rowsOf cArm x.arms), .int .i64 x.ot]⟩
def mayNode (x : ONode) : Bool := [x.id, x.size, x.lo, x.lw, x.lu, x.so, x.sw, x.ot].all okI && (decide ((x.arms.length : Int) ≤ 32) && !x.arms.any pArm)
def fitNode (x : ONode) : Prop := x.arms.length < 1000000000
structure OField where
  id : Int
  base : Nat
  node : Int
  off : Int
  wid : Int
def vField (x : OField) : Value := .agg ⟨[.int .i64 x.id, .int .u8 (x.base : Int), .int .i64 x.node, .int .i64 x.off, .int .i64 x.wid]⟩
def mayField (x : OField) : Bool := [x.id, x.node, x.off, x.wid].all okI
def fitField (_x : OField) : Prop := True
structure OTable where
  id : Int
  kind : Nat
  keys : List Int
  cap : Int
  miss : Int
def vTable (x : OTable) : Value := .agg ⟨[.int .i64 x.id, .int .u8 (x.kind : Int), dsl (rowsOf cInt x.keys), .int .i64 x.cap, .int .i64 x.miss]⟩
def mayTable (x : OTable) : Bool := [x.id, x.cap, x.miss].all okI && (decide ((x.keys.length : Int) ≤ 4) && x.keys.all okI)
def fitTable (x : OTable) : Prop := x.keys.length < 1000000000
structure OEntry where
  tab : Int
  key : ByteArray
  oth : ByteArray
  len : Int
  prio : Int
  blk : Int
  args : List Nat
  idle : Int
  hard : Int
  cook : Nat
  tell : Bool
def vEntry (x : OEntry) : Value := .agg ⟨[.int .i64 x.tab, .string x.key, .string x.oth, .int .i64 x.len, .int .i64 x.prio, .int .i64 x.blk, dsl (rowsOf cNat x.args), .int .i64 x.idle, .int .i64 x.hard, .int .u64 (x.cook : Int), .bool x.tell]⟩
def mayEntry (x : OEntry) : Bool := [x.tab, x.len, x.prio, x.blk].all okI && (decide (0 ≤ x.idle) && (decide (0 ≤ x.hard) && (decide ((x.key.data.toList.length : Int) ≤ 32) && (decide ((x.oth.data.toList.length : Int) ≤ 32) && decide ((x.args.length : Int) ≤ 4)))))
def fitEntry (x : OEntry) : Prop := x.args.length < 1000000000
structure OBlock where
  id : Int
  code : List Instr
def vBlock (x : OBlock) : Value := .agg ⟨[.int .i64 x.id, dsl (rowsOf cInstr x.code)]⟩
def mayBlock (x : OBlock) : Bool := [x.id].all okI && (decide ((x.code.length : Int) ≤ 32) && !x.code.any pInstr)
def fitBlock (x : OBlock) : Prop := x.code.length < 1000000000
structure OGroup where
  id : Int
  kind : Nat
  fld : Int
  bks : List Bucket
def vGroup (x : OGroup) : Value := .agg ⟨[.int .i64 x.id, .int .u8 (x.kind : Int), .int .i64 x.fld, dsl (rowsOf cBucket x.bks)]⟩
def mayGroup (x : OGroup) : Bool := [x.id, x.fld].all okI && (decide ((x.bks.length : Int) ≤ 16) && !x.bks.any pBucket)
def fitGroup (x : OGroup) : Prop := x.bks.length < 1000000000
structure OMeter where
  id : Int
  rate : Int
  burst : Int
def vMeter (x : OMeter) : Value := .agg ⟨[.int .i64 x.id, .int .i64 x.rate, .int .i64 x.burst]⟩
def mayMeter (x : OMeter) : Bool := [x.id].all okI && (decide (0 ≤ x.rate) && decide (0 ≤ x.burst))
def fitMeter (_x : OMeter) : Prop := True
structure ORegs where
  id : Int
  size : Int
def vRegs (x : ORegs) : Value := .agg ⟨[.int .i64 x.id, .int .i64 x.size]⟩
def mayRegs (x : ORegs) : Bool := [x.id, x.size].all okI
def fitRegs (_x : ORegs) : Prop := True
theorem okI_any (l : List Int) : (!l.any pInt) = l.all okI := by
  induction l with
  | nil => rfl
  | cons a l ih => simp only [List.any_cons, List.all_cons, ← ih, pInt]; cases okI a <;> simp
end Go.Tlv
namespace Go.Proofs.YtblbaohcelldpaaGreat.Ob
open Go Go.Abs Go.Tlv
set_option linter.unusedVariables false
set_option maxRecDepth 100000
noncomputable section
def MI : Mi where
  own := fun vs K => ∃ ns : List Int, vs = ns.map (fun n => .int .i64 n) ∧ ns.length < big ∧ K (ns.all okI)
  deep := fun rs K => ∃ ns : List Int, rs = rowsOf cInt ns ∧ ns.length < big ∧ K (ns.all okI)
theorem own_mk {ns : List Int} {vs : List Value} {K : Bool → Prop} (h : vs = ns.map (fun n => .int .i64 n)) (hl : ns.length < big) (hk : K (ns.all okI)) : MI.own vs K := ⟨ns, h, hl, hk⟩
theorem deep_mk {ns : List Int} {K : Bool → Prop} (hl : ns.length < big) (hk : K (ns.all okI)) : MI.deep (rowsOf cInt ns) K := ⟨ns, rfl, hl, hk⟩
theorem mc_mk {α : Type} {c : α → List Value} {p : α → Bool} {l : List α} {K : Bool → Prop} (hl : l.length < big) (hk : K (l.any p)) : MC c p (rowsOf c l) K := ⟨l, rfl, hl, hk⟩
theorem flatInt (l : List Int) : flatRows 1 (rowsOf cInt l) = some (l.map fun n => .int .i64 n) := by
  induction l with
  | nil => rfl
  | cons a l ih =>
    show flatRows 1 (.agg ⟨[.int .i64 a]⟩ :: rowsOf cInt l) = _
    simp only [flatRows, ih]; rfl
theorem belowInt (l : List Int) : belowL 0 (l.map fun n => Value.int .i64 n) = true := by
  induction l with
  | nil => rfl
  | cons a l ih => show (true && belowL 0 (l.map fun n => Value.int .i64 n)) = true; rw [ih]; rfl
theorem ints_ok {f : FuncId} (hd : ∀ (ns : List Int), ns.length < big → ∀ B H, CallH Tryz.prog 100 B f [dsl (rowsOf cInt ns)] H (.returned (.bool (ns.all okI))) H) : SumOk Tryz.prog 100 f (sInts MI) := by
  intro args H K h
  unfold sInts at h
  split at h <;> try exact h.elim
  · rename_i b k k'
    split at h <;> try exact h.elim
    rename_i vs e sz lo ow hg
    split at h <;> try exact h.elim
    rename_i hc
    simp only [Bool.and_eq_true] at hc
    obtain ⟨hc1, rfl⟩ := hc
    obtain rfl := Nat.eq_of_beq_eq_true hc1
    obtain ⟨rfl, rfl, ns, rfl, hl, hK⟩ := h
    exact ⟨_, H, fun B => own_deep (pre := []) (post := []) (fun B H => hd ns hl B H) hg (flatInt ns) (belowInt ns) (by omega) (by rw [List.length_map, rowsOf_len]) (Nat.le_refl _) rfl rfl rfl B, hK⟩
  · rename_i t rs
    split at h <;> try exact h.elim
    rename_i e1
    obtain rfl := Nat.eq_of_beq_eq_true e1
    obtain ⟨ns, rfl, hl, hK⟩ := h
    exact ⟨_, H, fun B => hd ns hl B H, hK⟩
theorem intsC (ns : List Int) (hl : ns.length < big) : Is (gInts (real Tryz.prog) (MC cInt pInt) (rowsOf cInt ns) (PQ (.bool (ns.all okI)))) := by
  refine ⟨?_⟩
  rw [gInts_eq]
  refine mc_mk hl ?_
  exact branch_mk (fun h => PQ.of (by rw [← okI_any, h]; rfl) rfl) (fun h => PQ.of (by rw [← okI_any, h]; rfl) rfl)
theorem ok64 : SumOk Tryz.prog 100 64 (sInts MI) := ints_ok fun ns hl B H =>
  pu_mk okp (kn_pu (fun x hx => by simp only [List.mem_singleton] at hx; subst hx; exact pu116 pu117)) lp_none rfl rfl (intsC ns hl) B H
theorem kn64 : KnOk Tryz.prog 100 (WIn 64 MI) := kn_ok (fun x hx => by simp only [List.mem_singleton] at hx; subst hx; exact ok64) (fun x hx => by cases hx)
theorem p86C (x : Arm) : Is (gP86 (real Tryz.prog) MI (x.v : Int) x.nx (PQ (.bool (pArm x)))) := by
  refine ⟨?_⟩
  rw [gP86_eq]
  exact ⟨rfl, rfl, own_mk (ns := [x.nx]) rfl (by simp [big]) (branch_mk (fun h => PQ.of (by simp_all [pArm]) rfl) (fun h => PQ.of (by simp_all [pArm]) rfl))⟩
theorem p88C (x : Instr) : Is (gP88 (real Tryz.prog) MI (x.op : Int) x.to (x.ak : Int) (x.an : Int) (x.bk : Int) (x.bn : Int) x.n (PQ (.bool (pInstr x)))) := by
  refine ⟨?_⟩
  rw [gP88_eq]
  exact ⟨rfl, rfl, own_mk (ns := [x.to, x.n]) rfl (by simp [big]) (branch_mk (fun h => PQ.of (by cases h1 : okI x.to <;> cases h2 : okI x.n <;> simp_all [pInstr]) rfl) (fun h => PQ.of (by cases h1 : okI x.to <;> cases h2 : okI x.n <;> simp_all [pInstr]) rfl))⟩
theorem p90C (x : Bucket) : Is (gP90 (real Tryz.prog) MI (x.w : Int) x.b (PQ (.bool (pBucket x)))) := by
  refine ⟨?_⟩
  rw [gP90_eq]
  exact ⟨rfl, rfl, own_mk (ns := [x.b]) rfl (by simp [big]) (branch_mk (fun h => PQ.of (by simp_all [pBucket]) rfl) (fun h => PQ.of (by simp_all [pBucket]) rfl))⟩
theorem pu86 : PuOk Tryz.prog 100 86 (sP (PM (fun x : Arm => .agg ⟨cArm x⟩) pArm)) := by
  intro args K h
  unfold sP at h
  split at h <;> try exact h.elim
  obtain ⟨x, rfl, hK⟩ := h
  exact ⟨_, fun B H => pu_mk okp kn64 lp_none rfl rfl (p86C x) B H, hK⟩
theorem pu88 : PuOk Tryz.prog 100 88 (sP (PM (fun x : Instr => .agg ⟨cInstr x⟩) pInstr)) := by
  intro args K h
  unfold sP at h
  split at h <;> try exact h.elim
  obtain ⟨x, rfl, hK⟩ := h
  exact ⟨_, fun B H => pu_mk okp kn64 lp_none rfl rfl (p88C x) B H, hK⟩
theorem pu90 : PuOk Tryz.prog 100 90 (sP (PM (fun x : Bucket => .agg ⟨cBucket x⟩) pBucket)) := by
  intro args K h
  unfold sP at h
  split at h <;> try exact h.elim
  obtain ⟨x, rfl, hK⟩ := h
  exact ⟨_, fun B H => pu_mk okp kn64 lp_none rfl rfl (p90C x) B H, hK⟩
theorem knM (l : PuL) (h : ∀ x ∈ l, PuOk Tryz.prog 100 x.1 x.2) : KnOk Tryz.prog 100 (howOf S0 Sp0 [(64, sInts MI)] [] l []) := kn_ok (fun x hx => by simp only [List.mem_singleton] at hx; subst hx; exact ok64) h
theorem mayNodeC (x : ONode) (hf : fitNode x) : Is (gMayNode (real Tryz.prog) MI (MC cArm pArm) x.id x.size x.lo x.lw x.lu x.so x.sw (rowsOf cArm x.arms) x.ot (PQ (.bool (mayNode x)))) := by
  refine ⟨?_⟩
  rw [gMayNode_eq]
  refine ⟨rfl, rfl, own_mk (ns := [x.id, x.size, x.lo, x.lw, x.lu, x.so, x.sw, x.ot]) rfl (by simp [big]) ?_⟩
  repeat' first
    | refine n_leq (fun _ => ?_) (fun _ => ?_)
    | refine n_geq (fun _ => ?_) (fun _ => ?_)
    | refine n_slen ?_
    | refine branch_mk (fun _ => ?_) (fun _ => ?_)
    | refine mc_mk (by assumption) ?_
    | refine deep_mk (by assumption) ?_
    | refine n_dlen _ (rowsOf_len _ _) ?_
    | (refine PQ.of ?_ rfl; first | (simp_all [mayNode]; done) | (simp_all [mayNode] <;> intros <;> omega))
theorem mayNodeH (x : ONode) (hf : fitNode x) (B : Base) (H : Heap) : CallH Tryz.prog 100 B 25 [vNode x] H (.returned (.bool (mayNode x))) H :=
  pu_mk okp (knM _ (fun x hx => by simp only [List.mem_singleton] at hx; subst hx; exact pu85 pu86)) lp_none rfl rfl (mayNodeC x hf) B H
theorem mayFieldC (x : OField) (hf : fitField x) : Is (gMayField (real Tryz.prog) MI (MC cArm pArm) x.id (x.base : Int) x.node x.off x.wid (PQ (.bool (mayField x)))) := by
  refine ⟨?_⟩
  rw [gMayField_eq]
  refine ⟨rfl, rfl, own_mk (ns := [x.id, x.node, x.off, x.wid]) rfl (by simp [big]) ?_⟩
  repeat' first
    | refine n_leq (fun _ => ?_) (fun _ => ?_)
    | refine n_geq (fun _ => ?_) (fun _ => ?_)
    | refine n_slen ?_
    | refine branch_mk (fun _ => ?_) (fun _ => ?_)
    | refine mc_mk (by assumption) ?_
    | refine deep_mk (by assumption) ?_
    | refine n_dlen _ (rowsOf_len _ _) ?_
    | (refine PQ.of ?_ rfl; first | (simp_all [mayField]; done) | (simp_all [mayField] <;> intros <;> omega))
theorem mayFieldH (x : OField) (hf : fitField x) (B : Base) (H : Heap) : CallH Tryz.prog 100 B 26 [vField x] H (.returned (.bool (mayField x))) H :=
  pu_mk okp (knM _ (fun x hx => by cases hx)) lp_none rfl rfl (mayFieldC x hf) B H
theorem mayTableC (x : OTable) (hf : fitTable x) : Is (gMayTable (real Tryz.prog) MI (MC cArm pArm) x.id (x.kind : Int) (rowsOf cInt x.keys) x.cap x.miss (PQ (.bool (mayTable x)))) := by
  refine ⟨?_⟩
  rw [gMayTable_eq]
  refine ⟨rfl, rfl, own_mk (ns := [x.id, x.cap, x.miss]) rfl (by simp [big]) ?_⟩
  repeat' first
    | refine n_leq (fun _ => ?_) (fun _ => ?_)
    | refine n_geq (fun _ => ?_) (fun _ => ?_)
    | refine n_slen ?_
    | refine branch_mk (fun _ => ?_) (fun _ => ?_)
    | refine mc_mk (by assumption) ?_
    | refine deep_mk (by assumption) ?_
    | refine n_dlen _ (rowsOf_len _ _) ?_
    | (refine PQ.of ?_ rfl; first | (simp_all [mayTable]; done) | (simp_all [mayTable] <;> intros <;> omega))
theorem mayTableH (x : OTable) (hf : fitTable x) (B : Base) (H : Heap) : CallH Tryz.prog 100 B 27 [vTable x] H (.returned (.bool (mayTable x))) H :=
  pu_mk okp (knM _ (fun x hx => by cases hx)) lp_none rfl rfl (mayTableC x hf) B H
theorem mayEntryC (x : OEntry) (hf : fitEntry x) : Is (gMayEntry (real Tryz.prog) MI (MC cArm pArm) x.tab x.key x.oth x.len x.prio x.blk (rowsOf cNat x.args) x.idle x.hard (x.cook : Int) x.tell (PQ (.bool (mayEntry x)))) := by
  refine ⟨?_⟩
  rw [gMayEntry_eq]
  refine ⟨rfl, rfl, own_mk (ns := [x.tab, x.len, x.prio, x.blk]) rfl (by simp [big]) ?_⟩
  repeat' first
    | refine n_leq (fun _ => ?_) (fun _ => ?_)
    | refine n_geq (fun _ => ?_) (fun _ => ?_)
    | refine n_slen ?_
    | refine branch_mk (fun _ => ?_) (fun _ => ?_)
    | refine mc_mk (by assumption) ?_
    | refine deep_mk (by assumption) ?_
    | refine n_dlen _ (rowsOf_len _ _) ?_
    | (refine PQ.of ?_ rfl; first | (simp_all [mayEntry]; done) | (simp_all [mayEntry] <;> intros <;> omega))
theorem mayEntryH (x : OEntry) (hf : fitEntry x) (B : Base) (H : Heap) : CallH Tryz.prog 100 B 16 [vEntry x] H (.returned (.bool (mayEntry x))) H :=
  pu_mk okp (knM _ (fun x hx => by cases hx)) lp_none rfl rfl (mayEntryC x hf) B H
theorem mayBlockC (x : OBlock) (hf : fitBlock x) : Is (gMayBlock (real Tryz.prog) MI (MC cInstr pInstr) x.id (rowsOf cInstr x.code) (PQ (.bool (mayBlock x)))) := by
  refine ⟨?_⟩
  rw [gMayBlock_eq]
  refine ⟨rfl, rfl, own_mk (ns := [x.id]) rfl (by simp [big]) ?_⟩
  repeat' first
    | refine n_leq (fun _ => ?_) (fun _ => ?_)
    | refine n_geq (fun _ => ?_) (fun _ => ?_)
    | refine n_slen ?_
    | refine branch_mk (fun _ => ?_) (fun _ => ?_)
    | refine mc_mk (by assumption) ?_
    | refine deep_mk (by assumption) ?_
    | refine n_dlen _ (rowsOf_len _ _) ?_
    | (refine PQ.of ?_ rfl; first | (simp_all [mayBlock]; done) | (simp_all [mayBlock] <;> intros <;> omega))
theorem mayBlockH (x : OBlock) (hf : fitBlock x) (B : Base) (H : Heap) : CallH Tryz.prog 100 B 28 [vBlock x] H (.returned (.bool (mayBlock x))) H :=
  pu_mk okp (knM _ (fun x hx => by simp only [List.mem_singleton] at hx; subst hx; exact pu87 pu88)) lp_none rfl rfl (mayBlockC x hf) B H
theorem mayGroupC (x : OGroup) (hf : fitGroup x) : Is (gMayGroup (real Tryz.prog) MI (MC cBucket pBucket) x.id (x.kind : Int) x.fld (rowsOf cBucket x.bks) (PQ (.bool (mayGroup x)))) := by
  refine ⟨?_⟩
  rw [gMayGroup_eq]
  refine ⟨rfl, rfl, own_mk (ns := [x.id, x.fld]) rfl (by simp [big]) ?_⟩
  repeat' first
    | refine n_leq (fun _ => ?_) (fun _ => ?_)
    | refine n_geq (fun _ => ?_) (fun _ => ?_)
    | refine n_slen ?_
    | refine branch_mk (fun _ => ?_) (fun _ => ?_)
    | refine mc_mk (by assumption) ?_
    | refine deep_mk (by assumption) ?_
    | refine n_dlen _ (rowsOf_len _ _) ?_
    | (refine PQ.of ?_ rfl; first | (simp_all [mayGroup]; done) | (simp_all [mayGroup] <;> intros <;> omega))
theorem mayGroupH (x : OGroup) (hf : fitGroup x) (B : Base) (H : Heap) : CallH Tryz.prog 100 B 29 [vGroup x] H (.returned (.bool (mayGroup x))) H :=
  pu_mk okp (knM _ (fun x hx => by simp only [List.mem_singleton] at hx; subst hx; exact pu89 pu90)) lp_none rfl rfl (mayGroupC x hf) B H
theorem mayMeterC (x : OMeter) (hf : fitMeter x) : Is (gMayMeter (real Tryz.prog) MI (MC cArm pArm) x.id x.rate x.burst (PQ (.bool (mayMeter x)))) := by
  refine ⟨?_⟩
  rw [gMayMeter_eq]
  refine ⟨rfl, rfl, own_mk (ns := [x.id]) rfl (by simp [big]) ?_⟩
  repeat' first
    | refine n_leq (fun _ => ?_) (fun _ => ?_)
    | refine n_geq (fun _ => ?_) (fun _ => ?_)
    | refine n_slen ?_
    | refine branch_mk (fun _ => ?_) (fun _ => ?_)
    | refine mc_mk (by assumption) ?_
    | refine deep_mk (by assumption) ?_
    | refine n_dlen _ (rowsOf_len _ _) ?_
    | (refine PQ.of ?_ rfl; first | (simp_all [mayMeter]; done) | (simp_all [mayMeter] <;> intros <;> omega))
theorem mayMeterH (x : OMeter) (hf : fitMeter x) (B : Base) (H : Heap) : CallH Tryz.prog 100 B 30 [vMeter x] H (.returned (.bool (mayMeter x))) H :=
  pu_mk okp (knM _ (fun x hx => by cases hx)) lp_none rfl rfl (mayMeterC x hf) B H
theorem mayRegsC (x : ORegs) (hf : fitRegs x) : Is (gMayRegs (real Tryz.prog) MI (MC cArm pArm) x.id x.size (PQ (.bool (mayRegs x)))) := by
  refine ⟨?_⟩
  rw [gMayRegs_eq]
  refine ⟨rfl, rfl, own_mk (ns := [x.id, x.size]) rfl (by simp [big]) ?_⟩
  repeat' first
    | refine n_leq (fun _ => ?_) (fun _ => ?_)
    | refine n_geq (fun _ => ?_) (fun _ => ?_)
    | refine n_slen ?_
    | refine branch_mk (fun _ => ?_) (fun _ => ?_)
    | refine mc_mk (by assumption) ?_
    | refine deep_mk (by assumption) ?_
    | refine n_dlen _ (rowsOf_len _ _) ?_
    | (refine PQ.of ?_ rfl; first | (simp_all [mayRegs]; done) | (simp_all [mayRegs] <;> intros <;> omega))
theorem mayRegsH (x : ORegs) (hf : fitRegs x) (B : Base) (H : Heap) : CallH Tryz.prog 100 B 31 [vRegs x] H (.returned (.bool (mayRegs x))) H :=
  pu_mk okp (knM _ (fun x hx => by cases hx)) lp_none rfl rfl (mayRegsC x hf) B H
end
end Go.Proofs.YtblbaohcelldpaaGreat.Ob
/- May it be said: what the reference comes to. -/
namespace Go.Proofs.YtblbaohcelldpaaGreat.Ob
open Go Go.Abs Go.Tlv
set_option linter.unusedVariables false
set_option maxRecDepth 100000
noncomputable section
def RIr {α : Type} (l : List α) (p : α → Bool) (e : Exit) (v : List Value) (o : List (Option AObj)) : Prop :=
  (l.any p = true ∧ e = .ret ∧ v = [.bool false] ∧ o = []) ∨ (l.any p = false ∧ e = .exit 0 ∧ v = [top] ∧ o = [])
def IIr (l : List Int) (i : InvI l pInt) : List Value × List (Option AObj) := ([dsl (rowsOf cInt l), .int .i64 (i.1 : Int)], [])
theorem pInt_lo {n : Int} (h : n < 0) : pInt n = true := by simp [pInt, okI]; omega
theorem pInt_hi {n : Int} (h : 2147483647 < n) : pInt n = true := by simp [pInt, okI]; omega
theorem pInt_ok {n : Int} (h : ¬ n < 0) (h2 : ¬ 2147483647 < n) : pInt n = false := by simp [pInt, okI]; omega
theorem rndRInt (l : List Int) (hl : l.length < big) (i : InvI l pInt) :
    Is (wpe Tryz.prog (real Tryz.prog) (howOf S0 Sp0 [] [] [] []) 300 (.code false (loopIn Tryz.prog 100 2) (stOf 100 22 [0, 3] [] (IIr l i))) (roundQ 100 [0, 3] [2] 22 []
      (fun vals objs => ∃ a' : InvI l pInt, l.length - a'.1 < l.length - i.1 ∧ Wk 100 (100 + 0) vals objs (IIr l a').1 (IIr l a').2 ∧ ∀ e v o, RIr l pInt e v o → RIr l pInt e v o)
      (fun e vals objs => ∃ v o, Wk 100 (100 + 0) vals objs v o ∧ RIr l pInt e v o))) := by
  refine ⟨?_⟩
  obtain ⟨i, hi, ha⟩ := i
  show gRIntsR (real Tryz.prog) (rowsOf cInt l) (i : Int) _ _
  rw [gRIntsR_eq]
  have hbig : big = 1000000000 := rfl
  refine n_dlen l.length (rowsOf_len _ _) (n_ltN (fun hlt => ?_) (fun hge => ?_))
  · have hx : l[i]? = some l[i] := by simp [hlt]
    generalize l[i] = x at hx
    refine n_dget i rfl (rowsOf_get hx) rfl (n_rdI rfl (n_lss (fun hp => ⟨rfl, _, _, Wk.refl _ _ _ _, .inl ⟨any_of hx (pInt_lo hp), rfl, rfl, rfl⟩⟩) (fun hp => n_dget i rfl (rowsOf_get hx) rfl (n_rdI rfl (n_gtr (fun hp => ⟨rfl, _, _, Wk.refl _ _ _ _, .inl ⟨any_of hx (pInt_hi hp), rfl, rfl, rfl⟩⟩) (fun hp2 => n_inc (by omega) ⟨rfl, ⟨i + 1, hlt, any_take hx ha (pInt_ok hp hp2)⟩, ?_, Wk.refl _ _ _ _, fun _ _ _ h => h⟩))))))
    show l.length - (i + 1) < l.length - i
    omega
  · have e : i = l.length := by omega
    subst e
    rw [List.take_length] at ha
    exact ⟨rfl, _, _, Wk.refl _ _ _ _, .inr ⟨ha, rfl, rfl, rfl⟩⟩
def LRi : LRt := fun code n vals obs A E => ∃ l : List Int, l.length < big ∧ code = loopIn Tryz.prog 100 2 ∧ n = 22 ∧ vals = [dsl (rowsOf cInt l), .int .i64 (0 : Int)] ∧ obs = [] ∧ (l.any pInt = true → A) ∧ (l.any pInt = false → E)
theorem lpRi : LoopOk Tryz.prog 100 [0, 3] (sLoopR LRi) := by
  show LoopOk Tryz.prog 100 [0, 3] (lpS [2] _)
  refine lp_mk okp (W := howOf S0 Sp0 [] [] [] []) kn_none lp_none ?_
  rintro c n vals obs K ⟨l, hl, hc, hn, hv, ho, hA, hE⟩
  subst hc; subst hn; subst hv; subst ho
  refine ⟨InvI l pInt, 0, 300, fun a => l.length - a.1, IIr l, fun _ e v o => RIr l pInt e v o, ⟨0, Nat.zero_le _, rfl⟩, rfl, Wk.refl _ _ _ _, ?_, rndRInt l hl⟩
  intro e v o hR
  rcases hR with ⟨h1, rfl, rfl, rfl⟩ | ⟨h1, rfl, rfl, rfl⟩
  · exact hA h1
  · exact hE h1
theorem rIntsC (ns : List Int) (hl : ns.length < big) : Is (gRInts (real Tryz.prog) LRi (rowsOf cInt ns) (PQ (.bool (ns.all okI)))) := by
  refine ⟨?_⟩
  rw [gRInts_eq]
  exact ⟨ns, hl, rfl, rfl, rfl, rfl, fun h => PQ.of (by rw [← okI_any, h]; rfl) rfl, fun h => PQ.of (by rw [← okI_any, h]; rfl) rfl⟩
theorem ok100 : SumOk Tryz.prog 100 100 (sInts MI) := ints_ok fun ns hl B H =>
  pu_mk okp kn_none (lp_ok (fun x hx => by simp only [List.mem_singleton] at hx; subst hx; exact lpRi)) rfl rfl (rIntsC ns hl) B H
theorem kn100 : KnOk Tryz.prog 100 (WIn 100 MI) := kn_ok (fun x hx => by simp only [List.mem_singleton] at hx; subst hx; exact ok100) (fun x hx => by cases hx)
abbrev pX : Value := .pointer (some ⟨100, 0, none⟩)
def RX {α : Type} (l : List α) (p : α → Bool) (ob : AObj) (e : Exit) (v : List Value) (o : List (Option AObj)) : Prop :=
  (l.any p = true ∧ e = .ret ∧ v = [top, .bool false] ∧ o = [none]) ∨ (l.any p = false ∧ e = .exit 0 ∧ v = [pX, top] ∧ o = [some ob])
def IX {α : Type} (l : List α) (p : α → Bool) (ob : AObj) (i : InvI l p) : List Value × List (Option AObj) := ([pX, .int .i64 (i.1 : Int)], [some ob])
def LXr {α : Type} (p : α → Bool) (f N : Nat) (l : List α) (ob : AObj) : LXt := fun code n vals obs A E => code = loopIn Tryz.prog f 2 ∧ n = N ∧ vals = [pX, .int .i64 (0 : Int)] ∧ obs = [some ob] ∧ (l.any p = true → A) ∧ (l.any p = false → E)
theorem wk_retX {x : Value} {b : Bool} {o : Option AObj} {extra : List (Option AObj)} : Wk 100 (100 + 1) [x, .bool b] (o :: extra) [top, .bool b] [none] :=
  (wk_weak (objs' := none :: extra) (.cons (.top _) (.cons (.refl _) .nil)) (.cons (.none _) (WeakOs.refl _))).trans (wk_drop (pre := [none]) rfl rfl (fun i o h => by cases i <;> simp at h))
theorem wk_backX {vals : List Value} {ob : AObj} {extra : List (Option AObj)} (hv : belowL (100 + 1) vals = true) (ho : belowO (100 + 1) (some ob) = true) : Wk 100 (100 + 1) vals (some ob :: extra) vals [some ob] :=
  wk_drop (pre := [some ob]) rfl hv (fun i o h => by
    cases i with
    | zero => simp only [List.getElem?_cons_zero, Option.some.injEq] at h; subst h; exact ho
    | succ i => simp at h)
def obNode (x : ONode) : AObj := .cells [.int .i64 x.id, .int .i64 x.size, .int .i64 x.lo, .int .i64 x.lw, .int .i64 x.lu, .int .i64 x.so, .int .i64 x.sw, dsl (rowsOf cArm x.arms), .int .i64 x.ot] 27 9 false true
theorem rndRNode (x : ONode) (hf : fitNode x) (i : InvI x.arms pArm) :
    Is (wpe Tryz.prog (real Tryz.prog) (WIn 100 MI) 300 (.code false (loopIn Tryz.prog 37 2) (stOf 100 44 [1, 3] [] (IX x.arms pArm (obNode x) i))) (roundQ 100 [1, 3] [1, 2] 44 []
      (fun vals objs => ∃ a' : InvI x.arms pArm, x.arms.length - a'.1 < x.arms.length - i.1 ∧ Wk 100 (100 + 1) vals objs (IX x.arms pArm (obNode x) a').1 (IX x.arms pArm (obNode x) a').2 ∧ ∀ e v o, RX x.arms pArm (obNode x) e v o → RX x.arms pArm (obNode x) e v o)
      (fun e vals objs => ∃ v o, Wk 100 (100 + 1) vals objs v o ∧ RX x.arms pArm (obNode x) e v o))) := by
  refine ⟨?_⟩
  obtain ⟨i, hi, ha⟩ := i
  show gRMayNodeR (real Tryz.prog) MI x.id x.size x.lo x.lw x.lu x.so x.sw (rowsOf cArm x.arms) x.ot (i : Int) _ _
  rw [gRMayNodeR_eq]
  have hf' : x.arms.length < 1000000000 := hf
  refine n_dlen x.arms.length (rowsOf_len _ _) (n_ltN (fun hlt => ?_) (fun hge => ?_))
  · have hy : x.arms[i]? = some x.arms[i] := by simp [hlt]
    generalize x.arms[i] = y at hy
    refine n_dget i rfl (rowsOf_get hy) rfl (n_rdI rfl (n_rdI rfl (⟨rfl, rfl, own_mk (ns := [y.nx]) rfl (by simp [big]) (branch_mk (fun hp => n_inc (by omega) ⟨rfl, ⟨i + 1, hlt, any_take hy ha ?_⟩, ?_, wk_backX rfl rfl, fun _ _ _ h => h⟩) (fun hp => ⟨rfl, _, _, wk_retX, .inl ⟨any_of hy ?_, rfl, rfl, rfl⟩⟩))⟩)))
    · simp_all [pArm]
    · show x.arms.length - (i + 1) < x.arms.length - i
      omega
    · first | (simp_all [pArm]; done) | (cases h1 : okI y.to <;> cases h2 : okI y.n <;> simp_all [pArm])
  · have e : i = x.arms.length := by omega
    subst e
    rw [List.take_length] at ha
    exact ⟨rfl, _, _, Wk.refl _ _ _ _, .inr ⟨ha, rfl, rfl, rfl⟩⟩
theorem lpRNode (x : ONode) (hf : fitNode x) : LoopOk Tryz.prog 100 [1, 3] (sLoopX (LXr pArm 37 44 x.arms (obNode x))) := by
  show LoopOk Tryz.prog 100 [1, 3] (lpS [1, 2] _)
  refine lp_mk okp (W := WIn 100 MI) kn100 lp_none ?_
  rintro c n vals obs K ⟨hc, hn, hv, ho, hA, hE⟩
  subst hc; subst hn; subst hv; subst ho
  refine ⟨InvI x.arms pArm, 1, 300, fun a => x.arms.length - a.1, IX x.arms pArm (obNode x), fun _ e v o => RX x.arms pArm (obNode x) e v o, ⟨0, Nat.zero_le _, rfl⟩, rfl, Wk.refl _ _ _ _, ?_, rndRNode x hf⟩
  intro e v o hR
  rcases hR with ⟨h1, rfl, rfl, rfl⟩ | ⟨h1, rfl, rfl, rfl⟩
  · exact hA h1
  · exact hE h1
theorem rmayNodeC (x : ONode) (hf : fitNode x) : Is (gRMayNode (real Tryz.prog) MI (LXr pArm 37 44 x.arms (obNode x)) x.id x.size x.lo x.lw x.lu x.so x.sw (rowsOf cArm x.arms) x.ot (PQ (.bool (mayNode x)))) := by
  refine ⟨?_⟩
  rw [gRMayNode_eq]
  refine ⟨rfl, rfl, rfl, rfl, fun h => ?_, fun h => ⟨rfl, rfl, own_mk (ns := [x.id, x.size, x.lo, x.lw, x.lu, x.so, x.sw, x.ot]) rfl (by simp [big]) ?_⟩⟩
  · refine PQ.of ?_ rfl
    unfold mayNode
    rw [h]; simp
  repeat' first
    | refine n_leq (fun _ => ?_) (fun _ => ?_)
    | refine n_geq (fun _ => ?_) (fun _ => ?_)
    | refine n_slen ?_
    | refine branch_mk (fun _ => ?_) (fun _ => ?_)
    | refine deep_mk (by assumption) ?_
    | refine n_dlen _ (rowsOf_len _ _) ?_
    | (refine PQ.of ?_ rfl; first | (simp_all [mayNode]; done) | (simp_all [mayNode] <;> intros <;> omega))
theorem rmayNodeH (x : ONode) (hf : fitNode x) (B : Base) (H : Heap) : CallH Tryz.prog 100 B 37 [vNode x] H (.returned (.bool (mayNode x))) H :=
  pu_mk okp (kn_ok (fun x hx => by simp only [List.mem_singleton] at hx; subst hx; exact ok100) (fun x hx => by cases hx)) (lp_ok (fun y hy => by simp only [List.mem_singleton] at hy; subst hy; exact lpRNode x hf)) rfl rfl (rmayNodeC x hf) B H
theorem rmayFieldC (x : OField) (hf : fitField x) : Is (gRMayField (real Tryz.prog) MI x.id (x.base : Int) x.node x.off x.wid (PQ (.bool (mayField x)))) := by
  refine ⟨?_⟩
  rw [gRMayField_eq]
  refine ⟨rfl, rfl, own_mk (ns := [x.id, x.node, x.off, x.wid]) rfl (by simp [big]) ?_⟩
  repeat' first
    | refine n_leq (fun _ => ?_) (fun _ => ?_)
    | refine n_geq (fun _ => ?_) (fun _ => ?_)
    | refine n_slen ?_
    | refine branch_mk (fun _ => ?_) (fun _ => ?_)
    | refine deep_mk (by assumption) ?_
    | refine n_dlen _ (rowsOf_len _ _) ?_
    | (refine PQ.of ?_ rfl; first | (simp_all [mayField]; done) | (simp_all [mayField] <;> intros <;> omega))
theorem rmayFieldH (x : OField) (hf : fitField x) (B : Base) (H : Heap) : CallH Tryz.prog 100 B 38 [vField x] H (.returned (.bool (mayField x))) H :=
  pu_mk okp kn100 lp_none rfl rfl (rmayFieldC x hf) B H
theorem rmayTableC (x : OTable) (hf : fitTable x) : Is (gRMayTable (real Tryz.prog) MI x.id (x.kind : Int) (rowsOf cInt x.keys) x.cap x.miss (PQ (.bool (mayTable x)))) := by
  refine ⟨?_⟩
  rw [gRMayTable_eq]
  refine ⟨rfl, rfl, own_mk (ns := [x.id, x.cap, x.miss]) rfl (by simp [big]) ?_⟩
  repeat' first
    | refine n_leq (fun _ => ?_) (fun _ => ?_)
    | refine n_geq (fun _ => ?_) (fun _ => ?_)
    | refine n_slen ?_
    | refine branch_mk (fun _ => ?_) (fun _ => ?_)
    | refine deep_mk (by assumption) ?_
    | refine n_dlen _ (rowsOf_len _ _) ?_
    | (refine PQ.of ?_ rfl; first | (simp_all [mayTable]; done) | (simp_all [mayTable] <;> intros <;> omega))
theorem rmayTableH (x : OTable) (hf : fitTable x) (B : Base) (H : Heap) : CallH Tryz.prog 100 B 39 [vTable x] H (.returned (.bool (mayTable x))) H :=
  pu_mk okp kn100 lp_none rfl rfl (rmayTableC x hf) B H
theorem rmayEntryC (x : OEntry) (hf : fitEntry x) : Is (gRMayEntry (real Tryz.prog) MI x.tab x.key x.oth x.len x.prio x.blk (rowsOf cNat x.args) x.idle x.hard (x.cook : Int) x.tell (PQ (.bool (mayEntry x)))) := by
  refine ⟨?_⟩
  rw [gRMayEntry_eq]
  refine ⟨rfl, rfl, own_mk (ns := [x.tab, x.len, x.prio, x.blk]) rfl (by simp [big]) ?_⟩
  repeat' first
    | refine n_leq (fun _ => ?_) (fun _ => ?_)
    | refine n_geq (fun _ => ?_) (fun _ => ?_)
    | refine n_slen ?_
    | refine branch_mk (fun _ => ?_) (fun _ => ?_)
    | refine deep_mk (by assumption) ?_
    | refine n_dlen _ (rowsOf_len _ _) ?_
    | (refine PQ.of ?_ rfl; first | (simp_all [mayEntry]; done) | (simp_all [mayEntry] <;> intros <;> omega))
theorem rmayEntryH (x : OEntry) (hf : fitEntry x) (B : Base) (H : Heap) : CallH Tryz.prog 100 B 40 [vEntry x] H (.returned (.bool (mayEntry x))) H :=
  pu_mk okp kn100 lp_none rfl rfl (rmayEntryC x hf) B H
def obBlock (x : OBlock) : AObj := .cells [.int .i64 x.id, dsl (rowsOf cInstr x.code)] 37 2 false true
theorem rndRBlock (x : OBlock) (hf : fitBlock x) (i : InvI x.code pInstr) :
    Is (wpe Tryz.prog (real Tryz.prog) (WIn 100 MI) 300 (.code false (loopIn Tryz.prog 41 2) (stOf 100 36 [1, 3] [] (IX x.code pInstr (obBlock x) i))) (roundQ 100 [1, 3] [1, 2] 36 []
      (fun vals objs => ∃ a' : InvI x.code pInstr, x.code.length - a'.1 < x.code.length - i.1 ∧ Wk 100 (100 + 1) vals objs (IX x.code pInstr (obBlock x) a').1 (IX x.code pInstr (obBlock x) a').2 ∧ ∀ e v o, RX x.code pInstr (obBlock x) e v o → RX x.code pInstr (obBlock x) e v o)
      (fun e vals objs => ∃ v o, Wk 100 (100 + 1) vals objs v o ∧ RX x.code pInstr (obBlock x) e v o))) := by
  refine ⟨?_⟩
  obtain ⟨i, hi, ha⟩ := i
  show gRMayBlockR (real Tryz.prog) MI x.id (rowsOf cInstr x.code) (i : Int) _ _
  rw [gRMayBlockR_eq]
  have hf' : x.code.length < 1000000000 := hf
  refine n_dlen x.code.length (rowsOf_len _ _) (n_ltN (fun hlt => ?_) (fun hge => ?_))
  · have hy : x.code[i]? = some x.code[i] := by simp [hlt]
    generalize x.code[i] = y at hy
    refine n_dget i rfl (rowsOf_get hy) rfl (n_rdI rfl (n_rdI rfl (n_rdI rfl (n_rdI rfl (n_rdI rfl (n_rdI rfl (n_rdI rfl (n_dget i rfl (rowsOf_get hy) rfl (n_rdI rfl (n_rdI rfl (n_rdI rfl (n_rdI rfl (n_rdI rfl (n_rdI rfl (n_rdI rfl (⟨rfl, rfl, own_mk (ns := [y.to, y.n]) rfl (by simp [big]) (branch_mk (fun hp => n_inc (by omega) ⟨rfl, ⟨i + 1, hlt, any_take hy ha ?_⟩, ?_, wk_backX rfl rfl, fun _ _ _ h => h⟩) (fun hp => ⟨rfl, _, _, wk_retX, .inl ⟨any_of hy ?_, rfl, rfl, rfl⟩⟩))⟩))))))))))))))))
    · simp_all [pInstr]
    · show x.code.length - (i + 1) < x.code.length - i
      omega
    · first | (simp_all [pInstr]; done) | (cases h1 : okI y.to <;> cases h2 : okI y.n <;> simp_all [pInstr])
  · have e : i = x.code.length := by omega
    subst e
    rw [List.take_length] at ha
    exact ⟨rfl, _, _, Wk.refl _ _ _ _, .inr ⟨ha, rfl, rfl, rfl⟩⟩
theorem lpRBlock (x : OBlock) (hf : fitBlock x) : LoopOk Tryz.prog 100 [1, 3] (sLoopX (LXr pInstr 41 36 x.code (obBlock x))) := by
  show LoopOk Tryz.prog 100 [1, 3] (lpS [1, 2] _)
  refine lp_mk okp (W := WIn 100 MI) kn100 lp_none ?_
  rintro c n vals obs K ⟨hc, hn, hv, ho, hA, hE⟩
  subst hc; subst hn; subst hv; subst ho
  refine ⟨InvI x.code pInstr, 1, 300, fun a => x.code.length - a.1, IX x.code pInstr (obBlock x), fun _ e v o => RX x.code pInstr (obBlock x) e v o, ⟨0, Nat.zero_le _, rfl⟩, rfl, Wk.refl _ _ _ _, ?_, rndRBlock x hf⟩
  intro e v o hR
  rcases hR with ⟨h1, rfl, rfl, rfl⟩ | ⟨h1, rfl, rfl, rfl⟩
  · exact hA h1
  · exact hE h1
theorem rmayBlockC (x : OBlock) (hf : fitBlock x) : Is (gRMayBlock (real Tryz.prog) MI (LXr pInstr 41 36 x.code (obBlock x)) x.id (rowsOf cInstr x.code) (PQ (.bool (mayBlock x)))) := by
  refine ⟨?_⟩
  rw [gRMayBlock_eq]
  refine ⟨rfl, rfl, rfl, rfl, fun h => ?_, fun h => ⟨rfl, rfl, own_mk (ns := [x.id]) rfl (by simp [big]) ?_⟩⟩
  · refine PQ.of ?_ rfl
    unfold mayBlock
    rw [h]; simp
  repeat' first
    | refine n_leq (fun _ => ?_) (fun _ => ?_)
    | refine n_geq (fun _ => ?_) (fun _ => ?_)
    | refine n_slen ?_
    | refine branch_mk (fun _ => ?_) (fun _ => ?_)
    | refine deep_mk (by assumption) ?_
    | refine n_dlen _ (rowsOf_len _ _) ?_
    | (refine PQ.of ?_ rfl; first | (simp_all [mayBlock]; done) | (simp_all [mayBlock] <;> intros <;> omega))
theorem rmayBlockH (x : OBlock) (hf : fitBlock x) (B : Base) (H : Heap) : CallH Tryz.prog 100 B 41 [vBlock x] H (.returned (.bool (mayBlock x))) H :=
  pu_mk okp (kn_ok (fun x hx => by simp only [List.mem_singleton] at hx; subst hx; exact ok100) (fun x hx => by cases hx)) (lp_ok (fun y hy => by simp only [List.mem_singleton] at hy; subst hy; exact lpRBlock x hf)) rfl rfl (rmayBlockC x hf) B H
def obGroup (x : OGroup) : AObj := .cells [.int .i64 x.id, .int .u8 (x.kind : Int), .int .i64 x.fld, dsl (rowsOf cBucket x.bks)] 40 4 false true
theorem rndRGroup (x : OGroup) (hf : fitGroup x) (i : InvI x.bks pBucket) :
    Is (wpe Tryz.prog (real Tryz.prog) (WIn 100 MI) 300 (.code false (loopIn Tryz.prog 42 2) (stOf 100 32 [1, 3] [] (IX x.bks pBucket (obGroup x) i))) (roundQ 100 [1, 3] [1, 2] 32 []
      (fun vals objs => ∃ a' : InvI x.bks pBucket, x.bks.length - a'.1 < x.bks.length - i.1 ∧ Wk 100 (100 + 1) vals objs (IX x.bks pBucket (obGroup x) a').1 (IX x.bks pBucket (obGroup x) a').2 ∧ ∀ e v o, RX x.bks pBucket (obGroup x) e v o → RX x.bks pBucket (obGroup x) e v o)
      (fun e vals objs => ∃ v o, Wk 100 (100 + 1) vals objs v o ∧ RX x.bks pBucket (obGroup x) e v o))) := by
  refine ⟨?_⟩
  obtain ⟨i, hi, ha⟩ := i
  show gRMayGroupR (real Tryz.prog) MI x.id (x.kind : Int) x.fld (rowsOf cBucket x.bks) (i : Int) _ _
  rw [gRMayGroupR_eq]
  have hf' : x.bks.length < 1000000000 := hf
  refine n_dlen x.bks.length (rowsOf_len _ _) (n_ltN (fun hlt => ?_) (fun hge => ?_))
  · have hy : x.bks[i]? = some x.bks[i] := by simp [hlt]
    generalize x.bks[i] = y at hy
    refine n_dget i rfl (rowsOf_get hy) rfl (n_rdI rfl (n_rdI rfl (⟨rfl, rfl, own_mk (ns := [y.b]) rfl (by simp [big]) (branch_mk (fun hp => n_inc (by omega) ⟨rfl, ⟨i + 1, hlt, any_take hy ha ?_⟩, ?_, wk_backX rfl rfl, fun _ _ _ h => h⟩) (fun hp => ⟨rfl, _, _, wk_retX, .inl ⟨any_of hy ?_, rfl, rfl, rfl⟩⟩))⟩)))
    · simp_all [pBucket]
    · show x.bks.length - (i + 1) < x.bks.length - i
      omega
    · first | (simp_all [pBucket]; done) | (cases h1 : okI y.to <;> cases h2 : okI y.n <;> simp_all [pBucket])
  · have e : i = x.bks.length := by omega
    subst e
    rw [List.take_length] at ha
    exact ⟨rfl, _, _, Wk.refl _ _ _ _, .inr ⟨ha, rfl, rfl, rfl⟩⟩
theorem lpRGroup (x : OGroup) (hf : fitGroup x) : LoopOk Tryz.prog 100 [1, 3] (sLoopX (LXr pBucket 42 32 x.bks (obGroup x))) := by
  show LoopOk Tryz.prog 100 [1, 3] (lpS [1, 2] _)
  refine lp_mk okp (W := WIn 100 MI) kn100 lp_none ?_
  rintro c n vals obs K ⟨hc, hn, hv, ho, hA, hE⟩
  subst hc; subst hn; subst hv; subst ho
  refine ⟨InvI x.bks pBucket, 1, 300, fun a => x.bks.length - a.1, IX x.bks pBucket (obGroup x), fun _ e v o => RX x.bks pBucket (obGroup x) e v o, ⟨0, Nat.zero_le _, rfl⟩, rfl, Wk.refl _ _ _ _, ?_, rndRGroup x hf⟩
  intro e v o hR
  rcases hR with ⟨h1, rfl, rfl, rfl⟩ | ⟨h1, rfl, rfl, rfl⟩
  · exact hA h1
  · exact hE h1
theorem rmayGroupC (x : OGroup) (hf : fitGroup x) : Is (gRMayGroup (real Tryz.prog) MI (LXr pBucket 42 32 x.bks (obGroup x)) x.id (x.kind : Int) x.fld (rowsOf cBucket x.bks) (PQ (.bool (mayGroup x)))) := by
  refine ⟨?_⟩
  rw [gRMayGroup_eq]
  refine ⟨rfl, rfl, rfl, rfl, fun h => ?_, fun h => ⟨rfl, rfl, own_mk (ns := [x.id, x.fld]) rfl (by simp [big]) ?_⟩⟩
  · refine PQ.of ?_ rfl
    unfold mayGroup
    rw [h]; simp
  repeat' first
    | refine n_leq (fun _ => ?_) (fun _ => ?_)
    | refine n_geq (fun _ => ?_) (fun _ => ?_)
    | refine n_slen ?_
    | refine branch_mk (fun _ => ?_) (fun _ => ?_)
    | refine deep_mk (by assumption) ?_
    | refine n_dlen _ (rowsOf_len _ _) ?_
    | (refine PQ.of ?_ rfl; first | (simp_all [mayGroup]; done) | (simp_all [mayGroup] <;> intros <;> omega))
theorem rmayGroupH (x : OGroup) (hf : fitGroup x) (B : Base) (H : Heap) : CallH Tryz.prog 100 B 42 [vGroup x] H (.returned (.bool (mayGroup x))) H :=
  pu_mk okp (kn_ok (fun x hx => by simp only [List.mem_singleton] at hx; subst hx; exact ok100) (fun x hx => by cases hx)) (lp_ok (fun y hy => by simp only [List.mem_singleton] at hy; subst hy; exact lpRGroup x hf)) rfl rfl (rmayGroupC x hf) B H
theorem rmayMeterC (x : OMeter) (hf : fitMeter x) : Is (gRMayMeter (real Tryz.prog) MI x.id x.rate x.burst (PQ (.bool (mayMeter x)))) := by
  refine ⟨?_⟩
  rw [gRMayMeter_eq]
  refine ⟨rfl, rfl, own_mk (ns := [x.id]) rfl (by simp [big]) ?_⟩
  repeat' first
    | refine n_leq (fun _ => ?_) (fun _ => ?_)
    | refine n_geq (fun _ => ?_) (fun _ => ?_)
    | refine n_slen ?_
    | refine branch_mk (fun _ => ?_) (fun _ => ?_)
    | refine deep_mk (by assumption) ?_
    | refine n_dlen _ (rowsOf_len _ _) ?_
    | (refine PQ.of ?_ rfl; first | (simp_all [mayMeter]; done) | (simp_all [mayMeter] <;> intros <;> omega))
theorem rmayMeterH (x : OMeter) (hf : fitMeter x) (B : Base) (H : Heap) : CallH Tryz.prog 100 B 43 [vMeter x] H (.returned (.bool (mayMeter x))) H :=
  pu_mk okp kn100 lp_none rfl rfl (rmayMeterC x hf) B H
theorem rmayRegsC (x : ORegs) (hf : fitRegs x) : Is (gRMayRegs (real Tryz.prog) MI x.id x.size (PQ (.bool (mayRegs x)))) := by
  refine ⟨?_⟩
  rw [gRMayRegs_eq]
  refine ⟨rfl, rfl, own_mk (ns := [x.id, x.size]) rfl (by simp [big]) ?_⟩
  repeat' first
    | refine n_leq (fun _ => ?_) (fun _ => ?_)
    | refine n_geq (fun _ => ?_) (fun _ => ?_)
    | refine n_slen ?_
    | refine branch_mk (fun _ => ?_) (fun _ => ?_)
    | refine deep_mk (by assumption) ?_
    | refine n_dlen _ (rowsOf_len _ _) ?_
    | (refine PQ.of ?_ rfl; first | (simp_all [mayRegs]; done) | (simp_all [mayRegs] <;> intros <;> omega))
theorem rmayRegsH (x : ORegs) (hf : fitRegs x) (B : Base) (H : Heap) : CallH Tryz.prog 100 B 44 [vRegs x] H (.returned (.bool (mayRegs x))) H :=
  pu_mk okp kn100 lp_none rfl rfl (rmayRegsC x hf) B H
end
end Go.Proofs.YtblbaohcelldpaaGreat.Ob
