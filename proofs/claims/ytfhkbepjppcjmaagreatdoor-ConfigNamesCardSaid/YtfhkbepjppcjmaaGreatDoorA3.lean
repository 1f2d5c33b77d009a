/- The operations over the abstract heap, and that a run does what they say. -/
import Derived.Test.YtfhkbepjppcjmaaGreatDoorA2
import GoSem.Dispatch
namespace Go.Abs
open Go
noncomputable section

def pureSem {α : Type} (P : Program) : Sem α → Option α
  | .pure a => some a
  | .program k => pureSem P (k P)
  | .mark _ k => pureSem P k
  | _ => none
theorem pureSem_run {α : Type} (P : Program) : ∀ (s : Sem α) (a : α), pureSem P s = some a → ∀ w, s.run P w = .ok a w
  | .pure x, a, h, w => by simp only [pureSem, Option.some.injEq] at h; subst h; rfl
  | .program k, a, h, w => by simp only [pureSem] at h; simp only [Sem.run]; exact pureSem_run P (k P) a h w
  | .mark m k, a, h, w => by simp only [pureSem] at h; simp only [Sem.run]; exact pureSem_run P k a h w
  | .load .., a, h, w => by simp [pureSem] at h
  | .store .., a, h, w => by simp [pureSem] at h
  | .new .., a, h, w => by simp [pureSem] at h
  | .shape .., a, h, w => by simp [pureSem] at h
  | .freeze .., a, h, w => by simp [pureSem] at h
  | .frozen .., a, h, w => by simp [pureSem] at h
  | .getObj .., a, h, w => by simp [pureSem] at h
  | .setObj .., a, h, w => by simp [pureSem] at h
  | .choose .., a, h, w => by simp [pureSem] at h
  | .sys .., a, h, w => by simp [pureSem] at h
  | .halt .., a, h, w => by simp [pureSem] at h

/-- What stands behind an operation: the value and the heap told, for some names more. -/
def OpOK (P : Program) (G : Nat) (F : Nm) (w0 : Base) (w : World) (s : Sem Value) (v : Value) (H' : Heap) : Prop :=
  ∃ F' v' w', Nm.le F F' ∧ s.run P w = .ok v' w' ∧ VR F' v v' ∧ Rel G F' H' w0 w'

section
variable {P : Program} {G : Nat} {F : Nm} {H : Heap} {w0 : Base} {w : World}

theorem OpOK.pure (R : Rel G F H w0 w) {s : Sem Value} {v : Value} (h : pureSem P s = some v) (hp : plain v = true) : OpOK P G F w0 w s v H :=
  ⟨F, v, w, Nm.le_refl F, pureSem_run P s v h w, (VR.plain_eq _ _ hp).2 rfl, R⟩
theorem OpOK.same (R : Rel G F H w0 w) {s : Sem Value} {v v' : Value} (h : s.run P w = .ok v' w) (hv : VR F v v') : OpOK P G F w0 w s v H :=
  ⟨F, v', w, Nm.le_refl F, h, hv, R⟩

@[simp] theorem run_underlying {t : TypeId} {d : TypeDesc} (h : P.underlying t = some d) (w : World) : (underlying t).run P w = .ok d w := by
  simp [underlying, h]
@[simp] theorem run_typeInfo {t : TypeId} {i : TypeInfo} (h : P.info? t = some i) (w : World) : (typeInfo t).run P w = .ok i w := by
  simp [typeInfo, h]
theorem run_sizeOf {t : TypeId} {i : TypeInfo} (h : P.info? t = some i) (w : World) : (sizeOf t).run P w = .ok i.size w := by
  simp [sizeOf, run_typeInfo h]
def aSize (P : Program) (t : TypeId) : Option Nat := (P.info? t).map (·.size)
theorem run_sizeOf' {t : TypeId} {n : Nat} (h : aSize P t = some n) (w : World) : (sizeOf t).run P w = .ok n w := by
  unfold aSize at h
  cases e : P.info? t with
  | none => rw [e] at h; cases h
  | some i => rw [e] at h; simp only [Option.map_some, Option.some.injEq] at h; rw [run_sizeOf e, h]
def aZero (P : Program) (t : TypeId) : Option Value := (P.info? t).bind (·.zero)
theorem run_zeroValue {t : TypeId} {z : Value} (h : aZero P t = some z) (w : World) : (zeroValue t).run P w = .ok z w := by
  unfold aZero at h
  cases e : P.info? t with
  | none => rw [e] at h; cases h
  | some i => rw [e] at h; simp only [Option.bind_some] at h; simp [zeroValue, run_typeInfo e, h]

def isAggD : TypeDesc → Bool
  | .struct _ | .array _ _ => true
  | _ => false
theorem run_isAgg {t : TypeId} {d : TypeDesc} (h : P.underlying t = some d) (w : World) : (isAgg t).run P w = .ok (isAggD d) w := by
  unfold isAgg; simp only [Sem.run_bind, run_underlying h, Result.andThen_ok]
  cases d <;> rfl

/-! ### Reading -/
def aCell1 (H : Heap) (a : Addr) : Option Value :=
  match a.spot with
  | some _ => none
  | none => match H.get a.block with
    | some (.cells vs _ _ _ _) => vs[a.off]?
    | _ => none
def aLoad (P : Program) (H : Heap) (t : TypeId) (a : Addr) : Option Value :=
  match P.underlying t with
  | none => none
  | some d => match isAggD d with
    | true => match aSize P t with
      | none => none
      | some n => match aCells H a n with
        | none => none
        | some l => some (.agg l.toArray)
    | false => aCell1 H a

theorem aLoad_ok (R : Rel G F H w0 w) {t : TypeId} {a a' : Addr} (ha : AR F a a') {v : Value} (h : aLoad P H t a = some v) :
    ∃ v', (loadVar t a').run P w = .ok v' w ∧ VR F v v' := by
  unfold aLoad at h
  split at h
  · cases h
  · rename_i d hd
    split at h
    · rename_i hagg
      split at h
      · cases h
      · rename_i n hn
        split at h
        · cases h
        · rename_i l hl
          simp only [Option.some.injEq] at h; subst h
          obtain ⟨l', hr, hv⟩ := R.loadCells P ha hl
          refine ⟨.agg l'.toArray, ?_, ?_⟩
          · simp [loadVar, run_isAgg hd, hagg, run_sizeOf' hn, hr]
          · simp only [VR]; exact ⟨_, VRA.ofL (by simpa using hv), rfl⟩
    · rename_i hagg
      unfold aCell1 at h
      split at h
      · cases h
      · rename_i hs
        split at h
        · rename_i vs elem sz lo ow hg
          obtain ⟨v', hc, hv⟩ := R.cell ha hs hg h
          refine ⟨v', ?_, hv⟩
          simp only [loadVar, Sem.run_bind, run_isAgg hd, hagg, Result.andThen_ok, Bool.false_eq_true, if_false, run_load, hc]
        · cases h

/-! ### Writing -/
def setAll (vs : List Value) (i : Nat) : List Value → List Value
  | [] => vs
  | v :: r => setAll (vs.set i v) (i + 1) r
theorem setAll_length (vs : List Value) (i : Nat) (l : List Value) : (setAll vs i l).length = vs.length := by
  induction l generalizing vs i with
  | nil => rfl
  | cons v r ih => simp [setAll, ih]

/-- The same, told cell by cell from the front. -/
def over : List Value → List Value → List Value
  | [], _ => []
  | v :: vs, [] => v :: vs
  | _ :: vs, x :: l => x :: over vs l
def splice : List Value → Nat → List Value → List Value
  | [], _, _ => []
  | v :: vs, 0, l => over (v :: vs) l
  | v :: vs, i + 1, l => v :: splice vs i l
theorem setAll_nil : ∀ (i : Nat) (l : List Value), setAll [] i l = []
  | _, [] => rfl
  | i, _ :: l => by rw [setAll]; exact setAll_nil (i + 1) l
theorem setAll_cons : ∀ (l : List Value) (v : Value) (vs : List Value) (i : Nat), setAll (v :: vs) (i + 1) l = v :: setAll vs i l
  | [], _, _, _ => rfl
  | x :: l, v, vs, i => by rw [setAll, setAll, List.set_cons_succ, setAll_cons l]
theorem over_eq : ∀ (vs l : List Value), over vs l = setAll vs 0 l
  | [], l => by rw [setAll_nil]; cases l <;> rfl
  | v :: vs, [] => rfl
  | v :: vs, x :: l => by rw [over, setAll, List.set_cons_zero, setAll_cons, over_eq vs l]
theorem splice_eq : ∀ (vs : List Value) (i : Nat) (l : List Value), splice vs i l = setAll vs i l
  | [], i, l => by rw [setAll_nil]; rfl
  | v :: vs, 0, l => over_eq (v :: vs) l
  | v :: vs, i + 1, l => by rw [splice, setAll_cons, splice_eq vs i l]

def aStore (P : Program) (H : Heap) (t : TypeId) (a : Addr) (v : Value) : Option Heap :=
  match aSize P t, a.spot, H.get a.block with
  | some n, none, some (.cells vs elem sz lo true) =>
    match Nat.beq v.cells.toList.length n && v.cells.toList.all isCell && Nat.ble (a.off + n) vs.length with
    | true => some (H.put a.block (some (.cells (splice vs a.off v.cells.toList) elem sz lo true)))
    | false => none
  | _, _, _ => none

theorem Heap.put_put (H : Heap) (n : Nat) (o o' : Option AObj) (m : Nat) : ((H.put n o).put n o').get m = (H.put n o').get m := by
  simp only [Heap.get_put]; split <;> rfl
/-- Two heaps that tell the same. -/
theorem Rel.congr {H' : Heap} (R : Rel G F H w0 w) (hg : ∀ n, H'.get n = H.get n) (hn : H'.next = H.next) : Rel G F H' w0 w :=
  { obj := fun n o h => R.obj n o (by rw [← hg]; exact h), inj := fun n m o o' h h' => R.inj n m o o' (by rw [← hg]; exact h) (by rw [← hg]; exact h'),
    fresh := fun n h => R.fresh n (by rw [← hn]; exact h), glob := R.glob, base := R.base, frame := R.frame, os := R.os, out := R.out, tape := R.tape }

theorem storeCells_ok : ∀ (l l' : List Value) (i : Nat) {H : Heap} {w : World} (_ : Rel G F H w0 w) {a a' : Addr} (_ : AR F a a') (_ : a.spot = none)
    {vs : List Value} {elem : TypeId} {sz : Nat} {lo : Bool} (_ : H.get a.block = some (.cells vs elem sz lo true)) (_ : l.all isCell = true) (_ : a.off + i + l.length ≤ vs.length) (_ : VRL F l l'),
    ∃ w', (storeCells a' l' i).run P w = .ok () w' ∧ Rel G F (H.put a.block (some (.cells (setAll vs (a.off + i) l) elem sz lo true))) w0 w'
  | [], l', i, H, w, R, a, a', ha, hs, vs, elem, sz, lo, hg, _, _, hl => by
    simp only [VRL] at hl; subst hl
    refine ⟨w, by simp [storeCells], R.congr (fun n => ?_) rfl⟩
    rw [Heap.get_put]; split
    · rename_i h; subst h; simp [setAll, hg]
    · rfl
  | v :: l, l', i, H, w, R, a, a', ha, hs, vs, elem, sz, lo, hg, hc, hle, hl => by
    simp only [VRL] at hl; obtain ⟨v', r', h1, h2, e⟩ := hl; subst e
    simp only [List.all_cons, Bool.and_eq_true] at hc
    simp only [List.length_cons] at hle
    have hoff : (a.add i).off = a.off + i := by unfold Addr.add; split <;> simp_all
    have hb : (a.add i).block = a.block := by unfold Addr.add; split <;> rfl
    have hsp : (a.add i).spot = none := by unfold Addr.add; split <;> simp [hs]
    have hoff' : vs[(a.add i).off]? = some vs[a.off + i] := by rw [hoff]; simp
    obtain ⟨x', hcell, _⟩ := R.cell (ha.add i) hsp (by rw [hb]; exact hg) hoff'
    obtain ⟨hf, R2⟩ := R.setCell (ha.add i) hsp (by rw [hb]; exact hg) (by rw [hoff]; omega) h1
    rw [hb, hoff] at R2
    obtain ⟨w', hr, R3⟩ := storeCells_ok l r' (i + 1) R2 ha hs (by rw [Heap.get_put]; simp; exact ⟨rfl, rfl, rfl, rfl⟩) hc.2 (by rw [List.length_set]; omega) h2
    refine ⟨w', ?_, R3.congr (fun n => ?_) rfl⟩
    · simp only [storeCells, Sem.run_bind, run_store P w _ _ _ (h1.isCell hc.1), hcell, hf, Bool.false_eq_true, if_false, Result.andThen_ok, hr]
    · rw [Heap.put_put]; simp only [Heap.get_put, setAll, Nat.add_assoc]

theorem aStore_ok (R : Rel G F H w0 w) {t : TypeId} {a a' : Addr} (ha : AR F a a') {v v' : Value} (hv : VR F v v') {H' : Heap} (h : aStore P H t a v = some H') :
    ∃ w', (storeVar t a' v').run P w = .ok () w' ∧ Rel G F H' w0 w' := by
  unfold aStore at h; simp only [splice_eq] at h
  split at h
  · rename_i n vs elem sz lo hn hs hg
    split at h
    · rename_i hc
      simp only [Option.some.injEq] at h; subst h
      simp only [Bool.and_eq_true] at hc
      obtain ⟨⟨h1, h2⟩, h3⟩ := hc
      have h1 := Nat.eq_of_beq_eq_true h1
      have h3 := Nat.le_of_ble_eq_true h3
      obtain ⟨w', hr, R'⟩ := storeCells_ok (P := P) v.cells.toList v'.cells.toList 0 R ha hs hg h2 (by omega) (hv.cells (isTop_cell h2))
      refine ⟨w', ?_, by simpa using R'⟩
      have hl := (hv.cells (isTop_cell h2)).length
      simp only [Array.length_toList] at hl h1
      simp [storeVar, run_sizeOf' hn, hl, h1, hr]
    · cases h
  · cases h

/-! ### New blocks -/
def aNew (P : Program) (H : Heap) (t : TypeId) (l : List Value) : Option (Value × Heap) :=
  match aSize P t with
  | some n => some (.pointer (some ⟨H.next, 0, none⟩), H.push (.cells l t n false true))
  | none => none
theorem aNew_ok (R : Rel G F H w0 w) {t : TypeId} {l : List Value} {c : Array Value} (hl : VRL F l c.toList) {r : Value × Heap} (h : aNew P H t l = some r) :
    OpOK P G F w0 w (do pure (.pointer (some (← newRow t c)))) r.1 r.2 := by
  unfold aNew at h
  split at h
  · rename_i n hn
    simp only [Option.some.injEq] at h; subst h
    have hlen := hl.length
    simp only [Array.length_toList] at hlen
    obtain ⟨hle, R'⟩ := R.push (vs := l) (c := c) (elem := t) (sz := n) (d := 0) (lo := false) (0, 0)
      (by rw [List.take_of_length_le (by simp [hlen])]; exact hl) (by simp [hlen]) (fun _ => ⟨rfl, hlen, rfl⟩) (by intro i _; simp)
    refine ⟨_, .pointer (some ⟨w.heap.size, 0, none⟩), _, hle, by simp [newRow], ?_, R'⟩
    simp only [VR]; exact ⟨⟨w.heap.size, 0, none⟩, ⟨0, 0, Nm.with_self _ _ _, rfl, rfl⟩, rfl⟩
  · cases h

/-! ### Parts of aggregates -/
def aPart (P : Program) (t : TypeId) (cs : List Value) (off : Nat) : Option Value :=
  match P.underlying t with
  | none => none
  | some d => match isAggD d with
    | true => match aSize P t with
      | none => none
      | some n => some (.agg ((cs.drop off).take n).toArray)
    | false => cs[off]?
theorem aPart_ok {t : TypeId} {cs cs' : Array Value} (hc : VRA F cs cs') {off : Nat} {v : Value} (h : aPart P t cs.toList off = some v) (w : World) :
    ∃ v', (part t cs' off).run P w = .ok v' w ∧ VR F v v' := by
  unfold aPart at h
  split at h
  · cases h
  · rename_i d hd
    split at h
    · rename_i hagg
      split at h
      · cases h
      · rename_i n hn
        simp only [Option.some.injEq] at h; subst h
        refine ⟨.agg (cs'.extract off (off + n)), by simp [part, run_isAgg hd, hagg, run_sizeOf' hn], ?_⟩
        simp only [VR]
        refine ⟨_, VRA.ofL ?_, rfl⟩
        have := (hc.toL.drop off).take n
        have e : (cs'.extract off (off + n)).toList = List.take n (List.drop off cs'.toList) := by
          simp [List.extract_eq_take_drop]
        rw [e]; exact this
    · rename_i hagg
      obtain ⟨v', h1, h2⟩ := hc.toL.get h
      have h1' : cs'[off]? = some v' := by simpa using h1
      exact ⟨v', by simp [part, run_isAgg hd, hagg, h1'], h2⟩
end
end
end Go.Abs
