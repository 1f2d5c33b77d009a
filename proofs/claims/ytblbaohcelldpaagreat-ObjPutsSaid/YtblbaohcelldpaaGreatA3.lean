/- The operations over the abstract heap, and that a run does what they say. -/
import Derived.Test.YtblbaohcelldpaaGreatA2
import GoSem.Dispatch
namespace Go.Abs
open Go
set_option linter.unusedVariables false
noncomputable section
def pureSem {α : Type} (P : Program) : Sem α → Option α
  | .pure a => some a
  | .program k => pureSem P (k P)
  | .mark _ k => pureSem P k
  | _ => none
theorem pureSem_run {α : Type} (P : Program) : ∀ (s : Sem α) (a : α), pureSem P s = some a → ∀ w, s.run P w = .ok a w
  | .pure x, a, h, w => by simp only [pureSem, Option.some.injEq] at h; subst h; rfl
  | .program k, a, h, w => by simp only [pureSem] at h; simp only [Sem.run]; exact pureSem_run P (k P) a h w
  | .mark m k, a, h, w => by simp only [pureSem] at h; simp only [Sem.run]; exact pureSem_run P k a h w
  | .load .., a, h, w => by simp [pureSem] at h
  | .store .., a, h, w => by simp [pureSem] at h
  | .new .., a, h, w => by simp [pureSem] at h
  | .shape .., a, h, w => by simp [pureSem] at h
  | .freeze .., a, h, w => by simp [pureSem] at h
  | .frozen .., a, h, w => by simp [pureSem] at h
  | .getObj .., a, h, w => by simp [pureSem] at h
  | .setObj .., a, h, w => by simp [pureSem] at h
  | .choose .., a, h, w => by simp [pureSem] at h
  | .sys .., a, h, w => by simp [pureSem] at h
  | .halt .., a, h, w => by simp [pureSem] at h
def OpOK (P : Program) (G : Nat) (F : Nm) (w0 : Base) (w : World) (s : Sem Value) (v : Value) (H' : Heap) : Prop :=
  ∃ F' v' w', Nm.le F F' ∧ s.run P w = .ok v' w' ∧ VR F' v v' ∧ Rel G F' H' w0 w'
section
variable {P : Program} {G : Nat} {F : Nm} {H : Heap} {w0 : Base} {w : World}
theorem OpOK.pure (R : Rel G F H w0 w) {s : Sem Value} {v : Value} (h : pureSem P s = some v) (hp : plain v = true) : OpOK P G F w0 w s v H :=
  ⟨F, v, w, Nm.le_refl F, pureSem_run P s v h w, (VR.plain_eq _ _ hp).2 rfl, R⟩
theorem OpOK.same (R : Rel G F H w0 w) {s : Sem Value} {v v' : Value} (h : s.run P w = .ok v' w) (hv : VR F v v') : OpOK P G F w0 w s v H :=
  ⟨F, v', w, Nm.le_refl F, h, hv, R⟩
@[simp] theorem run_underlying {t : TypeId} {d : TypeDesc} (h : P.underlying t = some d) (w : World) : (underlying t).run P w = .ok d w := by
  simp [underlying, h]
@[simp] theorem run_typeInfo {t : TypeId} {i : TypeInfo} (h : P.info? t = some i) (w : World) : (typeInfo t).run P w = .ok i w := by
  simp [typeInfo, h]
theorem run_sizeOf {t : TypeId} {i : TypeInfo} (h : P.info? t = some i) (w : World) : (sizeOf t).run P w = .ok i.size w := by
  simp [sizeOf, run_typeInfo h]
def aSize (P : Program) (t : TypeId) : Option Nat := (P.info? t).map (·.size)
theorem run_sizeOf' {t : TypeId} {n : Nat} (h : aSize P t = some n) (w : World) : (sizeOf t).run P w = .ok n w := by
  unfold aSize at h
  cases e : P.info? t with
  | none => rw [e] at h; cases h
  | some i => rw [e] at h; simp only [Option.map_some, Option.some.injEq] at h; rw [run_sizeOf e, h]
def aZero (P : Program) (t : TypeId) : Option Value := (P.info? t).bind (·.zero)
theorem run_zeroValue {t : TypeId} {z : Value} (h : aZero P t = some z) (w : World) : (zeroValue t).run P w = .ok z w := by
  unfold aZero at h
  cases e : P.info? t with
  | none => rw [e] at h; cases h
  | some i => rw [e] at h; simp only [Option.bind_some] at h; simp [zeroValue, run_typeInfo e, h]
def isAggD : TypeDesc → Bool
  | .struct _ | .array _ _ => true
  | _ => false
theorem run_isAgg {t : TypeId} {d : TypeDesc} (h : P.underlying t = some d) (w : World) : (isAgg t).run P w = .ok (isAggD d) w := by
  unfold isAgg; simp only [Sem.run_bind, run_underlying h, Result.andThen_ok]
  cases d <;> rfl
def aCell1 (H : Heap) (a : Addr) : Option Value :=
  match a.spot with
  | some _ => none
  | none => match H.get a.block with
    | some (.cells vs _ _ _ _) => vs[a.off]?
    | _ => none
def aLoad (P : Program) (H : Heap) (t : TypeId) (a : Addr) : Option Value :=
  match P.underlying t with
  | none => none
  | some d => match isAggD d with
    | true => match aSize P t with
      | none => none
      | some n => match aCells H a n with
        | none => none
        | some l => some (.agg l.toArray)
    | false => aCell1 H a
theorem aLoad_ok (R : Rel G F H w0 w) {t : TypeId} {a a' : Addr} (ha : AR F a a') {v : Value} (h : aLoad P H t a = some v) :
    ∃ v', (loadVar t a').run P w = .ok v' w ∧ VR F v v' := by
  unfold aLoad at h
  split at h
  · cases h
  · rename_i d hd
    split at h
    · rename_i hagg
      split at h
      · cases h
      · rename_i n hn
        split at h
        · cases h
        · rename_i l hl
          simp only [Option.some.injEq] at h; subst h
          obtain ⟨l', hr, hv⟩ := R.loadCells P ha hl
          refine ⟨.agg l'.toArray, ?_, ?_⟩
          · simp [loadVar, run_isAgg hd, hagg, run_sizeOf' hn, hr]
          · simp only [VR]; exact ⟨_, VRA.ofL (by simpa using hv), rfl⟩
    · rename_i hagg
      unfold aCell1 at h
      split at h
      · cases h
      · rename_i hs
        split at h
        · rename_i vs elem sz lo ow hg
          obtain ⟨v', hc, hv⟩ := R.cell ha hs hg h
          refine ⟨v', ?_, hv⟩
          simp only [loadVar, Sem.run_bind, run_isAgg hd, hagg, Result.andThen_ok, Bool.false_eq_true, if_false, run_load, hc]
        · cases h
def setAll (vs : List Value) (i : Nat) : List Value → List Value
  | [] => vs
  | v :: r => setAll (vs.set i v) (i + 1) r
theorem setAll_length (vs : List Value) (i : Nat) (l : List Value) : (setAll vs i l).length = vs.length := by
  induction l generalizing vs i with
  | nil => rfl
  | cons v r ih => simp [setAll, ih]
def over : List Value → List Value → List Value
  | [], _ => []
  | v :: vs, [] => v :: vs
  | _ :: vs, x :: l => x :: over vs l
def splice : List Value → Nat → List Value → List Value
  | [], _, _ => []
  | v :: vs, 0, l => over (v :: vs) l
  | v :: vs, i + 1, l => v :: splice vs i l
theorem setAll_nil : ∀ (i : Nat) (l : List Value), setAll [] i l = []
  | _, [] => rfl
  | i, _ :: l => by rw [setAll]; exact setAll_nil (i + 1) l
theorem setAll_cons : ∀ (l : List Value) (v : Value) (vs : List Value) (i : Nat), setAll (v :: vs) (i + 1) l = v :: setAll vs i l
  | [], _, _, _ => rfl
  | x :: l, v, vs, i => by rw [setAll, setAll, List.set_cons_succ, setAll_cons l]
theorem over_eq : ∀ (vs l : List Value), over vs l = setAll vs 0 l
  | [], l => by rw [setAll_nil]; cases l <;> rfl
  | v :: vs, [] => rfl
  | v :: vs, x :: l => by rw [over, setAll, List.set_cons_zero, setAll_cons, over_eq vs l]
theorem splice_eq : ∀ (vs : List Value) (i : Nat) (l : List Value), splice vs i l = setAll vs i l
  | [], i, l => by rw [setAll_nil]; rfl
  | v :: vs, 0, l => over_eq (v :: vs) l
  | v :: vs, i + 1, l => by rw [splice, setAll_cons, splice_eq vs i l]
def aStore (P : Program) (H : Heap) (t : TypeId) (a : Addr) (v : Value) : Option Heap :=
  match aSize P t, a.spot, H.get a.block with
  | some n, none, some (.cells vs elem sz lo true) =>
    match Nat.beq v.cells.toList.length n && v.cells.toList.all isCell && reaches vs a.off n with
    | true => some (H.put a.block (some (.cells (splice vs a.off v.cells.toList) elem sz lo true)))
    | false => none
  | _, _, _ => none
theorem Heap.put_put (H : Heap) (n : Nat) (o o' : Option AObj) (m : Nat) : ((H.put n o).put n o').get m = (H.put n o').get m := by
  simp only [Heap.get_put]; split <;> rfl
theorem Rel.congr {H' : Heap} (R : Rel G F H w0 w) (hg : ∀ n, H'.get n = H.get n) (hn : H'.next = H.next) : Rel G F H' w0 w :=
  { obj := fun n o h => R.obj n o (by rw [← hg]; exact h), inj := fun n m o o' h h' => R.inj n m o o' (by rw [← hg]; exact h) (by rw [← hg]; exact h'),
    fresh := fun n h => R.fresh n (by rw [← hn]; exact h), glob := R.glob, base := R.base, frame := R.frame, froz := fun b i v h => ⟨(R.froz b i v h).1, fun n o h1 h2 => (R.froz b i v h).2 n o (by rw [← hg]; exact h1) h2⟩, zprot := R.zprot, os := R.os, out := R.out, tape := R.tape }
theorem storeCells_ok : ∀ (l l' : List Value) (i : Nat) {H : Heap} {w : World} (_ : Rel G F H w0 w) {a a' : Addr} (_ : AR F a a') (_ : a.spot = none)
    {vs : List Value} {elem : TypeId} {sz : Nat} {lo : Bool} (_ : H.get a.block = some (.cells vs elem sz lo true)) (_ : l.all isCell = true) (_ : a.off + i + l.length ≤ vs.length) (_ : VRL F l l'),
    ∃ w', (storeCells a' l' i).run P w = .ok () w' ∧ Rel G F (H.put a.block (some (.cells (setAll vs (a.off + i) l) elem sz lo true))) w0 w'
  | [], l', i, H, w, R, a, a', ha, hs, vs, elem, sz, lo, hg, _, _, hl => by
    simp only [VRL] at hl; subst hl
    refine ⟨w, by simp [storeCells], R.congr (fun n => ?_) rfl⟩
    rw [Heap.get_put]; split
    · rename_i h; subst h; simp [setAll, hg]
    · rfl
  | v :: l, l', i, H, w, R, a, a', ha, hs, vs, elem, sz, lo, hg, hc, hle, hl => by
    simp only [VRL] at hl; obtain ⟨v', r', h1, h2, e⟩ := hl; subst e
    simp only [List.all_cons, Bool.and_eq_true] at hc
    simp only [List.length_cons] at hle
    have hoff : (a.add i).off = a.off + i := by unfold Addr.add; split <;> simp_all
    have hb : (a.add i).block = a.block := by unfold Addr.add; split <;> rfl
    have hsp : (a.add i).spot = none := by unfold Addr.add; split <;> simp [hs]
    have hoff' : vs[(a.add i).off]? = some vs[a.off + i] := by rw [hoff]; simp
    obtain ⟨x', hcell, _⟩ := R.cell (ha.add i) hsp (by rw [hb]; exact hg) hoff'
    obtain ⟨hf, R2⟩ := R.setCell (ha.add i) hsp (by rw [hb]; exact hg) (by rw [hoff]; omega) h1
    rw [hb, hoff] at R2
    obtain ⟨w', hr, R3⟩ := storeCells_ok l r' (i + 1) R2 ha hs (by rw [Heap.get_put]; simp; exact ⟨rfl, rfl, rfl, rfl⟩) hc.2 (by rw [List.length_set]; omega) h2
    refine ⟨w', ?_, R3.congr (fun n => ?_) rfl⟩
    · simp only [storeCells, Sem.run_bind, run_store P w _ _ _ (h1.isCell hc.1), hcell, hf, Bool.false_eq_true, if_false, Result.andThen_ok, hr]
    · rw [Heap.put_put]; simp only [Heap.get_put, setAll, Nat.add_assoc]
theorem aStore_ok (R : Rel G F H w0 w) {t : TypeId} {a a' : Addr} (ha : AR F a a') {v v' : Value} (hv : VR F v v') {H' : Heap} (h : aStore P H t a v = some H') :
    ∃ w', (storeVar t a' v').run P w = .ok () w' ∧ Rel G F H' w0 w' := by
  unfold aStore at h; simp only [splice_eq] at h
  split at h
  · rename_i n vs elem sz lo hn hs hg
    split at h
    · rename_i hc
      simp only [Option.some.injEq] at h; subst h
      simp only [Bool.and_eq_true] at hc
      obtain ⟨⟨h1, h2⟩, h3⟩ := hc
      have h1 := Nat.eq_of_beq_eq_true h1
      have h3 := reaches_le h3
      obtain ⟨w', hr, R'⟩ := storeCells_ok (P := P) v.cells.toList v'.cells.toList 0 R ha hs hg h2 (by omega) (hv.cells (isTop_cell h2))
      refine ⟨w', ?_, by simpa using R'⟩
      have hl := (hv.cells (isTop_cell h2)).length
      simp only [Array.length_toList] at hl h1
      simp [storeVar, run_sizeOf' hn, hl, h1, hr]
    · cases h
  · cases h
def aNew (P : Program) (H : Heap) (t : TypeId) (l : List Value) : Option (Value × Heap) :=
  match aSize P t with
  | some n => some (.pointer (some ⟨H.next, 0, none⟩), H.push (.cells l t n false true))
  | none => none
theorem aNew_ok (R : Rel G F H w0 w) {t : TypeId} {l : List Value} {c : Array Value} (hl : VRL F l c.toList) {r : Value × Heap} (h : aNew P H t l = some r) :
    OpOK P G F w0 w (do pure (.pointer (some (← newRow t c)))) r.1 r.2 := by
  unfold aNew at h
  split at h
  · rename_i n hn
    simp only [Option.some.injEq] at h; subst h
    have hlen := hl.length
    simp only [Array.length_toList] at hlen
    obtain ⟨hle, R'⟩ := R.push (vs := l) (c := c) (elem := t) (sz := n) (d := 0) (lo := false) (0, 0)
      (by rw [List.take_of_length_le (by simp [hlen])]; exact hl) (by simp [hlen]) (fun _ => ⟨rfl, hlen, rfl⟩) (by intro i _; simp)
    refine ⟨_, .pointer (some ⟨w.heap.size, 0, none⟩), _, hle, by simp [newRow], ?_, R'⟩
    simp only [VR]; exact ⟨⟨w.heap.size, 0, none⟩, ⟨0, 0, Nm.with_self _ _ _, rfl, rfl⟩, rfl⟩
  · cases h
def aPart (P : Program) (t : TypeId) (cs : List Value) (off : Nat) : Option Value :=
  match P.underlying t with
  | none => none
  | some d => match isAggD d with
    | true => match aSize P t with
      | none => none
      | some n => some (.agg ((cs.drop off).take n).toArray)
    | false => cs[off]?
theorem aPart_ok {t : TypeId} {cs cs' : Array Value} (hc : VRA F cs cs') {off : Nat} {v : Value} (h : aPart P t cs.toList off = some v) (w : World) :
    ∃ v', (part t cs' off).run P w = .ok v' w ∧ VR F v v' := by
  unfold aPart at h
  split at h
  · cases h
  · rename_i d hd
    split at h
    · rename_i hagg
      split at h
      · cases h
      · rename_i n hn
        simp only [Option.some.injEq] at h; subst h
        refine ⟨.agg (cs'.extract off (off + n)), by simp [part, run_isAgg hd, hagg, run_sizeOf' hn], ?_⟩
        simp only [VR]
        refine ⟨_, VRA.ofL ?_, rfl⟩
        have := (hc.toL.drop off).take n
        have e : (cs'.extract off (off + n)).toList = List.take n (List.drop off cs'.toList) := by
          simp [List.extract_eq_take_drop]
        rw [e]; exact this
    · rename_i hagg
      obtain ⟨v', h1, h2⟩ := hc.toL.get h
      have h1' : cs'[off]? = some v' := by simpa using h1
      exact ⟨v', by simp [part, run_isAgg hd, hagg, h1'], h2⟩
theorem Rel.zcell (R : Rel G F H w0 w) {b i : Nat} {v : Value} (h : F.z b i = some v) : w.cell? ⟨b, i, none⟩ = some v := by
  obtain ⟨⟨c, t, fz, h1, h2⟩, _⟩ := R.froz b i v h
  simp [World.cell?, h1, h2]
theorem Rel.zloadFrom (P : Program) (R : Rel G F H w0 w) {b off : Nat} : ∀ (n i : Nat) (l : List Value) (acc : Array Value), (∀ j, i ≤ j → j < i + n → ∃ v, l[j - i]? = some v ∧ F.z b (off + j) = some v) →
    (loadCellsFrom ⟨b, off, none⟩ i n acc).run P w = .ok (acc ++ (l.take n).toArray) w
  | 0, i, l, acc, _ => by simp [loadCellsFrom]
  | n + 1, i, l, acc, h => by
    obtain ⟨v, h1, h2⟩ := h i (Nat.le_refl _) (by omega)
    cases l with
    | nil => simp at h1
    | cons x l =>
      simp at h1; subst h1
      have ha : (Addr.add ⟨b, off, none⟩ i) = ⟨b, off + i, none⟩ := by unfold Addr.add; split <;> simp_all
      have ih := R.zloadFrom P n (i + 1) l (acc.push x) (fun j h3 h4 => by
        obtain ⟨v, g1, g2⟩ := h j (by omega) (by omega)
        refine ⟨v, ?_, g2⟩
        rw [show j - i = (j - (i + 1)) + 1 from by omega, List.getElem?_cons_succ] at g1; exact g1)
      simp only [loadCellsFrom, Sem.run_bind, run_load, ha, R.zcell h2, Result.andThen_ok, ih]
      simp
theorem Rel.zload (P : Program) (R : Rel G F H w0 w) {b off : Nat} {l : List Value} (h : zRow F.z b off l) {n : Nat} (hn : n ≤ l.length) : (Go.loadCells ⟨b, off, none⟩ n).run P w = .ok (l.take n).toArray w := by
  have := R.zloadFrom P n 0 l #[] (fun j h1 h2 => ⟨l[j], by simp, h j _ (by simp)⟩)
  simpa [Go.loadCells] using this
end
end
end Go.Abs
/- More operations over the abstract heap: building, slicing, appending, converting, comparing. -/
namespace Go.Abs
open Go
noncomputable section
section
variable {P : Program} {G : Nat} {F : Nm} {H : Heap} {w0 : Base} {w : World}
def aFill (place : Nat → Option (Nat × Nat)) : List Value → List (Nat × Value) → Option (List Value)
  | cells, [] => some cells
  | cells, (i, v) :: rest => match place i with
    | none => none
    | some (off, size) => match Nat.beq v.cells.toList.length size && Nat.ble (off + size) cells.length && not (isTop v) with
      | true => aFill place (splice cells off v.cells.toList) rest
      | false => none
theorem VRL.setAll {F : Nm} : ∀ {l l' : List Value} {vs vs' : List Value} (i : Nat), VRL F vs vs' → VRL F l l' → VRL F (Abs.setAll vs i l) (Abs.setAll vs' i l')
  | [], l', vs, vs', i, h, hl => by simp only [VRL] at hl; subst hl; exact h
  | v :: l, l', vs, vs', i, h, hl => by
    simp only [VRL] at hl; obtain ⟨v', r', h1, h2, e⟩ := hl; subst e
    exact VRL.setAll (i + 1) (h.set i h1) h2
theorem zipIdx_setAll (off : Nat) : ∀ (l : List Value) (k : Nat) (cs : Array Value),
    ((l.zipIdx k).foldl (fun (cs : Array Value) (x : Value × Nat) => cs.setIfInBounds (off + x.2) x.1) cs).toList = setAll cs.toList (off + k) l
  | [], k, cs => rfl
  | v :: l, k, cs => by
    simp only [List.zipIdx_cons, List.foldl_cons, setAll]
    rw [zipIdx_setAll off l (k + 1)]
    simp [Nat.add_assoc]
def PR (F : Nm) : List (Nat × Value) → List (Nat × Value) → Prop
  | [], l' => l' = []
  | (i, v) :: l, l' => ∃ v' r', VR F v v' ∧ PR F l r' ∧ l' = (i, v') :: r'
theorem aFill_ok (place : Nat → Option (Nat × Nat)) : ∀ (parts parts' : List (Nat × Value)) (cells : List Value) (cells' : Array Value) (r : List Value),
    VRL F cells cells'.toList → PR F parts parts' → aFill place cells parts = some r → ∃ r', Instr.fill place cells' parts' = some r' ∧ VRL F r r'.toList
  | [], parts', cells, cells', r, hc, hp, h => by
    simp only [PR] at hp; subst hp
    simp only [aFill, Option.some.injEq] at h; subst h
    exact ⟨cells', rfl, hc⟩
  | (i, v) :: parts, parts', cells, cells', r, hc, hp, h => by
    simp only [PR] at hp; obtain ⟨v', q', h1, h2, e⟩ := hp; subst e
    simp only [aFill, splice_eq] at h
    split at h
    · cases h
    · rename_i off size hpl
      split at h
      · rename_i hcond
        simp only [Bool.and_eq_true] at hcond
        have c1 := Nat.eq_of_beq_eq_true hcond.1.1
        have c2 := Nat.le_of_ble_eq_true hcond.1.2
        have h1c := h1.cells (by simpa using hcond.2)
        have hl := h1c.length
        have hl2 := hc.length
        simp only [Array.length_toList] at hl hl2 c1
        obtain ⟨r', hr, hv⟩ := aFill_ok place parts q' _ (v'.cells.zipIdx.foldl (fun cs (c, j) => cs.setIfInBounds (off + j) c) cells') r
          (by
            rw [← Array.foldl_toList, Array.toList_zipIdx, zipIdx_setAll]
            simpa using VRL.setAll off hc h1c) h2 h
        refine ⟨r', ?_, hv⟩
        simp only [Instr.fill, hpl]
        rw [if_neg (by simp [hl, c1, hl2]; omega)]
        exact hr
      · cases h
def aPlaces (P : Program) : List Field → Option (List (Nat × Nat))
  | [] => some []
  | f :: r => match aSize P f.type, aPlaces P r with
    | some n, some l => some ((f.offset, n) :: l)
    | _, _ => none
theorem aPlaces_ok : ∀ (fs : List Field) (l : List (Nat × Nat)), aPlaces P fs = some l → ∀ w, (fs.mapM fun f => (Prod.mk f.offset <$> sizeOf f.type : Sem (Nat × Nat))).run P w = .ok l w
  | [], l, h, w => by simp only [aPlaces, Option.some.injEq] at h; subst h; rfl
  | f :: r, l, h, w => by
    simp only [aPlaces] at h
    split at h
    · rename_i n l2 hn hl
      simp only [Option.some.injEq] at h; subst h
      simp [List.mapM_cons, run_sizeOf' hn, aPlaces_ok r l2 hl w]
    · cases h
def aBuild (P : Program) (t : TypeId) (parts : List (Nat × Value)) : Option Value :=
  match aZero P t, P.underlying t with
  | some z, some (.struct fields) => match plain z, aPlaces P fields.toList with
    | true, some places => match aFill (places[·]?) z.cells.toList parts with
      | some l => some (.agg l.toArray)
      | none => none
    | _, _ => none
  | some z, some (.array _ elem) => match plain z, aSize P elem with
    | true, some size => match aFill (fun i => some (i * size, size)) z.cells.toList parts with
      | some l => some (.agg l.toArray)
      | none => none
    | _, _ => none
  | _, _ => none
theorem aBuild_ok {t : TypeId} {parts : List (Nat × Value)} {parts' : Array (Nat × Value)} (hp : PR F parts parts'.toList) {v : Value} (h : aBuild P t parts = some v) (w : World) :
    ∃ v', (Instr.build t parts').run P w = .ok v' w ∧ VR F v v' := by
  unfold aBuild at h
  split at h
  · rename_i z fields hz hu
    split at h
    · rename_i places hpl hplaces
      split at h
      · rename_i l hl
        simp only [Option.some.injEq] at h; subst h
        have hz2 := ((VR.plain_eq (F := F) z z hpl).2 rfl).cells (plain_top hpl)
        obtain ⟨r', hr, hv⟩ := aFill_ok _ _ _ _ z.cells l hz2 hp hl
        refine ⟨.agg r', ?_, by simp only [VR]; exact ⟨r', VRA.ofL (by simpa using hv), rfl⟩⟩
        have hm : (fields.mapM fun f => (do pure (f.offset, ← sizeOf f.type) : Sem (Nat × Nat))).run P w = .ok places.toArray w := by
          rw [Array.mapM_eq_mapM_toList]
          simp [aPlaces_ok _ _ hplaces w]
        simp only [Instr.build, Sem.run_bind, run_zeroValue hz, Result.andThen_ok, run_underlying hu]
        rw [hm]
        simp only [Result.andThen_ok]
        have e : (fun x : Nat => places.toArray[x]?) = (fun x : Nat => places[x]?) := by funext x; simp
        rw [e, hr]; rfl
      · cases h
    · cases h
  · rename_i z n elem hz hu
    split at h
    · rename_i size hpl hs
      split at h
      · rename_i l hl
        simp only [Option.some.injEq] at h; subst h
        have hz2 := ((VR.plain_eq (F := F) z z hpl).2 rfl).cells (plain_top hpl)
        obtain ⟨r', hr, hv⟩ := aFill_ok _ _ _ _ z.cells l hz2 hp hl
        refine ⟨.agg r', ?_, by simp only [VR]; exact ⟨r', VRA.ofL (by simpa using hv), rfl⟩⟩
        simp only [Instr.build, Sem.run_bind, run_zeroValue hz, Result.andThen_ok, run_underlying hu, run_sizeOf' hs, hr]
        rfl
      · cases h
    · cases h
  · cases h
def aZeros (zs : List Value) (n : Nat) : List Value := match zs with
  | [z] => List.replicate n z
  | zs => (List.range n).map fun i => zs.getD (i % zs.length) default
theorem plainL_get {l : List Value} (h : plainL l = true) (i : Nat) : plain (l.getD i default) = true := by
  induction l generalizing i with
  | nil => rfl
  | cons v r ih =>
    simp only [plainL, Bool.and_eq_true] at h
    cases i with
    | zero => exact h.1
    | succ i => simpa using ih h.2 i
theorem plainL_map {α : Type} (f : α → Value) (hf : ∀ x, plain (f x) = true) : ∀ l : List α, plainL (l.map f) = true
  | [] => rfl
  | x :: l => by simp only [List.map_cons, plainL, hf x, Bool.true_and]; exact plainL_map f hf l
theorem plainA_list {c : Array Value} (h : plainA c = true) : plainL c.toList = true := by cases c; exact h
theorem plain_cells {v : Value} (h : plain v = true) : plainL v.cells.toList = true := by
  cases v <;> first
    | (simp only [Value.cells, plainL, Bool.and_true]; exact h)
    | (simp only [plain] at h; exact plainA_list h)
theorem plainL_replicate {z : Value} (h : plain z = true) : ∀ n : Nat, plainL (List.replicate n z) = true
  | 0 => rfl
  | n + 1 => by rw [List.replicate_succ, plainL, h, plainL_replicate h n]; rfl
theorem aZeros_plain {zs : List Value} (h : plainL zs = true) (n : Nat) : plainL (aZeros zs n) = true := by
  unfold aZeros
  split
  · simp only [plainL, Bool.and_true] at h; exact plainL_replicate h n
  · exact plainL_map _ (fun _ => plainL_get h _) _
theorem aZeros_eq (z : Array Value) (n : Nat) : ((Array.range n).map (z[· % z.size]!)).toList = aZeros z.toList n := by
  have key : ((Array.range n).map (z[· % z.size]!)).toList = (List.range n).map fun i => z.toList.getD (i % z.toList.length) default := by
    simp only [Array.toList_map, Array.toList_range]
    refine List.map_congr_left fun i _ => ?_
    simp [Array.getElem!_eq_getD, Array.getD_eq_getD_getElem?]
  rw [key]
  unfold aZeros
  split
  · rename_i v e
    rw [e]
    apply List.ext_getElem?
    intro i
    rw [List.getElem?_map, List.getElem?_replicate]
    by_cases hi : i < n
    · rw [List.getElem?_range hi, if_pos hi]; simp [Nat.mod_one]
    · rw [List.getElem?_eq_none (by simpa using hi), if_neg hi]; rfl
  · rfl
theorem zeros_run {α : Type} {n : Nat} {elem : TypeId} {z : Value} (hz : aZero P elem = some z) (K : Array Value → Sem α) (w : World) :
    (if n = 0 then (do let zero ← pure #[]; K zero) else (do let x ← zeroValue elem; let zero ← pure x.cells; K zero) : Sem α).run P w = (K (if n = 0 then #[] else z.cells)).run P w := by
  by_cases h : n = 0 <;> simp [h, run_zeroValue hz]
def aZeros0 (zs : List Value) (n : Nat) : List Value := match n with | 0 => [] | _ => aZeros zs n
theorem zeros_VRL {z : Value} (hp : plain z = true) (n : Nat) :
    VRL F (aZeros0 z.cells.toList n) ((Array.range n).map ((if n = 0 then #[] else z.cells)[· % (if n = 0 then #[] else z.cells).size]!)).toList := by
  by_cases h : n = 0
  · subst h; simp [aZeros0, VRL]
  · have : aZeros0 z.cells.toList n = aZeros z.cells.toList n := by unfold aZeros0; split <;> simp_all
    rw [this, if_neg h, aZeros_eq]
    exact (VRL.plain_eq _ _ (aZeros_plain (plain_cells hp) _)).2 rfl
def aNewSlice (H : Heap) (elem : TypeId) (sz : Nat) (l : List Value) (len cap : Nat) : Value × Heap :=
  (.slice (some ⟨H.next, 0, none⟩) len cap, H.push (.cells l elem sz false true))
theorem aNewSlice_ok (R : Rel G F H w0 w) {elem : TypeId} {sz : Nat} {l : List Value} {c : Array Value} (hl : VRL F l c.toList) (len cap : Nat) :
    OpOK P G F w0 w (do pure (.slice (some (← newRow elem c)) len cap)) (aNewSlice H elem sz l len cap).1 (aNewSlice H elem sz l len cap).2 := by
  have hlen := hl.length
  simp only [Array.length_toList] at hlen
  obtain ⟨hle, R'⟩ := R.push (vs := l) (c := c) (elem := elem) (sz := sz) (d := 0) (lo := false) (0, 0)
    (by rw [List.take_of_length_le (by simp [hlen])]; exact hl) (by simp [hlen]) (fun _ => ⟨rfl, hlen, rfl⟩) (by intro i _; simp)
  refine ⟨_, .slice (some ⟨w.heap.size, 0, none⟩) len cap, _, hle, by simp [newRow], ?_, R'⟩
  simp only [aNewSlice, VR]; exact ⟨⟨w.heap.size, 0, none⟩, 0, 0, Nm.with_self _ _ _, rfl, rfl, rfl⟩
def aBuildSlice (P : Program) (H : Heap) (t : TypeId) (len : Nat) (parts : List (Nat × Value)) : Option (Value × Heap) :=
  match P.underlying t with
  | some (.slice elem) => match aSize P elem, aZero P elem with
    | some size, some z => match Nat.ble (len * size) 16777216 && plain z with
      | true => match aFill (fun i => some (i * size, size)) (aZeros0 z.cells.toList (len * size)) parts with
        | some l => some (aNewSlice H elem size l len len)
        | none => none
      | false => none
    | _, _ => none
  | _ => none
theorem aBuildSlice_ok (R : Rel G F H w0 w) {t : TypeId} {len : Nat} {parts : List (Nat × Value)} {parts' : Array (Nat × Value)} (hp : PR F parts parts'.toList) {r : Value × Heap}
    (h : aBuildSlice P H t len parts = some r) : OpOK P G F w0 w (Instr.buildSlice t len parts') r.1 r.2 := by
  unfold aBuildSlice at h
  split at h
  · rename_i elem hu
    split at h
    · rename_i size z hs hz
      split at h
      · rename_i hc
        split at h
        · rename_i l hl
          simp only [Option.some.injEq] at h; subst h
          simp only [Bool.and_eq_true] at hc
          have hle := Nat.le_of_ble_eq_true hc.1
          obtain ⟨r', hr, hv'⟩ := aFill_ok _ _ _ _ _ l (zeros_VRL (F := F) hc.2 (len * size)) hp hl
          obtain ⟨F', v', w', h1, h2, h3, h4⟩ := aNewSlice_ok (P := P) R (elem := elem) (sz := size) hv' len len
          refine ⟨F', v', w', h1, ?_, h3, h4⟩
          simp only [Instr.buildSlice, Sem.run_bind, run_underlying hu, Result.andThen_ok, run_sizeOf' hs]
          rw [if_neg (by omega)]
          rw [zeros_run (P := P) hz]
          rw [hr]; exact h2
        · cases h
      · cases h
    · cases h
  · cases h
def tops : Nat := 140737488355328
def aMakeSlice (P : Program) (H : Heap) (t : TypeId) (len cap : Value) : Option (Value × Heap) :=
  match P.underlying t, len, cap with
  | some (.slice elem), .int _ l, .int _ c => match P.info? elem with
    | some i => match decide (0 ≤ l) && decide (l ≤ c) && Nat.ble c.toNat 1099511627776 && Nat.ble (c.toNat * i.bytes) tops with
      | true => match i.zero with
        | some z => match plain z with
          | true => some (aNewSlice H elem i.size (aZeros0 z.cells.toList (c.toNat * i.size)) l.toNat c.toNat)
          | false => none
        | none => none
      | false => none
    | none => none
  | _, _, _ => none
theorem wrap_small {l : Int} (h : 0 ≤ l) (h2 : l ≤ 1099511627776) : IntKind.i64.wrap l = l := by
  simp [IntKind.wrap, IntKind.bits, IntKind.signed]; omega
theorem aMakeSlice_ok (R : Rel G F H w0 w) {t : TypeId} {len cap : Value} {r : Value × Heap} (h : aMakeSlice P H t len cap = some r) :
    OpOK P G F w0 w (Instr.makeSlice t len cap) r.1 r.2 := by
  unfold aMakeSlice at h
  split at h
  · rename_i elem k1 l k2 c hu
    split at h
    · rename_i i hi
      split at h
      · rename_i hc
        split at h
        · rename_i z hz
          split at h
          · rename_i hp
            simp only [Option.some.injEq] at h; subst h
            simp only [Bool.and_eq_true, decide_eq_true_eq] at hc
            obtain ⟨⟨⟨h1, h2⟩, h3⟩, h4⟩ := hc
            have h3 := Nat.le_of_ble_eq_true h3
            have h4 := Nat.le_of_ble_eq_true h4
            unfold tops at h4
            have hl : IntKind.i64.wrap l = l := wrap_small h1 (by omega)
            have hcw : IntKind.i64.wrap c = c := wrap_small (by omega) (by omega)
            have hz' : aZero P elem = some z := by simp [aZero, hi, hz]
            have hsz : aSize P elem = some i.size := by simp [aSize, hi]
            obtain ⟨F', v', w', g1, g2, g3, g4⟩ := aNewSlice_ok (P := P) R (elem := elem) (sz := i.size) (zeros_VRL (F := F) hp (c.toNat * i.size)) l.toNat c.toNat
            refine ⟨F', v', w', g1, ?_, g3, g4⟩
            have hb1 : (i.bytes : Int) * c ≤ 2 ^ 47 := by
              have : ((c.toNat * i.bytes : Nat) : Int) ≤ 140737488355328 := by omega
              rw [Int.natCast_mul, Int.toNat_of_nonneg (by omega)] at this
              rw [Int.mul_comm]; omega
            have ht : ((decide (c < 0) || decide ((i.bytes : Int) * c > 2 ^ 48)) || decide (l < 0) || decide (l > c)) = false := by
              simp only [Bool.or_eq_false_iff, decide_eq_false_iff_not]
              refine ⟨⟨⟨by omega, ?_⟩, by omega⟩, by omega⟩
              have : (2 : Int) ^ 47 ≤ 2 ^ 48 := by decide
              omega
            simp only [Instr.makeSlice, Sem.run_bind, run_underlying hu, Result.andThen_ok, asInt, asIntOf, Sem.run_pure, run_typeInfo hi, hl, hcw]
            rw [ht]
            simp only [Bool.false_eq_true, if_false, Sem.run_bind, run_askRoom, Result.andThen_ok, run_sizeOf' hsz]
            rw [zeros_run (P := P) hz']
            exact g2
          · cases h
        · cases h
      · cases h
    · cases h
  · cases h
end
end
end Go.Abs
