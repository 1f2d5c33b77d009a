/- The abstract heap, and how it stands to a world: reading, writing, new blocks. -/
import Derived.Test.YtblbaohcelldpaaGreatA1
namespace Go.Abs
open Go
set_option linter.unusedVariables false
noncomputable section
inductive Tr (α : Type) where
  | lf
  | nd (l : Tr α) (v : Option α) (r : Tr α)
def Tr.get {α : Type} (t : Tr α) : Nat → Option α :=
  Tr.rec (motive := fun _ => Nat → Option α) (fun _ => none)
    (fun _ v _ gl gr n => Nat.rec (motive := fun _ => Option α) v (fun k _ => Bool.rec (motive := fun _ => Option α) (gr (Nat.div k 2)) (gl (Nat.div k 2)) (Nat.beq (Nat.mod k 2) 0)) n) t
def Tr.one {α : Type} (f : Nat) : Nat → Option α → Tr α :=
  Nat.rec (motive := fun _ => Nat → Option α → Tr α) (fun _ _ => .lf)
    (fun _ go n x => Nat.rec (motive := fun _ => Tr α) (.nd .lf x .lf) (fun k _ => Bool.rec (motive := fun _ => Tr α) (.nd .lf none (go (Nat.div k 2) x)) (.nd (go (Nat.div k 2) x) none .lf) (Nat.beq (Nat.mod k 2) 0)) n) f
def Tr.set {α : Type} (t : Tr α) : Nat → Option α → Tr α :=
  Tr.rec (motive := fun _ => Nat → Option α → Tr α) (fun n x => Tr.one (Nat.succ n) n x)
    (fun l v r sl sr n x => Nat.rec (motive := fun _ => Tr α) (.nd l x r) (fun k _ => Bool.rec (motive := fun _ => Tr α) (.nd l v (sr (Nat.div k 2) x)) (.nd (sl (Nat.div k 2) x) v r) (Nat.beq (Nat.mod k 2) 0)) n) t
theorem Tr.get_lf {α : Type} (n : Nat) : (Tr.lf : Tr α).get n = none := rfl
theorem Tr.get_zero {α : Type} (l : Tr α) (v : Option α) (r : Tr α) : (Tr.nd l v r).get 0 = v := rfl
theorem Tr.get_succ {α : Type} (l : Tr α) (v : Option α) (r : Tr α) (k : Nat) : (Tr.nd l v r).get (k + 1) = match Nat.beq (k % 2) 0 with | true => l.get (k / 2) | false => r.get (k / 2) := by
  show Bool.rec (motive := fun _ => Option α) (r.get (k / 2)) (l.get (k / 2)) (Nat.beq (k % 2) 0) = _
  cases Nat.beq (k % 2) 0 <;> rfl
theorem Tr.one_zero {α : Type} (f : Nat) (x : Option α) : Tr.one (f + 1) 0 x = .nd .lf x .lf := rfl
theorem Tr.one_succ {α : Type} (f k : Nat) (x : Option α) : Tr.one (f + 1) (k + 1) x = match Nat.beq (k % 2) 0 with | true => .nd (Tr.one f (k / 2) x) none .lf | false => .nd .lf none (Tr.one f (k / 2) x) := by
  show Bool.rec (motive := fun _ => Tr α) (.nd .lf none (Tr.one f (k / 2) x)) (.nd (Tr.one f (k / 2) x) none .lf) (Nat.beq (k % 2) 0) = _
  cases Nat.beq (k % 2) 0 <;> rfl
theorem Tr.set_lf {α : Type} (n : Nat) (x : Option α) : (Tr.lf : Tr α).set n x = Tr.one (n + 1) n x := rfl
theorem Tr.set_zero {α : Type} (l : Tr α) (v : Option α) (r : Tr α) (x : Option α) : (Tr.nd l v r).set 0 x = .nd l x r := rfl
theorem Tr.set_succ {α : Type} (l : Tr α) (v : Option α) (r : Tr α) (k : Nat) (x : Option α) : (Tr.nd l v r).set (k + 1) x = match Nat.beq (k % 2) 0 with | true => .nd (l.set (k / 2) x) v r | false => .nd l v (r.set (k / 2) x) := by
  show Bool.rec (motive := fun _ => Tr α) (.nd l v (r.set (k / 2) x)) (.nd (l.set (k / 2) x) v r) (Nat.beq (k % 2) 0) = _
  cases Nat.beq (k % 2) 0 <;> rfl
theorem half_inj {k m : Nat} (h : Nat.beq (k % 2) 0 = Nat.beq (m % 2) 0) : k / 2 = m / 2 ↔ k = m := by
  have : (k % 2 = 0) ↔ (m % 2 = 0) := by
    constructor <;> intro e
    · have := h; rw [show Nat.beq (k % 2) 0 = true from by simp [e]] at this; exact Nat.eq_of_beq_eq_true this.symm
    · have := h; rw [show Nat.beq (m % 2) 0 = true from by simp [e]] at this; exact Nat.eq_of_beq_eq_true this
  omega
theorem Tr.get_one {α : Type} : ∀ (f n : Nat) (x : Option α) (m : Nat), n < f → (Tr.one f n x).get m = if m = n then x else none
  | 0, n, x, m, h => by omega
  | f + 1, 0, x, m, h => by
    rw [Tr.one_zero]
    cases m with
    | zero => rfl
    | succ j => rw [Tr.get_succ]; cases Nat.beq (j % 2) 0 <;> simp [Tr.get_lf]
  | f + 1, k + 1, x, m, h => by
    rw [Tr.one_succ]
    have ih := fun j => Tr.get_one f (k / 2) x j (by omega)
    cases m with
    | zero => cases Nat.beq (k % 2) 0 <;> simp [Tr.get_zero]
    | succ j =>
      by_cases c : j = k
      · subst c
        cases hk : Nat.beq (j % 2) 0 <;> simp [Tr.get_succ, hk, ih]
      · have e := fun h hc => c ((half_inj (k := j) (m := k) h).1 hc)
        cases hk : Nat.beq (k % 2) 0 <;> cases hj : Nat.beq (j % 2) 0 <;> simp [Tr.get_succ, hj, Tr.get_lf, ih, c]
        · exact fun h => absurd h (e (by rw [hj, hk]))
        · exact fun h => absurd h (e (by rw [hj, hk]))
theorem Tr.get_set {α : Type} : ∀ (t : Tr α) (n : Nat) (x : Option α) (m : Nat), (t.set n x).get m = if m = n then x else t.get m
  | .lf, n, x, m => by rw [Tr.set_lf, Tr.get_one _ _ _ _ (by omega), Tr.get_lf]
  | .nd l v r, 0, x, m => by
    rw [Tr.set_zero]
    cases m with
    | zero => rfl
    | succ j => rw [Tr.get_succ, Tr.get_succ]; simp
  | .nd l v r, k + 1, x, m => by
    rw [Tr.set_succ]
    have ihl := fun j => Tr.get_set l (k / 2) x j
    have ihr := fun j => Tr.get_set r (k / 2) x j
    cases m with
    | zero => cases Nat.beq (k % 2) 0 <;> simp [Tr.get_zero]
    | succ j =>
      by_cases c : j = k
      · subst c
        cases hk : Nat.beq (j % 2) 0 <;> simp [Tr.get_succ, hk, ihl, ihr]
      · have e := fun h hc => c ((half_inj (k := j) (m := k) h).1 hc)
        cases hk : Nat.beq (k % 2) 0 <;> cases hj : Nat.beq (j % 2) 0 <;> simp [Tr.get_succ, hj, ihl, ihr, c]
        · exact fun h => absurd h (e (by rw [hj, hk]))
        · exact fun h => absurd h (e (by rw [hj, hk]))
inductive AObj where
  | cells (vs : List Value) (elem : TypeId) (sz : Nat) (loose own : Bool)
  | map (ks vs : List Value) (bs : List Nat) (clock : Nat)
def AObj.own : AObj → Bool
  | .cells _ _ _ _ o => o
  | .map .. => true
structure Heap where
  mem : Tr AObj
  next : Nat
def Heap.get (H : Heap) (n : Nat) : Option AObj := H.mem.get n
def Heap.put (H : Heap) (n : Nat) (o : Option AObj) : Heap := { H with mem := H.mem.set n o }
def Heap.push (H : Heap) (o : AObj) : Heap := { mem := H.mem.set H.next (some o), next := H.next + 1 }
theorem Heap.get_put (H : Heap) (n : Nat) (o : Option AObj) (m : Nat) : (H.put n o).get m = if m = n then o else H.get m := Tr.get_set _ _ _ _
theorem Heap.get_push (H : Heap) (o : AObj) (m : Nat) : (H.push o).get m = if m = H.next then some o else H.get m := Tr.get_set _ _ _ _
structure Base where
  w : World
  prot : Nat → Prop
  lt : ∀ i, prot i → i < w.heap.size
  z : Nat → Nat → Option Value
def objR (F : Nm) (w0 : Base) (w : World) (n : Nat) : AObj → Prop
  | .cells vs elem sz loose own => ∃ b d o c fz, F n = some (b, d, o) ∧ (∃ t, w.heap[b]? = some (.cells c t fz) ∧ (own = true → t = elem)) ∧
      VRL F vs ((c.toList.drop o).take vs.length) ∧ o + vs.length + d * sz ≤ c.size ∧
      (loose = false → d = 0 ∧ o = 0 ∧ c.size = vs.length ∧ fz = (0, 0)) ∧
      (own = true → ¬ w0.prot b ∧ ∀ i, i < c.size → ¬ (fz.1 ≤ i ∧ i < fz.2))
  | .map ks vs bs clock => ∃ b es, F n = some (b, 0, 0) ∧ w.heap[b]? = some (.map es clock) ∧ VRL F ks (es.toList.map (·.key)) ∧ VRL F vs (es.toList.map (·.val)) ∧ es.toList.map (·.born) = bs ∧ ¬ w0.prot b
def blk (F : Nm) (n : Nat) : Option Nat := (F n).map (·.1)
theorem objR_blk {F : Nm} {w0 : Base} {w : World} {n : Nat} {o : AObj} (h : objR F w0 w n o) : ∃ b, blk F n = some b ∧ b < w.heap.size ∧ (o.own = true → ¬ w0.prot b) := by
  have key : ∀ (b : Nat) (x : Obj), w.heap[b]? = some x → b < w.heap.size := fun b x hw => by
    rcases Nat.lt_or_ge b w.heap.size with h | h
    · exact h
    · rw [Array.getElem?_eq_none h] at hw; cases hw
  cases o with
  | cells vs elem sz lo ow =>
    obtain ⟨b, d, o, c, fz, hF, ⟨t, hw, _⟩, _, _, _, hown⟩ := h
    exact ⟨b, by simp [blk, hF], key _ _ hw, fun ho => (hown ho).1⟩
  | map ks vs bs clock =>
    obtain ⟨b, es, hF, hw, _, _, _, hp⟩ := h
    exact ⟨b, by simp [blk, hF], key _ _ hw, fun _ => hp⟩
theorem objR_mono {F F' : Nm} (hle : Nm.le F F') {w0 : Base} {w : World} {n : Nat} {o : AObj} (h : objR F w0 w n o) : objR F' w0 w n o := by
  cases o with
  | cells vs elem sz lo ow =>
    obtain ⟨b, d, o, c, fz, hF, hw, hl, rest⟩ := h
    exact ⟨b, d, o, c, fz, hle.nm _ _ hF, hw, VRL.mono hle _ _ hl, rest⟩
  | map ks vs bs clock =>
    obtain ⟨b, es, hF, hw, h1, h2, rest⟩ := h
    exact ⟨b, es, hle.nm _ _ hF, hw, VRL.mono hle _ _ h1, VRL.mono hle _ _ h2, rest⟩
theorem objR_base {F : Nm} {B B' : Base} {w : World} {n : Nat} {o : AObj} (h : objR F B w n o) (hb : o.own = true → ∀ b, blk F n = some b → ¬ B.prot b → ¬ B'.prot b) : objR F B' w n o := by
  cases o with
  | cells vs elem sz lo ow =>
    obtain ⟨b, d, o, c, fz, hF, hw, hl, h1, h2, hown⟩ := h
    exact ⟨b, d, o, c, fz, hF, hw, hl, h1, h2, fun ho => ⟨hb ho b (by simp [blk, hF]) (hown ho).1, (hown ho).2⟩⟩
  | map ks vs bs clock =>
    obtain ⟨b, es, hF, hw, h1, h2, h3, hp⟩ := h
    exact ⟨b, es, hF, hw, h1, h2, h3, hb rfl b (by simp [blk, hF]) hp⟩
structure Rel (G : Nat) (F : Nm) (H : Heap) (w0 : Base) (w : World) : Prop where
  obj : ∀ n o, H.get n = some o → objR F w0 w n o
  inj : ∀ n m o o', H.get n = some o → H.get m = some o' → n ≠ m → o.own = true → blk F n ≠ blk F m
  fresh : ∀ n, H.next ≤ n → F n = none
  glob : ∀ g, g < G → F g = some (g, 0, 0)
  base : w0.w.heap.size ≤ w.heap.size
  frame : ∀ i, w0.prot i → w.heap[i]? = w0.w.heap[i]?
  froz : ∀ b i v, F.z b i = some v → (∃ c t fz, w.heap[b]? = some (.cells c t fz) ∧ c[i]? = some v) ∧ ∀ n o, H.get n = some o → o.own = true → blk F n ≠ some b
  zprot : ∀ b i v, F.z b i = some v → w0.prot b → w0.z b i = some v
  os : w.os = w0.w.os
  out : w.output = w0.w.output
  tape : w.tape = w0.w.tape
section
variable {G : Nat} {F : Nm} {H : Heap} {w0 : Base} {w : World}
theorem Rel.nolive (R : Rel G F H w0 w) {n : Nat} (h : H.next ≤ n) : H.get n = none := by
  cases e : H.get n with
  | none => rfl
  | some o =>
    obtain ⟨b, hb, _⟩ := objR_blk (R.obj n o e)
    simp [blk, R.fresh n h] at hb
theorem Rel.draws (R : Rel G F H w0 w) (k : Nat) : Rel G F H w0 { w with drawn := k } :=
  { obj := R.obj, inj := R.inj, fresh := R.fresh, glob := R.glob, base := R.base, frame := R.frame, froz := R.froz, zprot := R.zprot, os := R.os, out := R.out, tape := R.tape }
theorem Rel.cell (R : Rel G F H w0 w) {a a' : Addr} (ha : AR F a a') (hs : a.spot = none) {vs : List Value} {elem : TypeId} {sz : Nat} {lo ow : Bool}
    (hg : H.get a.block = some (.cells vs elem sz lo ow)) {v : Value} (hv : vs[a.off]? = some v) : ∃ v', w.cell? a' = some v' ∧ VR F v v' := by
  obtain ⟨b, d, o, c, fz, hF, ⟨t, hw, _⟩, hl, hsz, _⟩ := R.obj _ _ hg
  obtain ⟨d2, o2, e, h1, h2⟩ := ha
  rw [hF] at e; simp only [Option.some.injEq, Prod.mk.injEq] at e
  obtain ⟨e1, e2, e3⟩ := e
  obtain ⟨v', h3, h4⟩ := hl.get hv
  refine ⟨v', ?_, h4⟩
  unfold World.cell?
  rw [← e1, hw, h2, hs]
  simp only [Option.isSome_none, Bool.false_eq_true, if_false]
  rw [List.getElem?_take] at h3
  split at h3
  · rw [List.getElem?_drop] at h3
    rw [h1, ← e3, Nat.add_comm, ← h3]; simp
  · cases h3
def ldrop (l : List Value) : Nat → List Value := List.rec (motive := fun _ => Nat → List Value) (fun _ => []) (fun a b ih n => Nat.rec (motive := fun _ => List Value) (a :: b) (fun k _ => ih k) n) l
def ltake (l : List Value) : Nat → List Value := List.rec (motive := fun _ => Nat → List Value) (fun _ => []) (fun a _ ih n => Nat.rec (motive := fun _ => List Value) [] (fun k _ => a :: ih k) n) l
theorem ldrop_eq : ∀ (l : List Value) (n : Nat), ldrop l n = l.drop n
  | [], n => by simp [ldrop]
  | a :: l, 0 => rfl
  | a :: l, n + 1 => by show ldrop l n = _; rw [ldrop_eq l n]; rfl
theorem ltake_eq : ∀ (l : List Value) (n : Nat), ltake l n = l.take n
  | [], n => by simp [ltake]
  | a :: l, 0 => rfl
  | a :: l, n + 1 => by show a :: ltake l n = _; rw [ltake_eq l n]; rfl
def ldropQ (l : List Value) (q : Nat) : List Value := Nat.rec (motive := fun _ => List Value) l (fun _ ih => ldrop ih 64) q
theorem ldropQ_eq (l : List Value) : ∀ q : Nat, ldropQ l q = l.drop (q * 64)
  | 0 => by rw [Nat.zero_mul, List.drop_zero]; rfl
  | q + 1 => by
    show ldrop (ldropQ l q) 64 = _
    rw [ldrop_eq, ldropQ_eq l q, List.drop_drop, Nat.succ_mul]
def lcut (l : List Value) (off n : Nat) : List Value := ltake (ldrop (ldropQ l (Nat.div off 64)) (Nat.mod off 64)) n
theorem lcut_eq (l : List Value) (off n : Nat) : lcut l off n = (l.drop off).take n := by
  have e : Nat.div off 64 * 64 + Nat.mod off 64 = off := by
    have := Nat.div_add_mod off 64
    rw [Nat.mul_comm] at this; exact this
  rw [lcut, ltake_eq, ldrop_eq, ldropQ_eq, List.drop_drop, e]
def reaches (l : List Value) (off n : Nat) : Bool :=
  match n with
  | 0 => Nat.ble off l.length
  | k + 1 => Nat.beq (lcut l off (k + 1)).length (k + 1)
theorem reaches_le {l : List Value} {off : Nat} : ∀ {n : Nat}, reaches l off n = true → off + n ≤ l.length
  | 0, h => Nat.le_of_ble_eq_true h
  | k + 1, h => by
    have h := Nat.eq_of_beq_eq_true h
    rw [lcut_eq, List.length_take, List.length_drop] at h
    omega
def aCells (H : Heap) (a : Addr) (n : Nat) : Option (List Value) :=
  match n with
  | 0 => some []
  | _ => match a.spot with
    | some _ => none
    | none => match H.get a.block with
      | some (.cells vs _ _ _ _) => match reaches vs a.off n with
        | true => some (lcut vs a.off n)
        | false => none
      | _ => none
theorem Addr.add_add (a : Addr) (i j : Nat) : (a.add i).add j = a.add (i + j) := by
  unfold Addr.add; by_cases hi : i = 0 <;> by_cases hj : j = 0 <;> simp [hi, hj, Nat.add_assoc]
theorem loadCellsFrom_run (P : Program) (R : Rel G F H w0 w) {a a' : Addr} (ha : AR F a a') (hs : a.spot = none) {vs : List Value} {elem : TypeId} {sz : Nat} {lo ow : Bool}
    (hg : H.get a.block = some (.cells vs elem sz lo ow)) : ∀ (n i : Nat) (acc : Array Value), a.off + i + n ≤ vs.length →
    ∃ l', (loadCellsFrom a' i n acc).run P w = .ok (acc ++ l'.toArray) w ∧ VRL F ((vs.drop (a.off + i)).take n) l'
  | 0, i, acc, _ => ⟨[], by simp [loadCellsFrom], by simp [VRL]⟩
  | n + 1, i, acc, hle => by
    have hlt : a.off + i < vs.length := by omega
    have hv : vs[(a.add i).off]? = some vs[a.off + i] := by
      have : (a.add i).off = a.off + i := by unfold Addr.add; split <;> simp_all
      rw [this]; simp [hlt]
    have hb : (a.add i).block = a.block := by unfold Addr.add; split <;> rfl
    have hsp : (a.add i).spot = none := by unfold Addr.add; split <;> simp [hs]
    obtain ⟨v', hc, hvr⟩ := R.cell (ha.add i) hsp (by rw [hb]; exact hg) hv
    obtain ⟨l', hr, hl⟩ := loadCellsFrom_run P R ha hs hg n (i + 1) (acc.push v') (by omega)
    refine ⟨v' :: l', ?_, ?_⟩
    · simp only [loadCellsFrom, Sem.run_bind, run_load, hc, Result.andThen_ok, hr]
      simp
    · rw [List.drop_eq_getElem_cons hlt, List.take_succ_cons]
      simp only [VRL]; exact ⟨v', l', hvr, by simpa [Nat.add_assoc] using hl, rfl⟩
theorem Rel.loadCells (P : Program) (R : Rel G F H w0 w) {a a' : Addr} (ha : AR F a a') {n : Nat} {l : List Value} (h : aCells H a n = some l) :
    ∃ l', (loadCells a' n).run P w = .ok l'.toArray w ∧ VRL F l l' := by
  unfold aCells at h
  simp only [lcut_eq] at h
  split at h
  · simp only [Option.some.injEq] at h; subst h
    exact ⟨[], by simp [Go.loadCells, loadCellsFrom], by simp [VRL]⟩
  · split at h
    · cases h
    · rename_i hs
      split at h
      · rename_i vs elem sz lo ow hg
        split at h
        · rename_i hle
          simp only [Option.some.injEq] at h; subst h
          obtain ⟨l', hr, hl⟩ := loadCellsFrom_run P R ha hs hg n 0 #[] (by have := reaches_le hle; omega)
          exact ⟨l', by simpa [Go.loadCells] using hr, by simpa using hl⟩
        · cases h
      · cases h
def isCell : Value → Bool
  | .agg _ | .tuple _ | .chan (some _) => false
  | _ => true
theorem isTop_cell {v : Value} (h : v.cells.toList.all Abs.isCell = true) : isTop v = false := by
  cases v <;> first | rfl | skip
  rename_i a; cases a <;> first | rfl | (simp [Value.cells, Abs.isCell] at h)
theorem VR.isCell {F : Nm} {v v' : Value} (h : VR F v v') (hc : isCell v = true) : v'.oneCell' = true := by
  cases v with
  | agg cs => simp [Abs.isCell] at hc
  | tuple cs => simp [Abs.isCell] at hc
  | pointer a => cases a <;> simp only [VR] at h <;> first
      | (subst h; rfl)
      | (obtain ⟨_, _, e⟩ := h; subst e; rfl)
  | slice a l c => cases a <;> simp only [VR] at h <;> first
      | (subst h; rfl)
      | (obtain ⟨_, _, _, _, _, _, e⟩ := h; subst e; rfl)
  | map a => cases a <;> simp only [VR] at h <;> first
      | (subst h; rfl)
      | (obtain ⟨_, _, _, _, e⟩ := h; subst e; rfl)
  | chan a => cases a <;> simp only [VR] at h <;> first
      | (subst h; rfl)
      | (cases hc)
  | func f x y => simp only [VR] at h; obtain ⟨_, _, _, _, e⟩ := h; subst e; rfl
  | iface t x => rcases h.iface_cases with ⟨_, _, _, e⟩ | ⟨_, ⟨_, _, _, e⟩ | ⟨_, e⟩⟩ <;> subst e <;> rfl
  | _ => simp only [VR] at h; subst h; rfl
theorem objR_other {F : Nm} {w0 : Base} {w w' : World} {n : Nat} {o : AObj} (h : objR F w0 w n o) (hb : ∀ b, blk F n = some b → w'.heap[b]? = w.heap[b]?) : objR F w0 w' n o := by
  cases o with
  | cells vs elem sz lo ow =>
    obtain ⟨b, d, o, c, fz, hF, hw, rest⟩ := h
    exact ⟨b, d, o, c, fz, hF, by rw [hb b (by simp [blk, hF])]; exact hw, rest⟩
  | map ks vs bs clock =>
    obtain ⟨b, es, hF, hw, rest⟩ := h
    exact ⟨b, es, hF, by rw [hb b (by simp [blk, hF])]; exact hw, rest⟩
theorem heap_setCell (w : World) (a : Addr) (v : Value) (i : Nat) (h : i ≠ a.block) : (w.setCell a v).heap[i]? = w.heap[i]? := by
  simp only [World.setCell, Array.getElem?_modify]; rw [if_neg (by omega)]
theorem Rel.setCell (R : Rel G F H w0 w) {a a' : Addr} (ha : AR F a a') (hs : a.spot = none) {vs : List Value} {elem : TypeId} {sz : Nat} {lo : Bool}
    (hg : H.get a.block = some (.cells vs elem sz lo true)) {v v' : Value} (hlt : a.off < vs.length) (hv : VR F v v') :
    w.frozen? a' = false ∧ Rel G F (H.put a.block (some (.cells (vs.set a.off v) elem sz lo true))) w0 (w.setCell a' v') := by
  obtain ⟨b, d, o, c, fz, hF, ⟨t, hw, ht⟩, hl, hsz, hex, hown⟩ := R.obj _ _ hg
  have ht := ht rfl
  rw [ht] at hw
  obtain ⟨d2, o2, e, h1, h2⟩ := ha
  rw [hF] at e; simp only [Option.some.injEq, Prod.mk.injEq] at e
  obtain ⟨e1, e2, e3⟩ := e
  obtain ⟨hb0, hfz⟩ := hown rfl
  have hoff : a'.off < c.size := by omega
  have hws : (w.setCell a' v').heap[b]? = some (.cells (c.setIfInBounds a'.off v') elem fz) := by
    simp only [World.setCell, Array.getElem?_modify]
    rw [if_pos e1.symm, hw]; simp [h2, hs]
  refine ⟨?_, ?_⟩
  · unfold World.frozen?
    rw [← e1, hw]
    have := hfz _ hoff
    simp only [Bool.and_eq_false_iff, decide_eq_false_iff_not]
    omega
  · constructor
    · intro n ob hn
      rw [Heap.get_put] at hn
      split at hn
      · rename_i hn'
        subst hn'
        simp only [Option.some.injEq] at hn; subst hn
        refine ⟨b, d, o, _, fz, hF, ⟨_, hws, fun _ => rfl⟩, ?_, ?_, ?_, ?_⟩
        · have := hl.set a.off hv
          rw [List.length_set]
          have e4 : List.take vs.length (List.drop o (c.setIfInBounds a'.off v').toList) = (List.take vs.length (List.drop o c.toList)).set a.off v' := by
            rw [Array.toList_setIfInBounds, ← List.take_set, h1, ← e3]
            congr 1
            rw [Nat.add_comm a.off o]
            rw [List.drop_set]; simp; intro hc; omega
          rw [e4]; exact this
        · simpa using hsz
        · intro hlo; obtain ⟨x1, x2, x3, x4⟩ := hex hlo; exact ⟨x1, x2, by simpa using x3, x4⟩
        · intro _; exact ⟨hb0, by simpa using hfz⟩
      · rename_i hne
        refine objR_other (R.obj n ob hn) fun b' hb' => ?_
        refine heap_setCell _ _ _ _ ?_
        have := R.inj a.block n _ ob hg hn (Ne.symm hne) rfl
        intro hc; apply this; rw [hb']; simp [blk, hF, hc, e1]
    · intro n m ob ob' hn hm hne how
      rw [Heap.get_put] at hn hm
      split at hn <;> split at hm
      · omega
      · rename_i h5 h6; subst h5
        exact R.inj _ m _ ob' hg hm hne rfl
      · rename_i h5 h6; subst h6
        exact R.inj n _ ob _ hn hg hne how
      · exact R.inj n m ob ob' hn hm hne how
    · exact R.fresh
    · exact R.glob
    · simpa using R.base
    · intro i hi
      rw [heap_setCell _ _ _ _ (fun e => hb0 (by rw [e1, ← e]; exact hi))]; exact R.frame i hi
    · intro b' i v2 hz
      obtain ⟨⟨c2, t2, fz2, g1, g2⟩, g3⟩ := R.froz b' i v2 hz
      refine ⟨⟨c2, t2, fz2, ?_, g2⟩, fun n ob hn how => ?_⟩
      · rw [heap_setCell _ _ _ _ (fun e => g3 a.block _ hg rfl (by simp [blk, hF, e, e1]))]; exact g1
      · rw [Heap.get_put] at hn
        split at hn
        · rename_i h5; subst h5; exact g3 _ _ hg rfl
        · exact g3 n ob hn how
    · exact R.zprot
    · exact R.os
    · exact R.out
    · exact R.tape
def Nm.with (F : Nm) (n : Nat) (x : Nat × Nat × Nat) : Nm := ⟨fun m => if m = n then some x else F m, F.z⟩
theorem Nm.le_with {F : Nm} {n : Nat} (h : F n = none) (x : Nat × Nat × Nat) : Nm.le F (F.with n x) := by
  refine ⟨?_, zle_refl _⟩
  intro m y e; simp only [Nm.with]; split
  · rename_i h2; subst h2; rw [h] at e; cases e
  · exact e
theorem Nm.with_self (F : Nm) (n : Nat) (x : Nat × Nat × Nat) : F.with n x n = some x := by simp [Nm.with]
theorem Rel.pushObj (R : Rel G F H w0 w) {new : AObj} {x : Obj} {d : Nat} (hnew : Nm.le F (F.with H.next (w.heap.size, d, 0)) → objR (F.with H.next (w.heap.size, d, 0)) w0 { w with heap := w.heap.push x } H.next new) :
    Nm.le F (F.with H.next (w.heap.size, d, 0)) ∧ Rel G (F.with H.next (w.heap.size, d, 0)) (H.push new) w0 { w with heap := w.heap.push x } := by
  have hle : Nm.le F (F.with H.next (w.heap.size, d, 0)) := Nm.le_with (R.fresh _ (Nat.le_refl _)) _
  refine ⟨hle, ?_⟩
  have hlt : ∀ n o, H.get n = some o → ∃ b, blk F n = some b ∧ b < w.heap.size ∧ blk (F.with H.next (w.heap.size, d, 0)) n = some b := by
    intro n o hn
    obtain ⟨b, h1, h2, _⟩ := objR_blk (R.obj n o hn)
    refine ⟨b, h1, h2, ?_⟩
    cases hF : F n with
    | none => simp [blk, hF] at h1
    | some x => simp only [blk, hF, Option.map_some] at h1; simp only [blk, hle.nm _ _ hF, Option.map_some]; exact h1
  constructor
  · intro n ob hn
    rw [Heap.get_push] at hn
    split at hn
    · rename_i hn'; subst hn'
      simp only [Option.some.injEq] at hn; subst hn
      exact hnew hle
    · rename_i hne
      have h1 := R.obj n ob hn
      obtain ⟨b, hb1, hb2, hb3⟩ := hlt n ob hn
      refine objR_mono hle (objR_other h1 fun b' hb' => ?_)
      rw [hb1] at hb'; simp only [Option.some.injEq] at hb'; subst hb'
      simp only [Array.getElem?_push]; rw [if_neg (by omega)]
  · intro n m ob ob' hn hm hne how
    rw [Heap.get_push] at hn hm
    split at hn <;> split at hm
    · omega
    · rename_i h5 h6; subst h5
      obtain ⟨b, hb1, hb2, hb3⟩ := hlt m ob' hm
      rw [hb3]; simp [blk, Nm.with_self]; omega
    · rename_i h5 h6; subst h6
      obtain ⟨b, hb1, hb2, hb3⟩ := hlt n ob hn
      rw [hb3]; simp [blk, Nm.with_self]; omega
    · obtain ⟨b, hb1, hb2, hb3⟩ := hlt n ob hn
      obtain ⟨b', hb1', hb2', hb3'⟩ := hlt m ob' hm
      rw [hb3, hb3', ← hb1, ← hb1']; exact R.inj n m ob ob' hn hm hne how
  · intro n hn
    simp only [Heap.push] at hn
    simp only [Nm.with]; rw [if_neg (by omega)]; exact R.fresh n (by omega)
  · intro g hg
    exact hle.nm _ _ (R.glob g hg)
  · simp only [Array.size_push]; have := R.base; omega
  · intro i hi
    have h0 := R.base
    have h1 := w0.lt i hi
    simp only [Array.getElem?_push]; rw [if_neg (by omega)]; exact R.frame i hi
  · intro b' i v2 hz
    obtain ⟨⟨c2, t2, fz2, g1, g2⟩, g3⟩ := R.froz b' i v2 hz
    have hb' : b' < w.heap.size := by
      rcases Nat.lt_or_ge b' w.heap.size with h | h
      · exact h
      · rw [Array.getElem?_eq_none h] at g1; cases g1
    refine ⟨⟨c2, t2, fz2, ?_, g2⟩, fun n ob hn how => ?_⟩
    · simp only [Array.getElem?_push]; rw [if_neg (by omega)]; exact g1
    · rw [Heap.get_push] at hn
      split at hn
      · rename_i h5; subst h5; simp [blk, Nm.with_self]; omega
      · obtain ⟨b, hb1, hb2, hb3⟩ := hlt n ob hn
        rw [hb3, ← hb1]; exact g3 n ob hn how
  · exact R.zprot
  · exact R.os
  · exact R.out
  · exact R.tape
theorem Rel.push (R : Rel G F H w0 w) {vs : List Value} {c : Array Value} {elem : TypeId} {sz d : Nat} {lo : Bool} (fz : Nat × Nat)
    (hv : VRL F vs (c.toList.take vs.length)) (hsz : vs.length + d * sz ≤ c.size) (hlo : lo = false → d = 0 ∧ c.size = vs.length ∧ fz = (0, 0))
    (hfz : ∀ i, i < c.size → ¬ (fz.1 ≤ i ∧ i < fz.2)) :
    Nm.le F (F.with H.next (w.heap.size, d, 0)) ∧ Rel G (F.with H.next (w.heap.size, d, 0)) (H.push (.cells vs elem sz lo true)) w0 { w with heap := w.heap.push (.cells c elem fz) } := by
  refine R.pushObj fun hle => ?_
  refine ⟨w.heap.size, d, 0, c, fz, Nm.with_self _ _ _, ⟨_, by simp, fun _ => rfl⟩, ?_, by omega, fun h => ?_, fun _ => ⟨fun hp => by have h1 := w0.lt _ hp; have h2 := R.base; omega, hfz⟩⟩
  · simpa using VRL.mono hle _ _ hv
  · obtain ⟨x1, x2, x3⟩ := hlo h; exact ⟨x1, rfl, x2, x3⟩
theorem Rel.pushMap (R : Rel G F H w0 w) : Nm.le F (F.with H.next (w.heap.size, 0, 0)) ∧ Rel G (F.with H.next (w.heap.size, 0, 0)) (H.push (.map [] [] [] 0)) w0 { w with heap := w.heap.push (.map #[] 0) } := by
  refine R.pushObj fun hle => ?_
  exact ⟨w.heap.size, #[], Nm.with_self _ _ _, by simp, by simp [VRL], by simp [VRL], rfl, fun hp => by have h1 := w0.lt _ hp; have h2 := R.base; omega⟩
theorem Rel.setMap (R : Rel G F H w0 w) {r b d o : Nat} (hF : F r = some (b, d, o)) {ks vs : List Value} {bs : List Nat} {clock : Nat} (hg : H.get r = some (.map ks vs bs clock)) {es' : Array MapEntry} {clock' : Nat} {ks' vs' : List Value} {bs' : List Nat}
    (hk : VRL F ks' (es'.toList.map (·.key))) (hv : VRL F vs' (es'.toList.map (·.val))) (hbo : es'.toList.map (·.born) = bs') :
    Rel G F (H.put r (some (.map ks' vs' bs' clock'))) w0 { w with heap := w.heap.setIfInBounds b (.map es' clock') } := by
  obtain ⟨b2, es, hF2, hw, _, _, _, hp⟩ := R.obj _ _ hg
  rw [hF] at hF2; simp only [Option.some.injEq, Prod.mk.injEq] at hF2
  obtain ⟨e1, e2, e3⟩ := hF2
  subst e1; subst e2; subst e3
  have hlt : b < w.heap.size := by
    rcases Nat.lt_or_ge b w.heap.size with h | h
    · exact h
    · rw [Array.getElem?_eq_none h] at hw; cases hw
  have hne : ∀ i, i ≠ b → (w.heap.setIfInBounds b (.map es' clock'))[i]? = w.heap[i]? := fun i h => by rw [Array.getElem?_setIfInBounds]; rw [if_neg (by omega)]
  constructor
  · intro n ob hn
    rw [Heap.get_put] at hn
    split at hn
    · rename_i hn'
      subst hn'
      simp only [Option.some.injEq] at hn; subst hn
      exact ⟨b, es', hF, by simp [hlt], hk, hv, hbo, hp⟩
    · rename_i hne'
      refine objR_other (R.obj n ob hn) fun b' hb' => hne b' fun hc => ?_
      have := R.inj r n _ ob hg hn (Ne.symm hne') rfl
      apply this; rw [hb']; simp [blk, hF, hc]
  · intro n m ob ob' hn hm hne' how
    rw [Heap.get_put] at hn hm
    split at hn <;> split at hm
    · omega
    · rename_i h5 h6; subst h5
      exact R.inj _ m _ ob' hg hm hne' rfl
    · rename_i h5 h6; subst h6
      exact R.inj n _ ob _ hn hg hne' how
    · exact R.inj n m ob ob' hn hm hne' how
  · exact R.fresh
  · exact R.glob
  · simpa using R.base
  · intro i hi
    rw [← R.frame i hi]
    exact hne i fun e => hp (e ▸ hi)
  · intro b' i v2 hz
    obtain ⟨⟨c2, t2, fz2, g1, g2⟩, g3⟩ := R.froz b' i v2 hz
    refine ⟨⟨c2, t2, fz2, ?_, g2⟩, fun n ob hn how => ?_⟩
    · rw [← g1]; exact hne b' fun e => g3 r _ hg rfl (by simp [blk, hF, e])
    · rw [Heap.get_put] at hn
      split at hn
      · rename_i h5; subst h5; exact g3 _ _ hg rfl
      · exact g3 n ob hn how
  · exact R.zprot
  · exact R.os
  · exact R.out
  · exact R.tape
end
end
end Go.Abs
