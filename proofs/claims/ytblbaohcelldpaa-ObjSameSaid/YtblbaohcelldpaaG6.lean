/- How the slices that come in are told to the evaluator. -/
import Derived.Test.YtblbaohcelldpaaG5
import Derived.Test.YtblbaohcelldpaaD11
namespace Go.Proofs.Ytblbaohcelldpaa.Ob
open Go Go.Abs Go.ChangeShapes Go.WideShapes Go.ChangeAt Go.RowKit Go.Deep
set_option linter.unusedVariables false
noncomputable section
theorem cks_ints {H : Type} {enc : TypeId × Value → H} {P : Program} {W : World} {base : Nat} {spare : Nat → Bool} {held : Bool} : ∀ {ks : List IntKind} {cs : List Value}, CksOk enc P W base spare held (ks.map CK.int) cs →
    cs.length = ks.length ∧ ∀ (j : Nat) k, ks[j]? = some k → ∃ z, cs[j]? = some (.int k z)
  | [], cs, h => by simp only [List.map_nil, CksOk] at h; subst h; exact ⟨rfl, fun j k hj => by simp at hj⟩
  | k :: ks, cs, ⟨v, r, e, ⟨z, hz, _⟩, h2⟩ => by
    subst e
    obtain ⟨g1, g2⟩ := cks_ints h2
    refine ⟨by simp [g1], fun j k' hj => ?_⟩
    cases j with
    | zero => simp only [List.getElem?_cons_zero, Option.some.injEq] at hj; subst hj; exact ⟨z, by rw [hz]; rfl⟩
    | succ j => simpa using g2 j k' (by simpa using hj)
theorem wAll_mem {H : Type} {P : Program} {e : TypeId} {d : DataW H} {n : Nat} (hn : n ∈ d.weights P e) : ∀ {l : List (DataW H)}, d ∈ l → n ∈ DataW.weightsAll P e l
  | [], h => by cases h
  | x :: l, h => by
    simp only [DataW.weightsAll, List.mem_append]
    rcases List.mem_cons.1 h with e | h
    · subst e; exact .inl hn
    · exact .inr (wAll_mem hn h)
/-- Where a list's cells lie. -/
structure Lies (W : World) (a : Addr) (len cap sz : Nat) (vs : List Value) : Prop where
  spot : a.spot = none
  le : len ≤ cap
  ln : vs.length = len * sz
  cell : ∀ i, i < len * sz → W.cell? ⟨a.block, a.off + i, none⟩ = vs[i]?
  room : ∀ i, i < cap * sz → (W.cell? ⟨a.block, a.off + i, none⟩).isSome = true
theorem lies_objR {W : World} {a : Addr} {len cap sz : Nat} {vs : List Value} (h : Lies W a len cap sz vs) (hc : 0 < cap) (hs : 0 < sz) (hp : plainL vs = true) {F : Nm} {n : Nat} (hF : F n = some (a.block, cap - len, a.off)) : objR F (allOf W) W n (.cells vs 0 sz true false) := by
  have hpos := Nat.mul_pos hc hs
  have hne := h.room 0 hpos
  obtain ⟨c, t, fz, hw⟩ : ∃ c t fz, W.heap[a.block]? = some (.cells c t fz) := by
    unfold World.cell? at hne
    split at hne
    · rename_i c t fz hw; exact ⟨c, t, fz, hw⟩
    · cases hne
  have hcell : ∀ i, W.cell? ⟨a.block, i, none⟩ = c[i]? := by
    intro i; unfold World.cell?; rw [hw]; simp
  have hlen := h.ln
  have hsize : a.off + cap * sz ≤ c.size := by
    have := h.room (cap * sz - 1) (by omega)
    rw [hcell] at this
    have h2 : a.off + (cap * sz - 1) < c.size := by
      rcases Nat.lt_or_ge (a.off + (cap * sz - 1)) c.size with h3 | h3
      · exact h3
      · rw [Array.getElem?_eq_none h3] at this; cases this
    omega
  have hle := Nat.mul_le_mul_right sz h.le
  refine ⟨a.block, cap - len, a.off, c, fz, hF, ⟨t, hw, fun e => by cases e⟩, ?_, ?_, (fun e => by cases e), (fun e => by cases e)⟩
  · refine (VRL.plain_eq _ _ hp).2 ?_
    apply List.ext_getElem?
    intro i
    rw [List.getElem?_take, hlen]
    split
    · rename_i hi
      rw [List.getElem?_drop, ← h.cell i hi, hcell]; simp
    · rename_i hi
      rw [List.getElem?_eq_none (by omega)]
  · rw [hlen, Nat.sub_mul]; omega
theorem slice_of {H : Type} {enc : TypeId × Value → H} {W : World} {t e : TypeId} {ks : List IntKind} {d : Nat} (hu : Try.prog.underlying t = some (.slice e)) (he : flatK Try.prog d e = some (ks.map CK.int)) (hc : Try.prog.cellsOf e = ks.length) (hpos : 0 < ks.length)
    (hby : 0 < Try.prog.bytesOf e) {v : Value} (h : CkOk enc Try.prog W 0 (fun _ => true) true (.sl t) v) (b : Nat) :
    ∃ (x : Option (Nat × Nat × Nat)) (o : Option AObj) (sv : Value) (vs : List Value) (n : Nat), Sv ks b sv o vs n ∧ n ≤ 140737488355328 ∧ ∀ F : Nm, F b = x → (∀ o', o = some o' → o'.own = false ∧ objR F (allOf W) W b o') ∧ VR F sv v := by
  obtain ⟨fuel, x, hx, hw⟩ := h
  rcases open_slice hu hx with ⟨e0, _⟩ | ⟨a, len, cap, m, n, D, Pl, hcs, hb, hl, hm, hmm, hxx, hi⟩
  · simp only [List.cons.injEq, and_true] at e0
    subst e0
    exact ⟨none, none, .slice none 0 0, [], 0, .inl ⟨rfl, rfl, rfl, rfl⟩, by omega, fun F hF => ⟨(fun o ho => by cases ho), by simp only [VR]⟩⟩
  · simp only [List.cons.injEq, and_true] at hcs
    subst hcs
    simp only [if_true] at hmm
    subst hmm
    have hweights : ∀ k ∈ (len + (m - len)) * Try.prog.bytesOf e :: (DataW.weightsAll Try.prog e ((List.range len).map D) ++ DataW.weightsAll Try.prog e ((List.range (m - len)).map fun j => D (len + j))), k ≤ reachBytes := by
      intro k hk
      refine hw k ?_
      rw [hxx]
      simp only [DataW.weights, hu, List.length_map, List.length_range]
      exact hk
    have hcap : m ≤ 140737488355328 := by
      have h1 := hweights _ (List.mem_cons_self ..)
      rw [show len + (m - len) = m by omega] at h1
      have h2 : m * 1 ≤ m * Try.prog.bytesOf e := Nat.mul_le_mul_left m hby
      unfold reachBytes at h1
      omega
    rcases Nat.eq_zero_or_pos m with c | c
    · have hlen : len = 0 := by omega
      subst c; subst hlen
      refine ⟨some (a.block, 0, a.off), none, .slice (some ⟨b, 0, a.spot⟩) 0 0, [], 0, .inr (.inl ⟨rfl, rfl, rfl, a.spot, rfl⟩), by omega, fun F hF => ⟨(fun o ho => by cases ho), ?_⟩⟩
      simp only [VR]
      exact ⟨a, 0, a.off, hF, by simp, rfl, rfl⟩
    · rw [hc] at hi
      have hrow : ∀ i, i < m → ∃ r : List Value, (r.length = ks.length ∧ ∀ (j : Nat) k, ks[j]? = some k → ∃ z, r[j]? = some (.int k z)) ∧ ∀ j, j < ks.length → W.cell? ((a.add (i * ks.length)).add j) = r[j]? := by
        intro i him
        obtain ⟨cs', hc1, hc2⟩ := hi i him
        obtain ⟨_, _, hat⟩ := World.cells?_some hc1
        have hD : ∀ k ∈ (D i).weights Try.prog e, k ≤ reachBytes := by
          intro k hk
          refine hweights k (List.mem_cons_of_mem _ (List.mem_append.2 ?_))
          by_cases hil : i < len
          · exact .inl (wAll_mem hk (List.mem_map.2 ⟨i, List.mem_range.2 hil, rfl⟩))
          · exact .inr (wAll_mem hk (List.mem_map.2 ⟨i - len, List.mem_range.2 (by omega), by rw [show len + (i - len) = i by omega]⟩))
        exact ⟨cs', cks_ints (flat_ok d e _ he _ _ _ hc2 hD), hat⟩
      have hsp : a.spot = none := by
        obtain ⟨r, hr, hx0⟩ := hrow 0 c
        have h0 := hx0 0 hpos
        cases hs : a.spot with
        | none => rfl
        | some z =>
          have e1 : (a.add (0 * ks.length)).add 0 = a := by simp [Addr.add]
          rw [e1] at h0
          have : W.cell? a = none := by
            unfold World.cell?; split
            · simp [hs]
            · rfl
          rw [this] at h0
          have : r[0]? ≠ none := by rw [List.getElem?_eq_getElem (by omega)]; simp
          exact absurd h0.symm this
      obtain ⟨blk, o, sp⟩ := a
      simp only at hsp; subst hsp
      simp only [Addr.add_none] at hrow
      let f : Nat → List Value := fun i => if h : i < m then Classical.choose (hrow i h) else List.replicate ks.length (.bool true)
      have hfs : ∀ i, i < m → ((f i).length = ks.length ∧ ∀ (j : Nat) k, ks[j]? = some k → ∃ z, (f i)[j]? = some (.int k z)) ∧ ∀ j, j < ks.length → W.cell? ⟨blk, o + i * ks.length + j, none⟩ = (f i)[j]? := by
        intro i hi'
        have : f i = Classical.choose (hrow i hi') := by simp only [f, dif_pos hi']
        rw [this]; exact Classical.choose_spec (hrow i hi')
      have hfl : ∀ i, (f i).length = ks.length := by
        intro i
        by_cases h : i < m
        · exact (hfs i h).1.1
        · simp only [f, dif_neg h, List.length_replicate]
      have hvl : ((List.range len).flatMap f).length = len * ks.length := by rw [flat_len f hfl, List.length_range]
      have hget : ∀ i, i < len → ∀ j, j < ks.length → ((List.range len).flatMap f)[i * ks.length + j]? = (f i)[j]? := by
        intro i hi' j hj
        rw [flat_get f hfl _ _ _ hj, List.getElem?_range hi']; rfl
      have hT : TyL ks ((List.range len).flatMap f) len := by
        refine ⟨hvl, fun i hi' j k hj => ?_⟩
        have hjl : j < ks.length := (List.getElem?_eq_some_iff.1 hj).1
        rw [hget i hi' j hjl]
        exact (hfs i (by omega)).1.2 j k hj
      have hdm : ∀ i, i / ks.length * ks.length + i % ks.length = i := fun i => by rw [Nat.mul_comm]; exact Nat.div_add_mod i _
      have hL : Lies W ⟨blk, o, none⟩ len m ks.length ((List.range len).flatMap f) := by
        refine ⟨rfl, hl, hvl, fun i hi' => ?_, fun i hi' => ?_⟩
        · have h1 : i / ks.length < len := (Nat.div_lt_iff_lt_mul hpos).2 hi'
          have h2 := Nat.mod_lt i hpos
          have h3 := (hfs _ (by omega : i / ks.length < m)).2 _ h2
          have h4 := hget _ h1 _ h2
          rw [hdm] at h4
          rw [h4, ← h3, Nat.add_assoc, hdm]
        · have h1 : i / ks.length < m := (Nat.div_lt_iff_lt_mul hpos).2 hi'
          have h2 := Nat.mod_lt i hpos
          have h3 := (hfs _ h1).2 _ h2
          rw [Nat.add_assoc, hdm] at h3
          show (W.cell? ⟨blk, o + i, none⟩).isSome = true
          rw [h3, List.getElem?_eq_getElem (by rw [hfl]; exact h2)]; rfl
      refine ⟨some (blk, m - len, o), some (.cells ((List.range len).flatMap f) 0 ks.length true false), .slice (some ⟨b, 0, none⟩) len len, _, len, .inr (.inr ⟨hT, by unfold maxLen at hm; omega, len, 0, ks.length, true, false, rfl, rfl⟩), by omega, fun F hF => ⟨fun o' ho => ?_, ?_⟩⟩
      · simp only [Option.some.injEq] at ho; subst ho
        exact ⟨rfl, lies_objR hL c hpos hT.plain hF⟩
      · simp only [VR]
        exact ⟨⟨blk, o, none⟩, m - len, o, hF, by simp, rfl, by rw [show len + (m - len) = m by omega]⟩
/-! ### Names for what comes in -/
def FL (xs : List (Option (Nat × Nat × Nat))) : Nm := fun n => if n < 100 then some (n, 0, 0) else (xs[n - 100]?).join
theorem entry {W : World} {xs : List (Option (Nat × Nat × Nat))} {objs : List (Option AObj)} (hl : xs.length = objs.length)
    (h : ∀ i o, objs[i]? = some (some o) → o.own = false ∧ objR (FL xs) (allOf W) W (100 + i) o) : Rel 100 (FL xs) (hOf 100 [] objs) (allOf W) W := by
  have hget : ∀ n o, (hOf 100 [] objs).get n = some o → 100 ≤ n ∧ objs[n - 100]? = some (some o) := by
    intro n o hn
    rw [hOf_get] at hn
    split at hn
    · rename_i hr
      refine ⟨hr.1, ?_⟩
      rw [List.getElem?_eq_getElem (by omega)] at hn ⊢
      simpa using hn
    · simp only [glTr, Tr.get_lf] at hn; cases hn
  constructor
  · intro n o hn
    obtain ⟨h1, h2⟩ := hget n o hn
    have := (h _ _ h2).2
    rwa [show 100 + (n - 100) = n by omega] at this
  · intro n m o o' hn hm hne ho
    obtain ⟨h1, h2⟩ := hget n o hn
    rw [(h _ _ h2).1] at ho; cases ho
  · intro n hn
    simp only [hOf] at hn
    unfold FL
    rw [if_neg (by omega), List.getElem?_eq_none (by omega)]; rfl
  · intro g hg; unfold FL; rw [if_pos hg]
  · exact Nat.le_refl _
  · intro i _; rfl
  · rfl
  · rfl
  · rfl
theorem ret_walk {f : FuncId} {args : List Value} {args' : Array Value} {objs : List (Option AObj)} {H' : Heap} {W : World} {xs : List (Option (Nat × Nat × Nat))} (hc : CallH Try.prog 100 (allOf W) f args (hOf 100 [] objs) (.returned (.bool true)) H')
    (R : Rel 100 (FL xs) (hOf 100 [] objs) (allOf W) W) (ha : VRL (FL xs) args args'.toList) :
    Calls Try.prog f args' W fun e w' => e = .returned (.bool true) ∧ Below W.heap.size W w' := by
  refine (hc (FL xs) W args' R ha).mono fun e' w' ⟨F', h1, h2, R'⟩ => ?_
  simp only [EnR] at h2
  obtain ⟨v', h3, h4⟩ := h2
  simp only [VR] at h3
  subst h3
  exact ⟨h4, R'.os, R'.tape, R'.out, R'.base, fun k hk => R'.frame k hk⟩
theorem vr_cons {F : Nm} {v v' : Value} {l l' : List Value} (h : VR F v v') (h' : VRL F l l') : VRL F (v :: l) (v' :: l') := by simp only [VRL]; exact ⟨_, _, h, h', rfl⟩
theorem vr_nil {F : Nm} : VRL F [] [] := by simp only [VRL]
theorem vr_int {F : Nm} {k : IntKind} {n : Int} : VR F (.int k n) (.int k n) := by simp only [VR]
theorem vr_str {F : Nm} {s : ByteArray} : VR F (.string s) (.string s) := by simp only [VR]
theorem vr_bool {F : Nm} {s : Bool} : VR F (.bool s) (.bool s) := by simp only [VR]
theorem vr_agg {F : Nm} {l l' : List Value} (h : VRL F l l') : VR F (.agg ⟨l⟩) (.agg ⟨l'⟩) := by simp only [VR, VRA]; exact ⟨_, h, rfl⟩
end
end Go.Proofs.Ytblbaohcelldpaa.Ob
