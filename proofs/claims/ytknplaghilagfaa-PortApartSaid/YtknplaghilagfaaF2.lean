/- From the memory that a statement speaks of to what the evaluator speaks of: a slice of acts. -/
import Derived.Test.YtknplaghilagfaaF1
import Derived.WalkKit
import Derived.ProofKit
import Derived.OpenShut
import Derived.Carry
import Derived.Deep.Slices
import Derived.Deep.Fields
namespace Go.Proofs.Ytknplaghilagfaa.Po
open Go Go.Abs Go.ChangeShapes Go.WideShapes Go.ChangeAt Go.RowKit Go.Deep
set_option linter.unusedVariables false
noncomputable section
/-- Where the acts lie. -/
structure Lies (W : World) (a : Addr) (len cap : Nat) (l : List Ac) : Prop where
  spot : a.spot = none
  ln : l.length = len
  le : len ≤ cap
  bd : cap ≤ 9223372036854775807
  wf : WF l
  cell : ∀ i (h : i < l.length) j, j < 4 → W.cell? ⟨a.block, a.off + (i * 4 + j), none⟩ = (acV l[i])[j]?
  room : ∀ i, i < cap * 4 → (W.cell? ⟨a.block, a.off + i, none⟩).isSome = true
theorem byte_wf {n : Int} (h : (Lit.int .u8 n).wf = true) : 0 ≤ n ∧ n < 256 := by
  simp [Lit.wf, IntKind.min, IntKind.max, IntKind.signed, IntKind.bits] at h
  omega
theorem act_of {H : Type} {enc : TypeId × Value → H} {W : World} {sp : Nat → Bool} {hd : Bool} {n : Nat} {cs : List Value} {x : DataW H × List MemPlace} (h : DataW.trod enc Try.prog W 0 sp hd n 29 cs = some x) :
    ∃ a : Ac, cs = acV a ∧ 0 ≤ a.k ∧ 0 ≤ a.t ∧ a.t < 256 := by
  obtain ⟨xs, m, _, _, hl, hx, hf⟩ := DataW.trod_struct Try.underlying29 h
  have hl4 : cs.length = 4 := hl.trans (by kernel_rfl)
  match cs, hl4 with
  | [c0, c1, c2, c3], _ =>
    match xs, hx with
    | [y0, y1, y2, y3], _ =>
      have e5 : Try.prog.cellsOf 5 = 1 := by kernel_rfl
      have e3 : Try.prog.cellsOf 3 = 1 := by kernel_rfl
      have e9 : Try.prog.cellsOf 9 = 1 := by kernel_rfl
      obtain ⟨k, g0, _, w0⟩ := DataW.trod_int (x := y0) Try.underlying5 (hf 0 _ rfl)
      obtain ⟨p, g1, _, w1⟩ := DataW.trod_int (x := y1) Try.underlying3 (hf 1 _ rfl)
      obtain ⟨t, g2, _, w2⟩ := DataW.trod_int (x := y2) Try.underlying5 (hf 2 _ rfl)
      obtain ⟨s, g3, _, w3⟩ := DataW.trod_string (x := y3) Try.underlying9 (hf 3 _ rfl)
      replace g0 : List.take (Try.prog.cellsOf 5) [c0, c1, c2, c3] = [Value.int .u8 k] := g0
      replace g1 : List.take (Try.prog.cellsOf 3) [c1, c2, c3] = [Value.int .i64 p] := g1
      replace g2 : List.take (Try.prog.cellsOf 5) [c2, c3] = [Value.int .u8 t] := g2
      replace g3 : List.take (Try.prog.cellsOf 9) [c3] = [Value.string s] := g3
      rw [e5] at g0 g2
      rw [e3] at g1
      rw [e9] at g3
      replace g0 : [c0] = [Value.int .u8 k] := g0
      replace g1 : [c1] = [Value.int .i64 p] := g1
      replace g2 : [c2] = [Value.int .u8 t] := g2
      replace g3 : [c3] = [Value.string s] := g3
      simp only [List.cons.injEq, and_true] at g0 g1 g2 g3
      subst g0; subst g1; subst g2; subst g3
      exact ⟨⟨k, p, t, s⟩, rfl, (byte_wf w0).1, byte_wf w2⟩
theorem acts_of {H : Type} {enc : TypeId × Value → H} {W : World} {v : Value} {d : DataW H} {ps : List MemPlace} (h : DataW.Trod enc Try.prog W 0 (fun _ => true) true 22 v d ps) (hv : ∃ a len cap, v = .slice a len cap) :
    v = .slice none 0 0 ∨ (∃ a, v = .slice (some a) 0 0) ∨ ∃ a len cap l, v = .slice (some a) len cap ∧ Lies W a len cap l := by
  obtain ⟨oa, len, cap, rfl⟩ := hv
  obtain ⟨fuel, hf⟩ := h
  rcases open_slice Try.underlying22 hf with ⟨h0, _⟩ | ⟨a, len', cap', m, n, D, Pl, hcs, hb, hl, hm, hmm, hx, hi⟩
  · left
    have : Value.slice oa len cap = Value.slice none 0 0 := by simpa [Value.cells] using h0
    exact this
  · right
    have he : Value.slice oa len cap = Value.slice (some a) len' cap' := by simpa [Value.cells] using hcs
    rw [he]
    simp only [if_true] at hmm
    subst hmm
    by_cases hc : m = 0
    · subst hc
      have : len' = 0 := by omega
      subst this
      exact .inl ⟨a, rfl⟩
    · right
      have hC : Try.prog.cellsOf 29 = 4 := by kernel_rfl
      rw [hC] at hi
      have hact : ∀ i, i < m → ∃ x : Ac, (∀ j, j < 4 → W.cell? ((a.add (i * 4)).add j) = (acV x)[j]?) ∧ 0 ≤ x.k ∧ 0 ≤ x.t ∧ x.t < 256 := by
        intro i him
        obtain ⟨cs', hc1, hc2⟩ := hi i him
        obtain ⟨x, e, hx⟩ := act_of hc2
        obtain ⟨_, _, hat⟩ := World.cells?_some hc1
        exact ⟨x, fun j hj => by rw [hat j hj, e], hx⟩
      have hsp : a.spot = none := by
        obtain ⟨x, hx, _⟩ := hact 0 (by omega)
        have h0 := hx 0 (by omega)
        cases hs : a.spot with
        | none => rfl
        | some z =>
          have e1 : (a.add (0 * 4)).add 0 = a := by simp [Addr.add]
          rw [e1] at h0
          have : W.cell? a = none := by
            unfold World.cell?; split
            · simp [hs]
            · rfl
          rw [this] at h0; cases h0
      obtain ⟨b, o, sp⟩ := a
      simp only at hsp; subst hsp
      simp only [Addr.add_none] at hact
      let f : Nat → Ac := fun i => if h : i < m then Classical.choose (hact i h) else ⟨0, 0, 0, ⟨#[]⟩⟩
      have hfs : ∀ i, i < m → (∀ j, j < 4 → W.cell? ⟨b, o + i * 4 + j, none⟩ = (acV (f i))[j]?) ∧ 0 ≤ (f i).k ∧ 0 ≤ (f i).t ∧ (f i).t < 256 := by
        intro i hi'
        have : f i = Classical.choose (hact i hi') := by simp only [f, dif_pos hi']
        rw [this]; exact Classical.choose_spec (hact i hi')
      refine ⟨⟨b, o, none⟩, len', m, (List.range len').map f, rfl, rfl, by simp, hl, by unfold maxLen at hm; omega, ?_, ?_, ?_⟩
      · intro x hx
        obtain ⟨i, hi', rfl⟩ := List.mem_map.1 hx
        exact (hfs i (by have := List.mem_range.1 hi'; omega)).2
      · intro i h j hj
        simp only [List.length_map, List.length_range] at h
        rw [List.getElem_map, List.getElem_range, ← (hfs i (by omega)).1 j hj]
        congr 2; show o + (i * 4 + j) = o + i * 4 + j; omega
      · intro i hi'
        have := (hfs (i / 4) (by omega)).1 (i % 4) (by omega)
        rw [show o + i / 4 * 4 + i % 4 = o + i by omega] at this
        rw [this]
        have h4 : i % 4 < (acV (f (i / 4))).length := by simp [acV]; omega
        rw [List.getElem?_eq_getElem h4]; rfl

/-! ### Names for what comes in -/
def FL (xs : List (Option (Nat × Nat × Nat))) : Nm := fun n => if n < 100 then some (n, 0, 0) else (xs[n - 100]?).join
theorem entry {W : World} {xs : List (Option (Nat × Nat × Nat))} {objs : List (Option AObj)} (hl : xs.length = objs.length)
    (h : ∀ i o, objs[i]? = some (some o) → o.own = false ∧ objR (FL xs) (allOf W) W (100 + i) o) : Rel 100 (FL xs) (hOf 100 [] objs) (allOf W) W := by
  have hget : ∀ n o, (hOf 100 [] objs).get n = some o → 100 ≤ n ∧ objs[n - 100]? = some (some o) := by
    intro n o hn
    rw [hOf_get] at hn
    split at hn
    · rename_i hr
      refine ⟨hr.1, ?_⟩
      rw [List.getElem?_eq_getElem (by omega)] at hn ⊢
      simpa using hn
    · simp only [glTr, Tr.get_lf] at hn; cases hn
  constructor
  · intro n o hn
    obtain ⟨h1, h2⟩ := hget n o hn
    have := (h _ _ h2).2
    rwa [show 100 + (n - 100) = n by omega] at this
  · intro n m o o' hn hm hne ho
    obtain ⟨h1, h2⟩ := hget n o hn
    rw [(h _ _ h2).1] at ho; cases ho
  · intro n hn
    simp only [hOf] at hn
    unfold FL
    rw [if_neg (by omega), List.getElem?_eq_none (by omega)]; rfl
  · intro g hg; unfold FL; rw [if_pos hg]
  · exact Nat.le_refl _
  · intro i _; rfl
  · rfl
  · rfl
  · rfl
theorem acs_objR {W : World} {a : Addr} {len cap : Nat} {l : List Ac} (h : Lies W a len cap l) (hc : 0 < cap) {F : Nm} {n : Nat} (hF : F n = some (a.block, cap - len, a.off)) : objR F (allOf W) W n (acs (acsV l)) := by
  have hne := h.room 0 (by omega)
  obtain ⟨c, t, fz, hw⟩ : ∃ c t fz, W.heap[a.block]? = some (.cells c t fz) := by
    unfold World.cell? at hne
    split at hne
    · rename_i c t fz hw; exact ⟨c, t, fz, hw⟩
    · cases hne
  have hcell : ∀ i, W.cell? ⟨a.block, i, none⟩ = c[i]? := by
    intro i; unfold World.cell?; rw [hw]; simp
  have hlen : (acsV l).length = l.length * 4 := flat_len acV acV_len l
  have hsize : a.off + cap * 4 ≤ c.size := by
    have := h.room (cap * 4 - 1) (by omega)
    rw [hcell] at this
    have h2 : a.off + (cap * 4 - 1) < c.size := by
      rcases Nat.lt_or_ge (a.off + (cap * 4 - 1)) c.size with h3 | h3
      · exact h3
      · rw [Array.getElem?_eq_none h3] at this; cases this
    omega
  have hle := h.le
  have hln := h.ln
  refine ⟨a.block, cap - len, a.off, c, fz, hF, ⟨t, hw, fun e => by cases e⟩, ?_, ?_, (fun e => by cases e), (fun e => by cases e)⟩
  · refine (VRL.plain_eq _ _ (acsV_plain l)).2 ?_
    apply List.ext_getElem?
    intro i
    rw [List.getElem?_take, hlen]
    split
    · rename_i hi
      rw [List.getElem?_drop]
      have hj := h.cell (i / 4) (by omega) (i % 4) (by omega)
      rw [hcell, show a.off + (i / 4 * 4 + i % 4) = a.off + i by omega] at hj
      have hg := acsV_get l (i := i / 4) (j := i % 4) (by omega) (List.getElem?_eq_getElem (by omega))
      rw [show i / 4 * 4 + i % 4 = i by omega] at hg
      rw [hg, ← hj]; simp
    · rename_i hi
      rw [List.getElem?_eq_none (by rw [hlen]; omega)]
  · rw [hlen, hln, Nat.sub_mul]; omega
/-- How the slice is told: nil; of no room; with acts. -/
theorem ret_walk {f : FuncId} {args : List Value} {args' : Array Value} {objs : List (Option AObj)} {H' : Heap} {W : World} {xs : List (Option (Nat × Nat × Nat))} (hc : CallH Try.prog 100 (allOf W) f args (hOf 100 [] objs) (.returned (.bool true)) H')
    (R : Rel 100 (FL xs) (hOf 100 [] objs) (allOf W) W) (ha : VRL (FL xs) args args'.toList) :
    Calls Try.prog f args' W fun e w' => e = .returned (.bool true) ∧ Below W.heap.size W w' := by
  refine (hc (FL xs) W args' R ha).mono fun e w' ⟨F', h1, h2, R'⟩ => ?_
  simp only [EnR] at h2
  obtain ⟨v', h3, h4⟩ := h2
  simp only [VR] at h3
  subst h3
  exact ⟨h4, R'.os, R'.tape, R'.out, R'.base, fun k hk => R'.frame k hk⟩
end
end Go.Proofs.Ytknplaghilagfaa.Po
