/- A listed package variable that is a table of integers, told of a heap. -/
import Derived.Test.YtfhkbepjppcjmaaGreatDoorC4
import Derived.OpenShut
namespace Go.Abs
open Go
theorem ints_of_trod {P : Program} {w : World} {t e : TypeId} {n : Nat} {k : IntKind} (hu : P.underlying t = some (.array n e)) (he : P.underlying e = some (.int k)) (hc : P.cellsOf e = 1)
    {l : List Int} (hn : n = l.length) (hct : P.cellsOf t = n) {H : Type} {enc : TypeId × Value → H} {base : Nat} {spare : Nat → Bool} {held : Bool} {fuel : Nat} {cs : List Value} {p : List MemPlace}
    (hd : DataW.trod enc P w base spare held fuel t cs = some (.agg (l.map fun v => .lit (.int k v)), p)) : cs = l.map (Value.int k) := by
  obtain ⟨xs, m, rfl, hx, hlen, hxn, hel⟩ := DataW.trod_array hu hd
  simp only [Prod.mk.injEq, DataW.agg.injEq] at hx
  obtain ⟨hx1, _⟩ := hx
  apply List.ext_getElem?
  intro i
  rw [List.getElem?_map]
  rcases Nat.lt_or_ge i n with hi | hi
  · have h1 := hel i hi
    rw [hc, Nat.mul_one] at h1
    have hxi : i < xs.length := by omega
    rw [List.getElem?_eq_getElem hxi] at h1
    obtain ⟨v, e1, e2, _⟩ := DataW.trod_int he h1
    have h2 : (l.map fun v => (DataW.lit (Lit.int k v) : DataW H))[i]? = (xs.map (·.1))[i]? := by rw [hx1]
    rw [List.getElem?_map, List.getElem?_map, List.getElem?_eq_getElem hxi, e2, List.getElem?_eq_getElem (by omega : i < l.length)] at h2
    simp only [Option.map_some, Option.some.injEq, DataW.lit.injEq, Lit.int.injEq, true_and] at h2
    rw [List.getElem?_eq_getElem (by omega : i < l.length), h2]
    have h3 : ((cs.drop i).take 1)[0]? = some (Value.int k v) := by rw [e1]; rfl
    rw [List.getElem?_take, if_pos (by omega), List.getElem?_drop] at h3
    simpa using h3
  · rw [List.getElem?_eq_none (by omega), List.getElem?_eq_none (by omega)]; rfl
theorem laid_ints {P : Program} {G : Nat} {w : World} {name : String} {g : Nat} {t e : TypeId} {n : Nat} {k : IntKind} {elem sz : Nat} (l : List Int) (hg : P.globalNamed name = some g) (ht : (P.globals[g]?).map (·.type) = some t)
    (hu : P.underlying t = some (.array n e)) (he : P.underlying e = some (.int k)) (hc : P.cellsOf e = 1) (hn : n = l.length) (hct : P.cellsOf t = n) (hG : g < G) {r : List (String × DataW Unit)}
    (h : laidMet P ((name, .agg (l.map fun v => .lit (.int k v))) :: r) w) : objR (startN G) (allOf w) w g (.cells (l.map (Value.int k)) elem sz true false) := by
  obtain ⟨ps, ⟨g0, t0, cs0, f0, p0, q0, hg0, ht0, hv0, hd0, _, _⟩, _, _⟩ := h
  obtain rfl := Option.some.inj (hg.symm.trans hg0)
  obtain rfl := Option.some.inj (ht.symm.trans ht0)
  have hcs := ints_of_trod hu he hc hn hct hd0
  simp only [World.var?, hg, Option.bind_some] at hv0
  split at hv0
  · rename_i c t' fz hb
    simp only [Option.some.injEq] at hv0; subst hv0
    refine objR_var hG hb ?_ ?_
    · have e1 : c.toList.take (l.map (Value.int k)).length = l.map (Value.int k) := by rw [hcs]; exact List.take_of_length_le (Nat.le_refl _)
      rw [e1]
      have hp : ∀ l : List Int, plainL (l.map (Value.int k)) = true := by
        intro l
        induction l with
        | nil => rfl
        | cons v l ih => simp only [List.map_cons, plainL, ih, Bool.and_true, plain]
      exact (VRL.plain_eq _ _ (hp l)).2 rfl
    · have := congrArg List.length hcs
      simp only [Array.length_toList] at this
      omega
  · cases hv0
end Go.Abs
