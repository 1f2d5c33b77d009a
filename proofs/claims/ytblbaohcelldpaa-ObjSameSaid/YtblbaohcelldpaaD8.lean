/- Small laws: names by hand, lists of cells. -/
import Derived.Test.YtblbaohcelldpaaD7
namespace Go.Abs
open Go
noncomputable section
set_option linter.unusedVariables false
def objsOk (τ : Nat → Nat) (G : Nat) (objs : List (Option AObj)) : Nat → List (Option AObj) → Prop
  | _, [] => True
  | i, none :: r => objsOk τ G objs (i + 1) r
  | i, some o :: r => objs[τ (G + i) - G]? = some (some o) ∧ plainO o = true ∧ objsOk τ G objs (i + 1) r
theorem objsOk_at {τ : Nat → Nat} {G : Nat} {objs : List (Option AObj)} : ∀ (r : List (Option AObj)) (k : Nat), objsOk τ G objs k r → ∀ i o, r[i]? = some (some o) → objs[τ (G + (k + i)) - G]? = some (some (oren τ o))
  | [], k, _, i, o, hi => by simp at hi
  | none :: r, k, h, 0, o, hi => by simp at hi
  | none :: r, k, h, i + 1, o, hi => by
    have := objsOk_at r (k + 1) h i o (by simpa using hi)
    rw [show k + (i + 1) = k + 1 + i by omega]; exact this
  | some p :: r, k, h, 0, o, hi => by
    simp only [List.getElem?_cons_zero, Option.some.injEq] at hi; subst hi
    rw [oren_plain h.2.1]; exact h.1
  | some p :: r, k, h, i + 1, o, hi => by
    have := objsOk_at r (k + 1) h.2.2 i o (by simpa using hi)
    rw [show k + (i + 1) = k + 1 + i by omega]; exact this
def namesOk (lo next : Nat) : List Nat → Bool
  | [] => true
  | x :: l => Nat.ble lo x && Nat.blt x next && !memB x l && namesOk lo next l
where memB (x : Nat) : List Nat → Bool
  | [] => false
  | y :: l => Nat.beq y x || memB x l
theorem memB_iff (x : Nat) : ∀ l : List Nat, namesOk.memB x l = true ↔ x ∈ l
  | [] => by simp [namesOk.memB]
  | y :: l => by
    simp only [namesOk.memB, Bool.or_eq_true, memB_iff x l, List.mem_cons]
    constructor
    · rintro (h | h)
      · exact .inl (Nat.eq_of_beq_eq_true h).symm
      · exact .inr h
    · rintro (h | h)
      · subst h; exact .inl (by simp)
      · exact .inr h
theorem namesOk_ok {lo next : Nat} : ∀ l : List Nat, namesOk lo next l = true → l.Nodup ∧ ∀ x ∈ l, lo ≤ x ∧ x < next
  | [], _ => ⟨List.nodup_nil, fun x hx => by cases hx⟩
  | x :: l, h => by
    simp only [namesOk, Bool.and_eq_true, Bool.not_eq_true'] at h
    obtain ⟨⟨⟨h1, h2⟩, h3⟩, h4⟩ := h
    obtain ⟨g1, g2⟩ := namesOk_ok l h4
    refine ⟨List.nodup_cons.2 ⟨fun hm => ?_, g1⟩, fun y hy => ?_⟩
    · rw [(memB_iff x l).2 hm] at h3; cases h3
    · rcases List.mem_cons.1 hy with e | hy
      · subst e; exact ⟨Nat.le_of_ble_eq_true h1, Nat.le_of_ble_eq_true h2⟩
      · exact g2 y hy
theorem names_mk {G k0 : Nat} {l : List Nat} {next : Nat} {vals vals' : List Value} {objs objs' : List (Option AObj)} (h1 : vals = vals'.map (vren (tau (G + k0) l next))) (h2 : objs'.length = k0 + l.length)
    (h3 : namesOk (G + k0) next l = true) (h4 : Nat.ble (G + k0) next = true) (h5 : objsOk (tau (G + k0) l next) G objs 0 objs') : Names G k0 l next vals objs vals' objs' := by
  obtain ⟨g1, g2⟩ := namesOk_ok l h3
  refine ⟨h1, h2, g1, g2, Nat.le_of_ble_eq_true h4, fun i o hi => ?_⟩
  have := objsOk_at objs' 0 h5 i o hi
  simpa using this

mutual
theorem vren_id : ∀ v : Value, vren id v = v
  | .pointer (some a) => rfl
  | .slice (some a) l c => rfl
  | .map (some r) => rfl
  | .func f x y => by simp only [vren, vrenA_id x, vrenA_id y]
  | .iface t v => by simp only [vren, vren_id v]
  | .agg c => by simp only [vren, vrenA_id c]
  | .tuple c => by simp only [vren, vrenA_id c]
  | .bool _ => rfl
  | .int _ _ => rfl
  | .float _ _ => rfl
  | .complex _ _ _ => rfl
  | .string _ => rfl
  | .pointer none => rfl
  | .slice none _ _ => rfl
  | .map none => rfl
  | .chan _ => rfl
  | .nilFunc => rfl
  | .nilIface => rfl
theorem vrenA_id : ∀ c : Array Value, vrenA id c = c
  | ⟨l⟩ => by simp only [vrenA, vrenL_id l]
theorem vrenL_id : ∀ l : List Value, vrenL id l = l
  | [] => rfl
  | v :: l => by simp only [vrenL, vren_id v, vrenL_id l]
end
theorem oren_id (o : AObj) : oren id o = o := by cases o; simp only [oren, vrenL_id]
theorem tau_id (n : Nat) : tau n [] n = id := by
  funext m
  rcases Nat.lt_or_ge m n with h | h
  · exact tau_lt h
  · rw [tau_new (by simpa using h)]; simp; omega
theorem names_id {G : Nat} (vals : List Value) (objs : List (Option AObj)) : Names G objs.length [] (G + objs.length) vals objs vals objs := by
  refine ⟨?_, by simp, List.nodup_nil, fun x hx => (by cases hx), Nat.le_refl _, fun i o hi => ?_⟩
  · rw [tau_id]
    have : vren id = id := funext vren_id
    rw [this, List.map_id]
  · rw [tau_id, oren_id]
    have : id (G + i) - G = i := by simp
    rw [this]; exact hi
theorem names_id' {G k0 : Nat} {vals vals' : List Value} {objs objs' : List (Option AObj)} (h : objs.length = k0) (hv : vals = vals') (ho : objs = objs') : Names G k0 [] (G + objs.length) vals objs vals' objs' := by
  subst h; subst hv; subst ho; exact names_id _ _
theorem splice_all {zs l : List Value} (h : l.length = zs.length) : splice zs 0 l = l := by
  apply List.ext_getElem?
  intro i
  rw [splice_get (by omega)]
  by_cases c : i < l.length
  · rw [if_pos (by omega)]; simp
  · rw [if_neg (by omega), List.getElem?_eq_none (by omega), List.getElem?_eq_none (by omega)]
theorem flat_get {α : Type} {n : Nat} (f : α → List Value) (hf : ∀ a, (f a).length = n) : ∀ (l : List α) (p i : Nat), i < n → (l.flatMap f)[p * n + i]? = (l[p]?).bind fun a => (f a)[i]?
  | [], p, i, _ => by simp
  | a :: l, 0, i, hi => by
    simp only [List.flatMap_cons, List.getElem?_cons_zero, Option.bind_some]
    rw [List.getElem?_append_left (by rw [hf]; omega)]; congr 1; omega
  | a :: l, p + 1, i, hi => by
    simp only [List.flatMap_cons, List.getElem?_cons_succ]
    rw [List.getElem?_append_right (by rw [hf, Nat.succ_mul]; omega), hf]
    have := flat_get f hf l p i hi
    rw [← this]; congr 1; rw [Nat.succ_mul]; omega
theorem flat_len {α : Type} {n : Nat} (f : α → List Value) (hf : ∀ a, (f a).length = n) : ∀ (l : List α), (l.flatMap f).length = l.length * n
  | [] => by simp
  | a :: l => by simp only [List.flatMap_cons, List.length_append, List.length_cons, flat_len f hf l, hf, Nat.succ_mul]; omega
end
end Go.Abs
