/- The cells that a reading tells of, by their kinds. -/
import Derived.Test.YtblbaohcelldpaaD10
import Derived.WalkKit
import Derived.ProofKit
import Derived.OpenShut
import Derived.Carry
import Derived.Deep.Slices
import Derived.Deep.Fields
import Derived.SizedLaws
namespace Go.Abs
open Go Go.ChangeShapes Go.WideShapes Go.ChangeAt Go.RowKit Go.Deep
set_option linter.unusedVariables false
inductive CK
  | int (k : IntKind)
  | str
  | bool
  | sl (t : TypeId)
def flatF (P : Program) (rec : TypeId → Option (List CK)) : Nat → List Field → Option (List CK)
  | _, [] => some []
  | off, f :: fs => match Nat.beq f.offset off, rec f.type with
    | true, some l => match Nat.beq l.length (P.cellsOf f.type), flatF P rec (off + l.length) fs with
      | true, some l' => some (l ++ l')
      | _, _ => none
    | _, _ => none
def flatK (P : Program) : Nat → TypeId → Option (List CK)
  | 0, _ => none
  | d + 1, t => match P.underlying t with
    | some (.int k) => some [.int k]
    | some .bool => some [.bool]
    | some .string => some [.str]
    | some (.slice _) => some [.sl t]
    | some (.struct fs) => match flatF P (flatK P d) 0 fs.toList with
      | some l => match Nat.beq l.length (P.cellsOf t) with
        | true => some l
        | false => none
      | none => none
    | _ => none
section
variable {H : Type} (enc : TypeId × Value → H) (P : Program) (W : World) (base : Nat) (spare : Nat → Bool) (held : Bool)
def CkOk : CK → Value → Prop
  | .int k, v => ∃ z, v = .int k z ∧ (Lit.int k z).wf = true
  | .str, v => ∃ s : ByteArray, v = .string s ∧ s.size ≤ maxLen
  | .bool, v => ∃ b, v = .bool b
  | .sl t, v => ∃ fuel x, DataW.trod enc P W base spare held fuel t [v] = some x ∧ ∀ n ∈ x.1.weights P t, n ≤ reachBytes
def CksOk : List CK → List Value → Prop
  | [], vs => vs = []
  | k :: ks, vs => ∃ v r, vs = v :: r ∧ CkOk enc P W base spare held k v ∧ CksOk ks r
variable {enc P W base spare held}
theorem CksOk.append : ∀ {ks ks' : List CK} {vs vs' : List Value}, CksOk enc P W base spare held ks vs → CksOk enc P W base spare held ks' vs' → CksOk enc P W base spare held (ks ++ ks') (vs ++ vs')
  | [], ks', vs, vs', h, h' => by simp only [CksOk] at h; subst h; exact h'
  | k :: ks, ks', vs, vs', ⟨v, r, e, h1, h2⟩, h' => by subst e; exact ⟨v, r ++ vs', rfl, h1, h2.append h'⟩
theorem flatF_ok {n : Nat} {rec : TypeId → Option (List CK)} {cs : List Value}
    (hrec : ∀ t ks, rec t = some ks → ∀ fuel cs x, DataW.trod enc P W base spare held fuel t cs = some x → (∀ n ∈ x.1.weights P t, n ≤ reachBytes) → CksOk enc P W base spare held ks cs) :
    ∀ (gs : List Field) (ys : List (DataW H × List MemPlace)) (off : Nat) (ks : List CK), flatF P rec off gs = some ks → ys.length = gs.length →
      (∀ (i : Nat) (f : Field), gs[i]? = some f → DataW.trod enc P W base spare held n f.type ((cs.drop f.offset).take (P.cellsOf f.type)) = ys[i]?) →
      (∀ m ∈ DataW.weightsEach P (gs.map (·.type)) (ys.map (·.1)), m ≤ reachBytes) → CksOk enc P W base spare held ks ((cs.drop off).take ks.length)
  | [], ys, off, ks, h, hl, ht, hw => by simp only [flatF, Option.some.injEq] at h; subst h; simp [CksOk]
  | f :: gs, [], off, ks, h, hl, ht, hw => by simp at hl
  | f :: gs, y :: ys, off, ks, h, hl, ht, hw => by
    unfold flatF at h
    split at h
    · rename_i l ho hr
      split at h
      · rename_i l' hlen hr'
        simp only [Option.some.injEq] at h; subst h
        have ho := Nat.eq_of_beq_eq_true ho
        have hlen := Nat.eq_of_beq_eq_true hlen
        have h0 := ht 0 f rfl
        rw [ho, ← hlen] at h0
        have hw0 : ∀ m ∈ y.1.weights P f.type, m ≤ reachBytes := fun m hm => hw m (by simp only [List.map_cons, DataW.weightsEach, List.mem_append]; exact .inl hm)
        have r1 := hrec _ _ hr n _ y (by simpa using h0) hw0
        have r2 := flatF_ok hrec gs ys (off + l.length) l' hr' (by simpa using hl) (fun i g hg => by simpa using ht (i + 1) g (by simpa using hg))
          (fun m hm => hw m (by simp only [List.map_cons, DataW.weightsEach, List.mem_append]; exact .inr hm))
        rw [List.length_append, List.take_add, List.drop_drop]
        exact r1.append r2
      · cases h
    · cases h
theorem flat_ok : ∀ (d : Nat) (t : TypeId) (ks : List CK), flatK P d t = some ks → ∀ fuel cs x, DataW.trod enc P W base spare held fuel t cs = some x → (∀ n ∈ x.1.weights P t, n ≤ reachBytes) → CksOk enc P W base spare held ks cs
  | 0, t, ks, h => by cases h
  | d + 1, t, ks, h => by
    intro fuel cs x hx hw
    unfold flatK at h
    split at h
    · rename_i k hu
      simp only [Option.some.injEq] at h; subst h
      obtain ⟨z, e, _, hwf⟩ := DataW.trod_int hu hx
      exact ⟨_, [], e, ⟨z, rfl, hwf⟩, rfl⟩
    · rename_i hu
      simp only [Option.some.injEq] at h; subst h
      obtain ⟨b, e, _⟩ := DataW.trod_bool hu hx
      exact ⟨_, [], e, ⟨b, rfl⟩, rfl⟩
    · rename_i hu
      simp only [Option.some.injEq] at h; subst h
      obtain ⟨s, e, _, hs⟩ := DataW.trod_string hu hx
      exact ⟨_, [], e, ⟨s, rfl, hs⟩, rfl⟩
    · rename_i e' hu
      simp only [Option.some.injEq] at h; subst h
      rcases open_slice hu hx with ⟨e, _⟩ | ⟨a, len, cap, m, n, D, Pl, e, _⟩
      · subst e; exact ⟨_, [], rfl, ⟨fuel, x, hx, hw⟩, rfl⟩
      · subst e; exact ⟨_, [], rfl, ⟨fuel, x, hx, hw⟩, rfl⟩
    · rename_i fs hu
      split at h
      · rename_i l hl
        split at h
        · rename_i hlen
          simp only [Option.some.injEq] at h; subst h
          have hlen := Nat.eq_of_beq_eq_true hlen
          obtain ⟨xs, n, _, ex, hcl, hxl, hf⟩ := DataW.trod_struct hu hx
          subst ex
          have := flatF_ok (cs := cs) (n := n) (fun t ks h => flat_ok d t ks h) fs.toList xs 0 l hl (by simpa using hxl) (fun i f hi => hf i f (by simpa using hi)) (fun m hm => hw m (by simp only [DataW.weights, hu]; exact hm))
          rw [List.drop_zero, hlen, ← hcl, List.take_length] at this
          exact this
        · cases h
      · cases h
    · cases h
end
end Go.Abs
