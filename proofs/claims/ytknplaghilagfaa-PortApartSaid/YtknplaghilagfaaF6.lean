/- How a slice of acts that comes in is told to the evaluator. -/
import Derived.Test.YtknplaghilagfaaF2
import Derived.Test.YtknplaghilagfaaF5
namespace Go.Proofs.Ytknplaghilagfaa.Po
open Go Go.Abs
set_option linter.unusedVariables false
noncomputable section
theorem slice_in {W : World} {v1 : Value} (h : v1 = .slice none 0 0 ∨ (∃ a, v1 = .slice (some a) 0 0) ∨ ∃ a len cap l, v1 = .slice (some a) len cap ∧ Lies W a len cap l) (b : Nat) :
    ∃ (x : Option (Nat × Nat × Nat)) (oa : Option AObj) (sv : Value) (l : List Ac), SlOf b sv oa l ∧ ∀ F : Nm, F b = x → (∀ o, oa = some o → o.own = false ∧ objR F (allOf W) W b o) ∧ VR F sv v1 := by
  have hzero : ∀ a : Addr, v1 = .slice (some a) 0 0 → ∃ (x : Option (Nat × Nat × Nat)) (oa : Option AObj) (sv : Value) (l : List Ac), SlOf b sv oa l ∧ ∀ F : Nm, F b = x → (∀ o, oa = some o → o.own = false ∧ objR F (allOf W) W b o) ∧ VR F sv v1 := by
    intro a ha
    refine ⟨some (a.block, 0, a.off), none, .slice (some ⟨b, 0, a.spot⟩) 0 0, [], .inr (.inl ⟨a.spot, rfl, rfl⟩), fun F hF => ⟨(fun o ho => by cases ho), ?_⟩⟩
    simp only [VR]
    exact ⟨a, 0, a.off, hF, by simp, rfl, ha⟩
  rcases h with h | ⟨a, h⟩ | ⟨a, len, cap, l, h, hl⟩
  · exact ⟨none, none, .slice none 0 0, [], .inl ⟨rfl, rfl⟩, fun F hF => ⟨(fun o ho => by cases ho), by simp only [VR]; exact h⟩⟩
  · exact hzero a h
  · rcases Nat.eq_zero_or_pos cap with c | c
    · have : len = 0 := by have := hl.le; omega
      exact hzero a (by rw [h, c, this])
    · have hle := hl.le
      have hbd := hl.bd
      have hln := hl.ln
      refine ⟨some (a.block, cap - len, a.off), some (acs (acsV l)), .slice (some ⟨b, 0, none⟩) l.length len, l, .inr (.inr ⟨len, rfl, rfl, hl.wf, by omega⟩), fun F hF => ⟨fun o ho => ?_, ?_⟩⟩
      · simp only [Option.some.injEq] at ho; subst ho
        exact ⟨rfl, acs_objR hl c hF⟩
      · simp only [VR]
        refine ⟨a, cap - len, a.off, hF, by simp, hl.spot, ?_⟩
        rw [h, hln, show len + (cap - len) = cap by omega]
end
end Go.Proofs.Ytknplaghilagfaa.Po
