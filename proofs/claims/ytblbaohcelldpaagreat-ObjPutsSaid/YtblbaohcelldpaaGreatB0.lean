/- Every operation that runs no code, in one function: what it tells is what a run does. -/
import Derived.Test.YtblbaohcelldpaaGreatA9
namespace Go.Abs
open Go
set_option linter.unusedVariables false
noncomputable section
section
variable {P : Program} {G : Nat} {F : Nm} {H : Heap} {w0 : Base} {w : World}
def mkd : Value → Bool
  | .iface t _ => isMk t
  | _ => false
def aTypeAssert (P : Program) (x : Value) (asserted : TypeId) (ok : Bool) : Option Value :=
  match mkd x with
  | true => none
  | false =>
  match P.underlying asserted, x with
  | some (.interface _), .nilIface => match ok, aZero P asserted with
    | true, some z => match plain z with
      | true => some (.tuple #[z, .bool false])
      | false => none
    | _, _ => none
  | some (.interface want), .iface t _ => match P.info? t with
    | some i => match Instr.missingMethod want i.methods with
      | none => some (if ok then .tuple #[x, .bool true] else x)
      | some _ => match ok, aZero P asserted with
        | true, some z => match plain z with
          | true => some (.tuple #[z, .bool false])
          | false => none
        | _, _ => none
    | none => none
  | some _, .nilIface => match ok, aZero P asserted with
    | true, some z => match plain z with
      | true => some (.tuple #[z, .bool false])
      | false => none
    | _, _ => none
  | some _, .iface t v => match Nat.beq t asserted with
    | true => some (if ok then .tuple #[v, .bool true] else v)
    | false => match ok, aZero P asserted with
      | true, some z => match plain z with
        | true => some (.tuple #[z, .bool false])
        | false => none
      | _, _ => none
  | _, _ => none
theorem VR.bool {F : Nm} (b : Bool) : VR F (.bool b) (.bool b) := by simp [VR]
theorem VR.tuple2 {F : Nm} {a a' b b' : Value} (h : VR F a a') (h2 : VR F b b') : VR F (.tuple #[a, b]) (.tuple #[a', b']) := by
  simp only [VR]; exact ⟨_, VRA.ofL (by simp only [VRL]; exact ⟨a', _, h, ⟨b', _, h2, rfl, rfl⟩, rfl⟩), rfl⟩
theorem aTypeAssert_ok {x x' : Value} (hx : VR F x x') {xType asserted : TypeId} {ok : Bool} {v : Value} (h : aTypeAssert P x asserted ok = some v) (w : World) :
    ∃ v', (Instr.typeAssert x' xType asserted ok).run P w = .ok v' w ∧ VR F v v' := by
  unfold aTypeAssert at h
  split at h
  · cases h
  rename_i hmk
  split at h
  · rename_i ms hu
    split at h <;> (try (cases h; done))
    rename_i z hz
    split at h <;> (try (cases h; done))
    rename_i hp
    simp only [Option.some.injEq] at h; subst h
    simp only [VR] at hx; subst hx
    exact ⟨_, by simp [Instr.typeAssert, run_underlying hu, run_zeroValue hz], VR.tuple2 ((VR.plain_eq _ _ hp).2 rfl) (VR.bool false)⟩
  · rename_i want t y hu
    split at h <;> (try (cases h; done))
    rename_i i hi
    have hx0 := hx
    obtain ⟨y', hy, e⟩ := hx.iface_real hmk; subst e
    split at h
    · rename_i hm
      simp only [Option.some.injEq] at h; subst h
      cases ok with
      | true => exact ⟨_, by simp [Instr.typeAssert, run_underlying hu, run_typeInfo hi, hm], VR.tuple2 hx0 (VR.bool true)⟩
      | false => exact ⟨_, by simp [Instr.typeAssert, run_underlying hu, run_typeInfo hi, hm], hx0⟩
    · rename_i m hm
      split at h <;> (try (cases h; done))
      rename_i z hz
      split at h <;> (try (cases h; done))
      rename_i hp
      simp only [Option.some.injEq] at h; subst h
      exact ⟨_, by simp [Instr.typeAssert, run_underlying hu, run_typeInfo hi, hm, run_zeroValue hz], VR.tuple2 ((VR.plain_eq _ _ hp).2 rfl) (VR.bool false)⟩
  · rename_i d hni hu
    split at h <;> (try (cases h; done))
    rename_i z hz
    split at h <;> (try (cases h; done))
    rename_i hp
    simp only [Option.some.injEq] at h; subst h
    simp only [VR] at hx; subst hx
    refine ⟨_, ?_, VR.tuple2 ((VR.plain_eq _ _ hp).2 rfl) (VR.bool false)⟩
    cases d <;> simp [Instr.typeAssert, run_underlying hu, run_zeroValue hz]
  · rename_i d t y hni hu
    obtain ⟨y', hy, e⟩ := hx.iface_real hmk; subst e
    have hd : ∀ ms, d ≠ .interface ms := fun ms e => hni ms e
    split at h
    · rename_i ht
      have ht := Nat.eq_of_beq_eq_true ht
      subst ht
      simp only [Option.some.injEq] at h; subst h
      cases ok with
      | true =>
        refine ⟨.tuple #[y', .bool true], ?_, VR.tuple2 hy (VR.bool true)⟩
        cases d <;> first | exact absurd rfl (hd _) | simp [Instr.typeAssert, run_underlying hu]
      | false =>
        refine ⟨y', ?_, hy⟩
        cases d <;> first | exact absurd rfl (hd _) | simp [Instr.typeAssert, run_underlying hu]
    · rename_i ht
      have ht : t ≠ asserted := fun e => by rw [e] at ht; simp at ht
      split at h <;> (try (cases h; done))
      rename_i z hz
      split at h <;> (try (cases h; done))
      rename_i hp
      simp only [Option.some.injEq] at h; subst h
      refine ⟨.tuple #[z, .bool false], ?_, VR.tuple2 ((VR.plain_eq _ _ hp).2 rfl) (VR.bool false)⟩
      cases d <;> first | exact absurd rfl (hd _) | simp [Instr.typeAssert, run_underlying hu, ht, run_zeroValue hz]
  · cases h
end
end
end Go.Abs
