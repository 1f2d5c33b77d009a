/- The evaluator as a whole; a call that takes nothing, from any world. -/
import Derived.Test.YtblbaohcelldpaaGreatM2
import Derived.RowKit3
namespace Go.Abs
open Go
set_option linter.unusedVariables false
noncomputable section
section
variable {P : Program} {G : Nat} {w0 : Base} {orc : Orc}
theorem ev_ok_all (hP : okProg P G = true) (horc : ∀ B, OrcOk P G B orc) : ∀ (n : Nat) (B : Base) (c : Cmd) (r : Res), ev P orc n c = some r → Holds P G B c r
  | 0, _, _, _, h => by cases h
  | n + 1, B, c, r, h => by
    have hall := ev_ok_all hP horc n
    have hrec := hall B
    have h : step P orc (ev P orc n) c = some r := h
    cases c with
    | code D c s => exact step_code hrec hP h
    | loop D c s => exact step_loop' hrec h
    | ops D ops k todo s => exact step_ops hrec hP h
    | draw ops s =>
      simp only [step, stepK, drawK] at h
      split at h
      · rename_i s' hs'
        simp only [Option.some.injEq] at h; subst h
        exact aDraw_ok hall hP hs'
      · cases h
    | call f args hh => exact step_call hrec hP (horc B) h
    | callD f args u hh => exact step_callD hrec hP h
    | leaves fn ts ds u hh => exact step_leaves hrec hP h
def start0 (G : Nat) : Heap := ⟨.lf, G⟩
def startN (G : Nat) : Nm := ⟨fun n => if n < G then some (n, 0, 0) else none, fun _ _ => none⟩
def allOf (w : World) : Base := ⟨w, (· < w.heap.size), fun _ h => h, fun b i => match w.heap[b]? with
  | some (.cells c _ _) => c[i]?
  | _ => none⟩
theorem start_rel (w : World) : Rel G (startN G) (start0 G) (allOf w) w := by
  constructor
  · intro n o h; cases h
  · intro n m o o' h; cases h
  · intro n hn
    have hn : G ≤ n := hn
    simp only [startN]; rw [if_neg (by omega)]
  · intro g hg; simp only [startN]; rw [if_pos hg]
  · exact Nat.le_refl _
  · intro i _; rfl
  · intro b i v h; cases h
  · intro b i v h; cases h
  · rfl
  · rfl
  · rfl
theorem orc_none (B : Base) : OrcOk P G B (fun _ => none) := fun f g args h e h' hf => by cases hf
theorem Rel.kept {F : Nm} {H : Heap} {w w' : World} (R : Rel G F H (allOf w) w') (may : MemPlace → Prop) : w.keptBut w' may := by
  refine ⟨R.os, R.out, fun i hi => ?_⟩
  rw [R.frame i hi]
  show match w.heap[i]?, w.heap[i]? with | some (.cells c t fr), some (.cells c' t' fr') => t' = t ∧ fr' = fr ∧ c'.size = c.size ∧ ∀ j : Nat, ¬ may (.cell i j) → c'[j]? = c[j]? | some (.map es clock), some (.map es' clock') => may (.map i) ∨ (es' = es ∧ clock' = clock) | o, o' => o' = o
  cases h : w.heap[i]? with
  | none => rfl
  | some o => cases o <;> simp
def retTrue : Option Res → Bool
  | some (.en (.returned (.bool true)) _ _) => true
  | _ => false
theorem closed_call (hP : okProg P G = true) {f : FuncId} {n : Nat} (h : retTrue (ev P (fun _ => none) n (.call f [] (start0 G))) = true) (w : World) :
    Calls P f #[] w fun e w' => e = .returned (.bool true) ∧ ∃ F H, Rel G F H (allOf w) w' := by
  unfold retTrue at h
  split at h
  · rename_i u H h2
    have := ev_ok_all hP orc_none n (allOf w) _ _ h2 (startN G) w #[] (start_rel w) (by simp [VRL])
    refine this.mono fun e w' ⟨F, _, he, R⟩ => ?_
    simp only [EnR] at he
    obtain ⟨v', h1, h2⟩ := he
    simp only [VR] at h1
    subst h1
    exact ⟨h2, F, H, R⟩
  · cases h
end
end
end Go.Abs
