/- The evaluator keeps its word. -/
import Derived.Test.YtfhkbepjppcjmaaGreatDoorB5
namespace Go.Abs
open Go
noncomputable section
section
variable {P : Program} {G : Nat} {w0 : Base} {rec : Cmd → Option Res} {orc : Orc}

def OrcOk (P : Program) (G : Nat) (w0 : Base) (orc : Orc) : Prop := ∀ f g args h e h', orc f = some g → g args h = some (e, h') → CallH P G w0 f args h e h'

theorem step_code (hrec : ∀ c r, rec c = some r → Holds P G w0 c r) (hP : okProg P G = true) {D : Bool} {c : Code} {s : St} {r : Res} (h : step P orc rec (.code D c s) = some r) : Holds P G w0 (.code D c s) r := by
  -- what a piece that hands on what its part comes to says
  cases c with
  | skip =>
    replace h : some (Res.ex .normal s) = some r := h
    simp only [Option.some.injEq] at h; subst h
    intro c0 rest F a cs w _ hs
    exact WP.skip ⟨F, Nm.le_refl F, rfl, hs⟩
  | label l =>
    replace h : some (Res.ex .normal s) = some r := h
    simp only [Option.some.injEq] at h; subst h
    intro c0 rest F a cs w _ hs
    exact WP.label ⟨F, Nm.le_refl F, rfl, hs⟩
  | ret =>
    replace h : some (Res.ex .ret s) = some r := h
    simp only [Option.some.injEq] at h; subst h
    intro c0 rest F a cs w _ hs
    exact WP.ret ⟨F, Nm.le_refl F, rfl, hs⟩
  | exit id =>
    replace h : some (Res.ex (.exit id) s) = some r := h
    simp only [Option.some.injEq] at h; subst h
    intro c0 rest F a cs w _ hs
    exact WP.exit ⟨F, Nm.le_refl F, rfl, hs⟩
  | seq x y =>
    simp only [step, stepK, codeK] at h
    split at h
    · rename_i s1 h1
      have H1 := hrec _ _ h1
      have H2 := hrec _ _ h
      cases r with
      | en _ _ _ => exact H2.elim
      | ex e s2 =>
        intro c0 rest F a cs w hok hs
        simp only [okCode, Bool.and_eq_true] at hok
        refine WP.seq ((H1 c0 rest F a cs w hok.1 hs).mono fun e' a' cs' w' ⟨F', hle, he, hs'⟩ => ?_)
        simp only [ER] at he; subst he
        exact (H2 c0 rest F' a' cs' w' hok.2 hs').mono fun _ _ _ _ q => Ends.mono hle q
    · rename_i r1 hne
      have H1 := hrec _ _ h
      cases r with
      | en _ _ _ => exact H1.elim
      | ex e s1 =>
        intro c0 rest F a cs w hok hs
        simp only [okCode, Bool.and_eq_true] at hok
        refine WP.seq ((H1 c0 rest F a cs w hok.1 hs).mono fun e' a' cs' w' ⟨F', hle, he, hs'⟩ => ?_)
        have hne' : e' ≠ .normal := by
          intro hc; subst hc
          cases e <;> simp only [ER] at he <;> first
            | (exact hne s1 h)
            | (exact Exit.noConfusion he)
            | (obtain ⟨_, _, e⟩ := he; exact Exit.noConfusion e)
        cases e' <;> first
          | exact absurd rfl hne'
          | exact ⟨F', hle, he, hs'⟩
  | cond c x y =>
    simp only [step, stepK, codeK] at h
    have hgo : ∀ t : Bool, aev s.ts c = .bool t → rec (.code D (if t then x else y) s) = some r → Holds P G w0 (.code D (.cond c x y) s) r := by
      intro t ht hr
      have H1 := hrec _ _ hr
      cases r with
      | en _ _ _ => exact H1.elim
      | ex e s1 =>
        intro c0 rest F a cs w hok hs
        simp only [okCode, Bool.and_eq_true] at hok
        have hc := aev_ok hs.1 hs.2.1 hok.1.1
        rw [ht] at hc; simp only [VR] at hc
        refine WP.cond hc (H1 c0 rest F a cs w ?_ hs)
        cases t
        · exact hok.2
        · exact hok.1.2
    split at h
    · rename_i e; exact hgo true e h
    · rename_i e; exact hgo false e h
    · cases h
  | block id c =>
    simp only [step, stepK, codeK] at h
    split at h
    · rename_i id' s1 h1
      have H1 := hrec _ _ h1
      split at h
      · rename_i hid
        have hid := Nat.eq_of_beq_eq_true hid
        simp only [Option.some.injEq] at h; subst h; subst hid
        intro c0 rest F a cs w hok hs
        refine WP.block ((H1 c0 rest F a cs w hok hs).mono fun e' a' cs' w' ⟨F', hle, he, hs'⟩ => ?_)
        simp only [ER] at he; subst he
        simp only [outBlock, if_true]
        exact ⟨F', hle, rfl, hs'⟩
      · rename_i hid
        have hid : id' ≠ id := fun e => by rw [e] at hid; simp at hid
        simp only [Option.some.injEq] at h; subst h
        intro c0 rest F a cs w hok hs
        refine WP.block ((H1 c0 rest F a cs w hok hs).mono fun e' a' cs' w' ⟨F', hle, he, hs'⟩ => ?_)
        simp only [ER] at he; subst he
        simp only [outBlock]; rw [if_neg hid]
        exact ⟨F', hle, rfl, hs'⟩
    · rename_i r1 hne
      have H1 := hrec _ _ h
      cases r with
      | en _ _ _ => exact H1.elim
      | ex e s1 =>
        intro c0 rest F a cs w hok hs
        refine WP.block ((H1 c0 rest F a cs w hok hs).mono fun e' a' cs' w' ⟨F', hle, he, hs'⟩ => ?_)
        cases e' with
        | exit id2 =>
          exfalso
          cases e <;> simp only [ER] at he <;> first
            | (exact Exit.noConfusion he)
            | (obtain ⟨_, _, e⟩ := he; exact Exit.noConfusion e)
            | (exact hne _ _ h)
        | _ => exact ⟨F', hle, he, hs'⟩
  | loop c =>
    replace h : rec (.loop D c s) = some r := h
    have H1 := hrec _ _ h
    cases r with
    | en _ _ _ => exact H1.elim
    | ex e s1 =>
      intro c0 rest F a cs w hok hs
      exact WP.loop (H1 c0 rest F a cs w hok hs)
  | scope c =>
    simp only [step, stepK, codeK] at h
    split at h
    · cases h
    · rename_i r1 hne
      have H1 := hrec _ _ h
      cases r with
      | en _ _ _ => exact H1.elim
      | ex e s1 =>
        intro c0 rest F a cs w hok hs
        refine WP.scope ((H1 c0 rest F a cs w hok hs).mono fun e' a' cs' w' ⟨F', hle, he, hs'⟩ => ?_)
        cases e' with
        | goto l =>
          exfalso
          cases e <;> simp only [ER] at he <;> first
            | (exact Exit.noConfusion he)
            | (obtain ⟨_, _, e⟩ := he; exact Exit.noConfusion e)
            | (exact hne _ _ h)
        | _ => exact ⟨F', hle, he, hs'⟩
  | region id ops draw =>
    cases draw with
    | false =>
      replace h : rec (.ops D ops 0 ops.toList s) = some r := h
      have H1 := hrec _ _ h
      cases r with
      | en _ _ _ => exact H1.elim
      | ex e s1 =>
        intro c0 rest F a cs w hok hs
        have := H1 (by simp) hok c0 rest F a cs w hs
        rw [Array.length_toList, ← List.range_eq_range'] at this
        exact WP.region this
    | true =>
      cases D with
      | true => exact absurd (show (none : Option Res) = some r from h) (by simp)
      | false =>
        replace h : rec (.draw ops s) = some r := h
        have H1 := hrec _ _ h
        cases r with
        | en _ _ _ => exact H1.elim
        | ex e s1 =>
          intro c0 rest F a cs w hok hs
          have hm : P.follows .mixedOrders = true := by
            unfold okProg at hP; simp only [Bool.and_eq_true] at hP; exact hP.1
          exact WP.region_draw hm (H1 hok c0 rest F a cs w hs)
  | rangeFunc f p x y => exact absurd (show (none : Option Res) = some r from h) (by simp)
  | goto l => exact absurd (show (none : Option Res) = some r from h) (by simp)
  | refuse y => exact absurd (show (none : Option Res) = some r from h) (by simp)

theorem step_loop' (hrec : ∀ c r, rec c = some r → Holds P G w0 c r) {D : Bool} {c : Code} {s : St} {r : Res} (h : step P orc rec (.loop D c s) = some r) : Holds P G w0 (.loop D c s) r := by
  simp only [step, stepK, loopK] at h
  split at h
  · rename_i s1 h1
    have H1 := hrec _ _ h1
    have H2 := hrec _ _ h
    cases r with
    | en _ _ _ => exact H2.elim
    | ex e s2 =>
      intro c0 rest F a cs w hok hs
      refine WPat.two rfl ((H1 c0 rest F a cs w hok hs).mono fun e' a' cs' w' ⟨F', hle, he, hs'⟩ => ?_)
      simp only [ER] at he; subst he
      exact WPat.inLoop ((H2 c0 rest F' a' cs' w' hok hs').mono fun _ _ _ _ q => Ends.mono hle q)
  · rename_i r1 hne
    have H1 := hrec _ _ h
    cases r with
    | en _ _ _ => exact H1.elim
    | ex e s1 =>
      intro c0 rest F a cs w hok hs
      refine WPat.two rfl ((H1 c0 rest F a cs w hok hs).mono fun e' a' cs' w' ⟨F', hle, he, hs'⟩ => ?_)
      have hne' : e' ≠ .normal := by
        intro hc; subst hc
        cases e <;> simp only [ER] at he <;> first
          | (exact hne s1 h)
          | (exact Exit.noConfusion he)
          | (obtain ⟨_, _, e⟩ := he; exact Exit.noConfusion e)
      cases e' <;> first
        | exact absurd rfl hne'
        | exact ⟨F', hle, he, hs'⟩
end
end
end Go.Abs
