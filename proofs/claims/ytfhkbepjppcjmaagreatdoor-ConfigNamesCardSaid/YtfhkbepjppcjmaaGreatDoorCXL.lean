/- The Go function ConfigNames returns true, from any memory in which the package variable errors.errorType holds what the program's own text lays there, and on every schedule; it takes no input and leaves all memory that was there as it was. -/
import Derived.Test.YtfhkbepjppcjmaaGreatDoorRows
import Derived.Test.YtfhkbepjppcjmaaGreatDoorTie
import Derived.Test.YtfhkbepjppcjmaaGreatDoorCards
import Derived.Test.YtfhkbepjppcjmaaGreatDoorC5
import Derived.Test.YtfhkbepjppcjmaaGreatDoorCXR
import Derived.Test.YtfhkbepjppcjmaaGreatDoorCXJ
import Derived.WalkKit
import Derived.ProofKit
import Derived.LaidMore
import Derived.LaidHandle
import Derived.OpenShut
import Derived.SevenTiedAt
import Derived.ChangeVars
import Derived.JoinedOf
import Derived.LaidLaws
import Derived.Stop.Joined
namespace Go.Proofs.YtfhkbepjppcjmaaGreatDoor.configNames
open Go.ChangeShapes Go.WideShapes Go.ChangeAt Go.WideMaps Go.WideElems Go.RowKit
set_option linter.unusedVariables false
set_option maxRecDepth 100000

theorem own : ownKnob Tryz.prog.godebug = none := by kernel_rfl
theorem et : Tryz.prog.globalNamed "errors.errorType" = some 0 := by kernel_rfl
theorem rt : (Tryz.prog.cutTypes.find? (·.1 == "internal/reflectlite.rtype")).map (·.2) = some 210 := by kernel_rfl
theorem oneRow : ((List.range 499).filter fun t => Tryz.prog.rowNamed t [101, 114, 114, 111, 114]) = [87] := by kernel_rfl
theorem size : Tryz.prog.types.size = 499 := by kernel_rfl
/-- What the condition gives: the variable's one cell. -/
theorem handle_of_laid {W : World} (h : laidMetH Tryz.prog [("errors.errorType", Rows.laid_errors_errorType)] W) : W.cell? ⟨0, 0, none⟩ = some (.iface 210 (.agg #[.pointer (some ⟨2, 87, none⟩)])) := by
  have h' : laidMet Tryz.prog [] W ∧ handlesMet Tryz.prog [("errors.errorType", Rows.laid_errors_errorType)] W := h
  obtain ⟨name, u, ty, e1, e2, e3, e4, e5⟩ := h'.2 _ (List.mem_singleton.2 rfl)
  have en : name = [101, 114, 114, 111, 114] := (Option.some.inj e1).symm
  subst en
  obtain rfl := Option.some.inj (rt.symm.trans e2)
  have hm : ty ∈ (List.range 499).filter fun t => Tryz.prog.rowNamed t [101, 114, 114, 111, 114] := List.mem_filter.2 ⟨List.mem_range.2 (by rw [← size]; exact e3), e4⟩
  rw [oneRow] at hm
  obtain rfl := List.mem_singleton.1 hm
  have hh : typeHandle Tryz.prog 87 = .pointer (some ⟨2, 87, none⟩) := by kernel_rfl
  rw [hh] at e5
  simpa using World.var?_cell et e5 0

/-- A world that meets the condition: the settled one, the variable's cell laid. -/
noncomputable def laidWorld (os : Os) : World :=
  let w0 := World.holding Tryz.prog os ⟨#[], #[], []⟩
  { w0 with heap := w0.heap.modify 0 fun
      | .cells _ t frozen => .cells #[.iface 210 (.agg #[.pointer (some ⟨2, 87, none⟩)])] t frozen
      | o => o }
theorem laidWorld_met (os : Os) (args : Array Value) : laidMetH Tryz.prog [("errors.errorType", Rows.laid_errors_errorType)] ((laidWorld os).forCall (fun _ _ => 0) ⟨#[], args, []⟩).memory :=
  laidMetH_of_parts (laidMet_nil _ _) (by kernel_rfl)

theorem of_laid {W : World} (h : laidMetH Tryz.prog [("errors.errorType", Rows.laid_errors_errorType)] W) : ∀ x ∈ gl0, x.1 < 100 ∧ x.2.own = false ∧ Abs.objR (Abs.startN 100) (Abs.allOf W) W x.1 x.2 := by
  have hc := handle_of_laid h
  intro x hx
  have hx2 : x = (0, .cells [.iface 210 (.agg ⟨[.pointer (some ⟨2, 87, none⟩)]⟩)] 0 1 true false) := by
    have : x ∈ [(0, Abs.AObj.cells [.iface 210 (.agg ⟨[.pointer (some ⟨2, 87, none⟩)]⟩)] 0 1 true false)] := hx
    simpa using this
  subst hx2
  refine ⟨by decide, rfl, ?_⟩
  unfold World.cell? at hc
  split at hc
  · rename_i c t fz hw
    simp only [Option.isSome_none, Bool.false_eq_true, if_false] at hc
    refine Abs.objR_var (by decide) hw ?_ ?_
    · have h1 : c.toList.take 1 = [.iface 210 (.agg #[.pointer (some ⟨2, 87, none⟩)])] := by
        apply List.ext_getElem?
        intro i
        rw [List.getElem?_take]
        cases i with
        | zero => rw [if_pos (by decide)]; simpa using hc
        | succ i => rw [if_neg (by omega)]; rfl
      show Abs.VRL (Abs.startN 100) _ (c.toList.take 1)
      rw [h1]
      refine Abs.VRL.one ?_
      simp only [Abs.VR, Abs.VRA, Abs.VRL]
      exact ⟨_, ⟨_, ⟨_, _, ⟨⟨2, 87, none⟩, ⟨0, 0, by simp [Abs.startN], rfl, rfl⟩, rfl⟩, rfl, rfl⟩, rfl⟩, rfl⟩
    · rcases Nat.lt_or_ge 0 c.size with h0 | h0
      · exact h0
      · rw [Array.getElem?_eq_none h0] at hc; cases hc
  · cases hc

theorem walk (w : World) (h : laidMetH Tryz.prog [("errors.errorType", Rows.laid_errors_errorType)] w) : Calls Tryz.prog 3 #[] w fun e w' => e = .returned (.bool true) ∧ ∀ may, w.keptBut w' may :=
  (Abs.closed_callG okp (Abs.orcOf_ok known) ran w (of_laid h)).mono fun e w' ⟨he, F, H, R⟩ => ⟨he, R.kept⟩

theorem lifted (os : Os) (started : os.Started) (H : Type) (enc : TypeId × Value → H) :
    ReturnsInHanded {} Tryz.checked os 3 .any (fun w args => (Rows.configNamesSpec.pre enc Tryz.prog Tryz.f3 [] false w args ∧ laidMetH Tryz.prog [("errors.errorType", Rows.laid_errors_errorType)] w) ∧ sizedMet enc Tryz.prog Tryz.f3 (OpenSpec.ofChange Rows.configNamesSpec) false w args)
      (Rows.configNamesSpec.post enc Tryz.prog Tryz.f3 false true false false) := by
  refine returnsInHanded_of_change_and (C := Tryz.checked) (X := fun w _ => laidMetH Tryz.prog [("errors.errorType", Rows.laid_errors_errorType)] w) (fun _ _ _ hh h => h.of_heap hh) own started (by kernel_rfl) Tryz.func3
    (ChangeSpec.witness_at (enc := enc) (C := Tryz.checked) (os := os) (X := fun w _ => laidMetH Tryz.prog [("errors.errorType", Rows.laid_errors_errorType)] w) false (laidWorld os) #[] 8 rfl (by kernel_rfl) (by kernel_rfl) (by kernel_rfl) (by kernel_rfl) (by kernel_rfl) (laidWorld_met os _)) ?_
  intro W base args ds gs before hval0 hW _ _ hL _
  have hval : ∀ (j : Nat) t v, Tryz.f3.params[j]? = some t → args[j]? = some v → Value.okWide Tryz.prog W .any base t v := hval0
  have hW' := hW
  obtain ⟨p, q, hA0, hV, rfl, hfz, hnd⟩ := hW
  have hA : DataW.TrodAll enc Tryz.prog W 0 (fun _ => true) true Tryz.f3.params.toList args.toList ds p := hA0
  rw [Tryz.params3] at hA hval
  obtain ⟨rfl, rfl, rfl⟩ := trodAll_none hA
  obtain ⟨rfl, rfl⟩ := trodVars_none hV
  clear hA0 hval0
  simp only [List.append_nil] at hW'
  refine (walk W hL).mono fun e W' ⟨he, hk⟩ => ?_
  subst he
  exact ⟨_, rfl, ⟨[], [], [], [], [], [], hW', trodAll_cons_mk (shut_bool Tryz.underlying4 _) trodAll_mk0, rfl, rfl, hk _, fun h => by cases h⟩⟩

theorem over : Rows.ConfigNamesSaid :=
  OpenClaim.holds_of_wide 3 Tryz.f3 rfl rfl rfl rfl rfl rfl rfl ⟨rfl, rfl, rfl, rfl, rfl⟩ rfl rfl rfl rfl rfl (by kernel_rfl) Tryz.func3 joined
    (of_decide_eq_true (by kernel_rfl)) (by unfold Func.isWrapper; first | (rw [if_pos (by decide +kernel)]; kernel_rfl) | (rw [if_neg (by decide +kernel)]; exact ⟨rfl, rfl⟩))
    (fun os started H enc _ => lifted os started H enc)

theorem proved : Rows.ConfigNamesCardSaid :=
  Claim7.holds_tied_plain_at .later [] [.handle] true (true, "1e264bf86d0ad1939f1ccf7ce6c3198c7bae8989a3f369401e2424ba5c52e4a7") true
    over (fun _ h => by cases h) jw (fun _ h => by cases h) configNames_row_tie rfl ⟨rfl, rfl⟩ jm rfl
    (fun f fn hf hfn => by
      obtain rfl : f = 3 := Option.some.inj ((show Tryz.prog.funcNamed "turnout/turnoutlaw26.ConfigNames" = some 3 by kernel_rfl).symm.trans hf) |>.symm
      obtain rfl : fn = Tryz.f3 := (Option.some.inj (Tryz.func3.symm.trans hfn)).symm
      exact ⟨jl, fun j t ht => by
        rw [Tryz.params3] at ht
        simp at ht⟩)
    jg
#print axioms proved
end Go.Proofs.YtfhkbepjppcjmaaGreatDoor.configNames
