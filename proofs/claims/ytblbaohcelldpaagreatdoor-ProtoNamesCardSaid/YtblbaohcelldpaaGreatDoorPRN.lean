/- The Go function ProtoNames returns true, from any memory in which the package variable turnout/proto.has holds what the program's own text lays there, and on every schedule; it takes no input and leaves all memory that was there as it was. -/
import Derived.Test.YtblbaohcelldpaaGreatDoorRows
import Derived.Test.YtblbaohcelldpaaGreatDoorTie
import Derived.Test.YtblbaohcelldpaaGreatDoorCards
import Derived.Test.YtblbaohcelldpaaGreatDoorC5
import Derived.Test.YtblbaohcelldpaaGreatDoorPRNa
import Derived.WalkKit
import Derived.ProofKit
import Derived.LaidMore
import Derived.OpenShut
import Derived.SevenTiedAt
namespace Go.Proofs.YtblbaohcelldpaaGreatDoor.protoNames
open Go.ChangeShapes Go.WideShapes Go.ChangeAt Go.WideMaps Go.WideElems Go.RowKit
set_option linter.unusedVariables false

theorem own : ownKnob Tryz.prog.godebug = none := by kernel_rfl
/-- The door's own heap meets the condition: three closed facts. -/
theorem door_met (os : Os) (args : Array Value) : laidMetH Tryz.prog [("turnout/proto.has", Rows.laid_turnout_proto_has)] ((World.doorLaid Tryz.prog 14 os).forCall (fun _ _ => 0) ⟨#[], args, []⟩).memory :=
  laidMetH_of_parts3 (fuel := 8) (laidMet_of_run' 8 (by kernel_rfl) (by kernel_rfl)) (by kernel_rfl) (by kernel_rfl)

theorem of_laid {W : World} (h : laidMetH Tryz.prog [("turnout/proto.has", Rows.laid_turnout_proto_has)] W) : ∀ x ∈ gl0, x.1 < 100 ∧ x.2.own = false ∧ Abs.objR (Abs.startN 100) (Abs.allOf W) W x.1 x.2 := by
  rw [MakeChecks.laidMetH_plain _ _ _ (by kernel_rfl)] at h
  intro x hx
  have hx2 : x = (0, .cells (([0, 0, 64, 256, 256, 0, 68, 0, 0, 12, 8, 1024, 2, 2048, 2, 4096, 2, 8192, 8192, 16384, 2, 32768, 2, 65536, 2, 131072, 2, 2, 2, 2, 194, 70, 518, 518, 2, 66, 0, 512, 16, 84, 272, 304, 8224, 0, 64, 2, 66] : List Int).map (Value.int .u32)) 0 1 true false) := by
    have : x ∈ [(0, Abs.AObj.cells (([0, 0, 64, 256, 256, 0, 68, 0, 0, 12, 8, 1024, 2, 2048, 2, 4096, 2, 8192, 8192, 16384, 2, 32768, 2, 65536, 2, 131072, 2, 2, 2, 2, 194, 70, 518, 518, 2, 66, 0, 512, 16, 84, 272, 304, 8224, 0, 64, 2, 66] : List Int).map (Value.int .u32)) 0 1 true false)] := hx
    simpa using this
  subst hx2
  exact ⟨by decide, rfl, Abs.laid_ints (name := "turnout/proto.has") (t := 119) (e := 27) (n := 47) (k := .u32) [0, 0, 64, 256, 256, 0, 68, 0, 0, 12, 8, 1024, 2, 2048, 2, 4096, 2, 8192, 8192, 16384, 2, 32768, 2, 65536, 2, 131072, 2, 2, 2, 2, 194, 70, 518, 518, 2, 66, 0, 512, 16, 84, 272, 304, 8224, 0, 64, 2, 66] (by kernel_rfl) (by kernel_rfl) (by kernel_rfl) (by kernel_rfl) (by kernel_rfl) (by kernel_rfl) (by kernel_rfl) (by decide) h⟩

theorem walk (w : World) (h : laidMetH Tryz.prog [("turnout/proto.has", Rows.laid_turnout_proto_has)] w) : Calls Tryz.prog 3 #[] w fun e w' => e = .returned (.bool true) ∧ ∀ may, w.keptBut w' may :=
  (Abs.closed_callG okp (Abs.orcOf_ok known) ran w (of_laid h)).mono fun e w' ⟨he, F, H, R⟩ => ⟨he, R.kept⟩

set_option maxRecDepth 100000 in
theorem lifted (os : Os) (started : os.Started) (H : Type) (enc : TypeId × Value → H) :
    ReturnsInHanded {} Tryz.checked os 3 .any (fun w args => (Rows.protoNamesSpec.pre enc Tryz.prog Tryz.f3 [] false w args ∧ laidMetH Tryz.prog [("turnout/proto.has", Rows.laid_turnout_proto_has)] w) ∧ sizedMet enc Tryz.prog Tryz.f3 (OpenSpec.ofChange Rows.protoNamesSpec) false w args)
      (Rows.protoNamesSpec.post enc Tryz.prog Tryz.f3 false true false false) := by
  refine returnsInHanded_of_change_and (C := Tryz.checked) (X := fun w _ => laidMetH Tryz.prog [("turnout/proto.has", Rows.laid_turnout_proto_has)] w) (fun _ _ _ hh h => h.of_heap hh) own started (by kernel_rfl) Tryz.func3
    (ChangeSpec.witness_shaped (enc := enc) (C := Tryz.checked) (os := os) (X := fun w _ => laidMetH Tryz.prog [("turnout/proto.has", Rows.laid_turnout_proto_has)] w) false (World.doorLaid Tryz.prog 14 os) #[] 8 rfl (World.shaped_of_RefB (by kernel_rfl) (by kernel_rfl)) (by kernel_rfl) (by kernel_rfl) (by kernel_rfl) (door_met os _)) ?_
  intro W base args ds gs before hval0 hW _ _ hL _
  have hval : ∀ (j : Nat) t v, Tryz.f3.params[j]? = some t → args[j]? = some v → Value.okWide Tryz.prog W .any base t v := hval0
  have hW' := hW
  obtain ⟨p, q, hA0, hV, rfl, hfz, hnd⟩ := hW
  have hA : DataW.TrodAll enc Tryz.prog W 0 (fun _ => true) true Tryz.f3.params.toList args.toList ds p := hA0
  rw [Tryz.params3] at hA hval
  obtain ⟨rfl, rfl, rfl⟩ := trodAll_none hA
  obtain ⟨rfl, rfl⟩ := trodVars_none hV
  clear hA0 hval0
  simp only [List.append_nil] at hW'
  refine (walk W hL).mono fun e W' ⟨he, hk⟩ => ?_
  subst he
  exact ⟨_, rfl, ⟨[], [], [], [], [], [], hW', trodAll_cons_mk (shut_bool Tryz.underlying4 _) trodAll_mk0, rfl, rfl, hk _, fun h => by cases h⟩⟩

theorem over : Rows.ProtoNamesSaid :=
  OpenClaim.holds_of_wide 3 Tryz.f3 rfl rfl rfl rfl rfl rfl rfl ⟨rfl, rfl, rfl, rfl, rfl⟩ rfl rfl rfl rfl rfl (by kernel_rfl) Tryz.func3 (by kernel_rfl)
    (of_decide_eq_true (by kernel_rfl)) (by unfold Func.isWrapper; first | (rw [if_pos (by decide +kernel)]; kernel_rfl) | (rw [if_neg (by decide +kernel)]; exact ⟨rfl, rfl⟩))
    (fun os started H enc _ => lifted os started H enc)

theorem proved : Rows.ProtoNamesCardSaid :=
  Claim7.holds_tied_plain_at .later [] [.data] true (true, "63031e9e2f8e1559d0a925d4ca1cc52d889f78a691705bf1a67832fc13277117") true
    over (fun _ h => by cases h) (by kernel_rfl) (fun _ h => by cases h) protoNames_row_tie rfl ⟨rfl, rfl⟩ (by kernel_rfl) rfl
    (fun f fn hf hfn => by
      obtain rfl : f = 3 := Option.some.inj ((show Tryz.prog.funcNamed "turnout/turnoutlaw09.ProtoNames" = some 3 by kernel_rfl).symm.trans hf) |>.symm
      obtain rfl : fn = Tryz.f3 := (Option.some.inj (Tryz.func3.symm.trans hfn)).symm
      exact ⟨by kernel_rfl, fun j t ht => by
        rw [Tryz.params3] at ht
        simp at ht⟩)
    (by kernel_rfl)
#print axioms proved
end Go.Proofs.YtblbaohcelldpaaGreatDoor.protoNames
