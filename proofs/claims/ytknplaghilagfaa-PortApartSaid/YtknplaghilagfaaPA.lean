/- The Go function PortApart returns true, whatever the two rows of acts, from any memory and on every schedule; its arguments read as before. -/
import Derived.Test.YtknplaghilagfaaRows
import Derived.Test.YtknplaghilagfaaF6
import Derived.Test.YtknplaghilagfaaF8
namespace Go.Proofs.Ytknplaghilagfaa.portApart
open Go Go.Abs Go.ChangeShapes Go.WideShapes Go.ChangeAt Go.RowKit Go.Proofs.Ytknplaghilagfaa.Po
set_option linter.unusedVariables false

theorem own : ownKnob Try.prog.godebug = none := by kernel_rfl

theorem walk {W : World} {v1 v2 : Value} (h : v1 = .slice none 0 0 ∨ (∃ a, v1 = .slice (some a) 0 0) ∨ ∃ a len cap l, v1 = .slice (some a) len cap ∧ Lies W a len cap l)
    (k : v2 = .slice none 0 0 ∨ (∃ a, v2 = .slice (some a) 0 0) ∨ ∃ a len cap l, v2 = .slice (some a) len cap ∧ Lies W a len cap l) :
    Calls Try.prog 7 #[v1, v2] W fun e w' => e = .returned (.bool true) ∧ Below W.heap.size W w' := by
  obtain ⟨y, oa, sv, l, hs, hF⟩ := slice_in h 100
  obtain ⟨z, ob, sm, more, hm, kF⟩ := slice_in k 101
  obtain ⟨h1, h2⟩ := hF (FL [y, z]) (by cases y <;> rfl)
  obtain ⟨k1, k2⟩ := kF (FL [y, z]) (by cases z <;> rfl)
  have R : Rel 100 (FL [y, z]) (hOf 100 [] [oa, ob]) (allOf W) W := entry rfl (by
    intro i o hi
    match i, hi with
    | 0, hi => simp only [List.getElem?_cons_zero, Option.some.injEq] at hi; exact h1 o hi
    | 1, hi => simp only [List.getElem?_cons_succ, List.getElem?_cons_zero, Option.some.injEq] at hi; exact k1 o hi
    | i + 2, hi => simp at hi)
  obtain ⟨H', h4⟩ := apart_call hs hm (allOf W)
  refine ret_walk h4 R ?_
  simp only [VRL]
  exact ⟨_, _, h2, ⟨_, _, k2, rfl, rfl⟩, rfl⟩

set_option maxRecDepth 100000 in
theorem lifted (os : Os) (started : os.Started) (H : Type) (enc : TypeId × Value → H) :
    ReturnsInHanded {} Try.checked os 7 .any (Rows.portApartSpec.pre6 enc Try.prog Try.f7 Rows.portApartRow.domain false) (Rows.portApartSpec.post enc Try.prog Try.f7 false true false false) := by
  refine returnsInHanded_of_change (C := Try.checked) own started (by kernel_rfl) Try.func7
    (ChangeSpec.witness6 (enc := enc) (C := Try.checked) false ⟨#[], #[.slice none 0 0, .slice none 0 0], []⟩ 8 (by kernel_rfl) (by kernel_rfl) (by kernel_rfl) (by kernel_rfl)) ?_
  intro W base args ds gs before hval0 hW hcnd _
  have hval : ∀ (j : Nat) t v, Try.f7.params[j]? = some t → args[j]? = some v → Value.okWide Try.prog W .any base t v := hval0
  have hW' := hW
  obtain ⟨p, q, hA0, hV, rfl, hfz, hnd⟩ := hW
  have hA : DataW.TrodAll enc Try.prog W 0 (fun _ => true) true Try.f7.params.toList args.toList ds p := hA0
  rw [Try.params7] at hA hval
  obtain ⟨v1, v2, d1, d2, p1, p2, rfl, rfl, rfl, h1, h2⟩ := trodAll_two hA
  obtain ⟨rfl, rfl⟩ := trodVars_none hV
  have hlies := acts_of h1 (okWide_slice Try.underlying22 (hval 0 22 v1 rfl rfl))
  have klies := acts_of h2 (okWide_slice Try.underlying22 (hval 1 22 v2 rfl rfl))
  clear hA0 hval0
  refine (walk hlies klies).mono fun e W' ⟨he, hb⟩ => ?_
  subst he
  have hlt := fun y hy => hW'.lt y hy
  have hk : ∀ may, W.keptBut W' may := fun may => hb.frame may
  refine ⟨_, rfl, ⟨[d1, d2], [], _, [], _, [], hW', trodAll_cons_mk (shut_bool Try.underlying4 _) trodAll_mk0,
    trodAll_cons_mk (hb.trod (by kernel_rfl) (by kernel_rfl) (Nat.le_of_ble_eq_true (by kernel_rfl)) h1 fun y hy => hlt y (by simp [hy]))
      (trodAll_cons_mk (hb.trod (by kernel_rfl) (by kernel_rfl) (Nat.le_of_ble_eq_true (by kernel_rfl)) h2 fun y hy => hlt y (by simp [hy])) trodAll_mk0), rfl, hk _, fun h => by cases h⟩⟩

theorem over : Rows.portApartRow.holds Try.pinned (OpenSpec.ofChange Rows.portApartSpec) :=
  OpenClaim.holds_of_wide 7 Try.f7 rfl rfl rfl rfl rfl rfl rfl ⟨rfl, rfl, rfl, rfl, rfl⟩ rfl rfl rfl rfl rfl (by kernel_rfl) Try.func7 (by kernel_rfl)
    (of_decide_eq_true (by kernel_rfl)) (by unfold Func.isWrapper; first | (rw [if_pos (by decide +kernel)]; kernel_rfl) | (rw [if_neg (by decide +kernel)]; exact ⟨rfl, rfl⟩))
    (fun os started H enc _ => lifted os started H enc)

theorem proved : Rows.PortApartSaid := over
#print axioms proved
end Go.Proofs.Ytknplaghilagfaa.portApart
