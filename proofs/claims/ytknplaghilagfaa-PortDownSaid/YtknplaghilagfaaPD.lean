/- The Go function PortDown returns true, whatever the acts, the port, and the frame, from any memory and on every schedule; its arguments read as before. -/
import Derived.Test.YtknplaghilagfaaRows
import Derived.Test.YtknplaghilagfaaF2
namespace Go.Proofs.Ytknplaghilagfaa.portDown
open Go Go.Abs Go.ChangeShapes Go.WideShapes Go.ChangeAt Go.RowKit Go.Proofs.Ytknplaghilagfaa.Po
set_option linter.unusedVariables false

theorem own : ownKnob Try.prog.godebug = none := by kernel_rfl

theorem walk {W : World} {v1 : Value} {x : Int} {s : ByteArray} (h : v1 = .slice none 0 0 ∨ (∃ a, v1 = .slice (some a) 0 0) ∨ ∃ a len cap l, v1 = .slice (some a) len cap ∧ Lies W a len cap l) :
    Calls Try.prog 5 #[v1, .int .i64 x, .string s] W fun e w' => e = .returned (.bool true) ∧ Below W.heap.size W w' := by
  by_cases hz : ∃ a len cap l, v1 = .slice (some a) len cap ∧ Lies W a len cap l ∧ 0 < cap
  · obtain ⟨a, len, cap, l, rfl, hl, hc⟩ := hz
    have hF : FL [some (a.block, cap - len, a.off)] 100 = some (a.block, cap - len, a.off) := rfl
    have R : Rel 100 (FL [some (a.block, cap - len, a.off)]) (hOf 100 [] [some (acs (acsV l))]) (allOf W) W := entry rfl (by
      intro i o hi
      cases i with
      | zero => simp only [List.getElem?_cons_zero, Option.some.injEq] at hi; subst hi; exact ⟨rfl, acs_objR hl hc hF⟩
      | succ i => simp at hi)
    obtain ⟨H', h4⟩ := down5_call hl.wf (by have := hl.le; have := hl.bd; have := hl.ln; omega) (cp := len) (x := x) (s := s) (allOf W)
    refine ret_walk h4 R ?_
    have hle := hl.le
    obtain ⟨b, o, sp⟩ := a
    have hsp := hl.spot
    simp only at hsp; subst hsp
    simp only [VRL, asl, VR, i64]
    refine ⟨_, _, ⟨⟨b, o, none⟩, cap - len, o, hF, by simp, rfl, rfl⟩, ⟨_, _, rfl, ⟨_, _, rfl, rfl, rfl⟩, rfl⟩, ?_⟩
    rw [hl.ln, show len + (cap - len) = cap by omega]
  · have hz' : v1 = .slice none 0 0 ∨ ∃ a, v1 = .slice (some a) 0 0 := by
      rcases h with h | h | ⟨a, len, cap, l, h, hl⟩
      · exact .inl h
      · exact .inr h
      · right
        have hc : cap = 0 := by
          rcases Nat.eq_zero_or_pos cap with c | c
          · exact c
          · exact absurd ⟨a, len, cap, l, h, hl, c⟩ hz
        have : len = 0 := by have := hl.le; omega
        exact ⟨a, by rw [h, hc, this]⟩
    rcases hz' with rfl | ⟨a, rfl⟩
    · have R : Rel 100 (FL [none]) (hOf 100 [] [none]) (allOf W) W := entry rfl (by
        intro i o hi
        cases i with
        | zero => simp at hi
        | succ i => simp at hi)
      obtain ⟨H', h4⟩ := down0_call (x := x) (s := s) (allOf W)
      refine ret_walk h4 R ?_
      simp only [VRL, VR, i64]
      exact ⟨_, _, rfl, ⟨_, _, rfl, ⟨_, _, rfl, rfl, rfl⟩, rfl⟩, rfl⟩
    · have R : Rel 100 (FL [some (a.block, 0, a.off)]) (hOf 100 [] [none]) (allOf W) W := entry rfl (by
        intro i o hi
        cases i with
        | zero => simp at hi
        | succ i => simp at hi)
      obtain ⟨H', h4⟩ := downZ_call (sp := a.spot) (x := x) (s := s) (allOf W)
      refine ret_walk h4 R ?_
      simp only [VRL, VR, i64]
      exact ⟨_, _, ⟨a, 0, a.off, rfl, by simp, rfl, rfl⟩, ⟨_, _, rfl, ⟨_, _, rfl, rfl, rfl⟩, rfl⟩, rfl⟩

set_option maxRecDepth 100000 in
theorem lifted (os : Os) (started : os.Started) (H : Type) (enc : TypeId × Value → H) :
    ReturnsInHanded {} Try.checked os 5 .any (Rows.portDownSpec.pre6 enc Try.prog Try.f5 Rows.portDownRow.domain false) (Rows.portDownSpec.post enc Try.prog Try.f5 false true false false) := by
  refine returnsInHanded_of_change (C := Try.checked) own started (by kernel_rfl) Try.func5
    (ChangeSpec.witness6 (enc := enc) (C := Try.checked) false ⟨#[], #[.slice none 0 0, .int .i64 0, .string ⟨#[]⟩], []⟩ 8 (by kernel_rfl) (by kernel_rfl) (by kernel_rfl) (by kernel_rfl)) ?_
  intro W base args ds gs before hval0 hW hcnd _
  have hval : ∀ (j : Nat) t v, Try.f5.params[j]? = some t → args[j]? = some v → Value.okWide Try.prog W .any base t v := hval0
  have hW' := hW
  obtain ⟨p, q, hA0, hV, rfl, hfz, hnd⟩ := hW
  have hA : DataW.TrodAll enc Try.prog W 0 (fun _ => true) true Try.f5.params.toList args.toList ds p := hA0
  rw [Try.params5] at hA hval
  obtain ⟨v1, v2, v3, d1, d2, d3, p1, p2, p3, rfl, rfl, rfl, h1, h2, h3⟩ := trodAll_three hA
  obtain ⟨rfl, rfl⟩ := trodVars_none hV
  obtain ⟨x, rfl⟩ := okWide_int Try.underlying3 (hval 1 3 v2 rfl rfl)
  obtain ⟨s, rfl⟩ := okWide_string Try.underlying9 (hval 2 9 v3 rfl rfl)
  have hlies := acts_of h1 (okWide_slice Try.underlying22 (hval 0 22 v1 rfl rfl))
  clear hA0 hval0
  refine (walk (x := x) (s := s) hlies).mono fun e W' ⟨he, hb⟩ => ?_
  subst he
  have hlt := fun y hy => hW'.lt y hy
  have hk : ∀ may, W.keptBut W' may := fun may => hb.frame may
  refine ⟨_, rfl, ⟨[d1, d2, d3], [], _, [], _, [], hW', trodAll_cons_mk (shut_bool Try.underlying4 _) trodAll_mk0,
    trodAll_cons_mk (hb.trod (by kernel_rfl) (by kernel_rfl) (Nat.le_of_ble_eq_true (by kernel_rfl)) h1 fun y hy => hlt y (by simp [hy]))
      (trodAll_cons_mk (hb.trod (by kernel_rfl) (by kernel_rfl) (Nat.le_of_ble_eq_true (by kernel_rfl)) h2 fun y hy => hlt y (by simp [hy]))
        (trodAll_cons_mk (hb.trod (by kernel_rfl) (by kernel_rfl) (Nat.le_of_ble_eq_true (by kernel_rfl)) h3 fun y hy => hlt y (by simp [hy])) trodAll_mk0)), rfl, hk _, fun h => by cases h⟩⟩

theorem over : Rows.portDownRow.holds Try.pinned (OpenSpec.ofChange Rows.portDownSpec) :=
  OpenClaim.holds_of_wide 5 Try.f5 rfl rfl rfl rfl rfl rfl rfl ⟨rfl, rfl, rfl, rfl, rfl⟩ rfl rfl rfl rfl rfl (by kernel_rfl) Try.func5 (by kernel_rfl)
    (of_decide_eq_true (by kernel_rfl)) (by unfold Func.isWrapper; first | (rw [if_pos (by decide +kernel)]; kernel_rfl) | (rw [if_neg (by decide +kernel)]; exact ⟨rfl, rfl⟩))
    (fun os started H enc _ => lifted os started H enc)

theorem proved : Rows.PortDownSaid := over
#print axioms proved
end Go.Proofs.Ytknplaghilagfaa.portDown
