/- The Go function ObjPuts returns true, whatever the message, from any memory and on every schedule; its argument reads as before. -/
import Derived.Test.YtblbaohcelldpaaGreatRows
import Derived.Test.YtblbaohcelldpaaGreatT26
import Derived.Test.YtblbaohcelldpaaGreatWE
namespace Go.Proofs.YtblbaohcelldpaaGreat.objPuts
open Go Go.Abs Go.Tlv Go.ChangeShapes Go.WideShapes Go.ChangeAt Go.RowKit Go.Proofs.YtblbaohcelldpaaGreat.Ob
set_option linter.unusedVariables false
theorem own : ownKnob Tryz.prog.godebug = none := by kernel_rfl
def msgK : List CK := [.int .u8, .int .u32, .int .i64, .int .i64, .int .i64, .int .i64, .int .i64, .int .u64, .int .u64, .str, .sl 24, .int .i64, .int .i64, .int .i64, .int .i64, .int .i64, .int .i64, .int .i64, .sl 25, .int .i64, .int .i64, .int .u8, .int .i64, .int .i64, .int .i64, .int .i64, .int .u8, .sl 30, .int .i64, .int .i64, .int .i64, .str, .str, .int .i64, .int .i64, .int .i64, .sl 24, .int .i64, .int .i64, .int .u64, .bool, .int .i64, .sl 35, .int .i64, .int .u8, .int .i64, .sl 38, .int .i64, .int .i64, .int .i64, .int .i64, .int .i64]
theorem msgK_eq : flatK Tryz.prog 3 46 = some msgK := by kernel_rfl
section
variable {H : Type} {enc : TypeId × Value → H} {W : World} {r : List Value}
theorem cks_nat (h : CksOk enc Tryz.prog W 0 (fun _ => true) true [.int .u64] r) : ∃ x : Nat, r = cNat x ∧ wfNat x := by
  obtain ⟨_, r0, rfl, ⟨z0, rfl, w0⟩, h⟩ := h
  simp only [CksOk] at h
  subst h
  obtain ⟨m0, rfl, b0⟩ := wf_u64 w0
  exact ⟨m0, rfl, b0⟩
theorem cks_nat_pl (h : CksOk enc Tryz.prog W 0 (fun _ => true) true [.int .u64] r) : plainL r = true := by
  obtain ⟨_, r0, rfl, ⟨z0, rfl, w0⟩, h⟩ := h
  simp only [CksOk] at h
  subst h
  rfl
theorem cks_int (h : CksOk enc Tryz.prog W 0 (fun _ => true) true [.int .i64] r) : ∃ x : Int, r = cInt x ∧ wfInt x := by
  obtain ⟨_, r0, rfl, ⟨z0, rfl, w0⟩, h⟩ := h
  simp only [CksOk] at h
  subst h
  exact ⟨z0, rfl, trivial⟩
theorem cks_int_pl (h : CksOk enc Tryz.prog W 0 (fun _ => true) true [.int .i64] r) : plainL r = true := by
  obtain ⟨_, r0, rfl, ⟨z0, rfl, w0⟩, h⟩ := h
  simp only [CksOk] at h
  subst h
  rfl
theorem cks_arm (h : CksOk enc Tryz.prog W 0 (fun _ => true) true [.int .u32, .int .i64] r) : ∃ x : Arm, r = cArm x ∧ wfArm x := by
  obtain ⟨_, r0, rfl, ⟨z0, rfl, w0⟩, h⟩ := h
  obtain ⟨_, r1, rfl, ⟨z1, rfl, w1⟩, h⟩ := h
  simp only [CksOk] at h
  subst h
  obtain ⟨m0, rfl, b0⟩ := wf_u32 w0
  exact ⟨⟨m0, z1⟩, rfl, trivial⟩
theorem cks_arm_pl (h : CksOk enc Tryz.prog W 0 (fun _ => true) true [.int .u32, .int .i64] r) : plainL r = true := by
  obtain ⟨_, r0, rfl, ⟨z0, rfl, w0⟩, h⟩ := h
  obtain ⟨_, r1, rfl, ⟨z1, rfl, w1⟩, h⟩ := h
  simp only [CksOk] at h
  subst h
  rfl
theorem cks_instr (h : CksOk enc Tryz.prog W 0 (fun _ => true) true [.int .u8, .int .i64, .int .u8, .int .u64, .int .u8, .int .u64, .int .i64] r) : ∃ x : Instr, r = cInstr x ∧ wfInstr x := by
  obtain ⟨_, r0, rfl, ⟨z0, rfl, w0⟩, h⟩ := h
  obtain ⟨_, r1, rfl, ⟨z1, rfl, w1⟩, h⟩ := h
  obtain ⟨_, r2, rfl, ⟨z2, rfl, w2⟩, h⟩ := h
  obtain ⟨_, r3, rfl, ⟨z3, rfl, w3⟩, h⟩ := h
  obtain ⟨_, r4, rfl, ⟨z4, rfl, w4⟩, h⟩ := h
  obtain ⟨_, r5, rfl, ⟨z5, rfl, w5⟩, h⟩ := h
  obtain ⟨_, r6, rfl, ⟨z6, rfl, w6⟩, h⟩ := h
  simp only [CksOk] at h
  subst h
  obtain ⟨m0, rfl, b0⟩ := wf_u8 w0
  obtain ⟨m2, rfl, b2⟩ := wf_u8 w2
  obtain ⟨m3, rfl, b3⟩ := wf_u64 w3
  obtain ⟨m4, rfl, b4⟩ := wf_u8 w4
  obtain ⟨m5, rfl, b5⟩ := wf_u64 w5
  exact ⟨⟨m0, z1, m2, m3, m4, m5, z6⟩, rfl, b3, b5⟩
theorem cks_instr_pl (h : CksOk enc Tryz.prog W 0 (fun _ => true) true [.int .u8, .int .i64, .int .u8, .int .u64, .int .u8, .int .u64, .int .i64] r) : plainL r = true := by
  obtain ⟨_, r0, rfl, ⟨z0, rfl, w0⟩, h⟩ := h
  obtain ⟨_, r1, rfl, ⟨z1, rfl, w1⟩, h⟩ := h
  obtain ⟨_, r2, rfl, ⟨z2, rfl, w2⟩, h⟩ := h
  obtain ⟨_, r3, rfl, ⟨z3, rfl, w3⟩, h⟩ := h
  obtain ⟨_, r4, rfl, ⟨z4, rfl, w4⟩, h⟩ := h
  obtain ⟨_, r5, rfl, ⟨z5, rfl, w5⟩, h⟩ := h
  obtain ⟨_, r6, rfl, ⟨z6, rfl, w6⟩, h⟩ := h
  simp only [CksOk] at h
  subst h
  rfl
theorem cks_bucket (h : CksOk enc Tryz.prog W 0 (fun _ => true) true [.int .u64, .int .i64] r) : ∃ x : Bucket, r = cBucket x ∧ wfBucket x := by
  obtain ⟨_, r0, rfl, ⟨z0, rfl, w0⟩, h⟩ := h
  obtain ⟨_, r1, rfl, ⟨z1, rfl, w1⟩, h⟩ := h
  simp only [CksOk] at h
  subst h
  obtain ⟨m0, rfl, b0⟩ := wf_u64 w0
  exact ⟨⟨m0, z1⟩, rfl, b0⟩
theorem cks_bucket_pl (h : CksOk enc Tryz.prog W 0 (fun _ => true) true [.int .u64, .int .i64] r) : plainL r = true := by
  obtain ⟨_, r0, rfl, ⟨z0, rfl, w0⟩, h⟩ := h
  obtain ⟨_, r1, rfl, ⟨z1, rfl, w1⟩, h⟩ := h
  simp only [CksOk] at h
  subst h
  rfl
end
set_option maxRecDepth 100000 in
set_option maxHeartbeats 4000000 in
theorem walk {H : Type} {enc : TypeId × Value → H} {W : World} {cs1 : List Value} (h1 : CksOk enc Tryz.prog W 0 (fun _ => true) true msgK cs1) :
    Calls Tryz.prog 3 #[.agg ⟨cs1⟩] W fun e w' => e = .returned (.bool true) ∧ Below W.heap.size W w' := by
  unfold msgK at h1
  obtain ⟨_, rr0, rfl, ⟨a0, rfl, w0⟩, h1⟩ := h1
  obtain ⟨_, rr1, rfl, ⟨a1, rfl, w1⟩, h1⟩ := h1
  obtain ⟨_, rr2, rfl, ⟨a2, rfl, w2⟩, h1⟩ := h1
  obtain ⟨_, rr3, rfl, ⟨a3, rfl, w3⟩, h1⟩ := h1
  obtain ⟨_, rr4, rfl, ⟨a4, rfl, w4⟩, h1⟩ := h1
  obtain ⟨_, rr5, rfl, ⟨a5, rfl, w5⟩, h1⟩ := h1
  obtain ⟨_, rr6, rfl, ⟨a6, rfl, w6⟩, h1⟩ := h1
  obtain ⟨_, rr7, rfl, ⟨a7, rfl, w7⟩, h1⟩ := h1
  obtain ⟨_, rr8, rfl, ⟨a8, rfl, w8⟩, h1⟩ := h1
  obtain ⟨_, rr9, rfl, ⟨a9, rfl, _⟩, h1⟩ := h1
  obtain ⟨v10, rr10, rfl, s10, h1⟩ := h1
  obtain ⟨_, rr11, rfl, ⟨n_id, rfl, w11⟩, h1⟩ := h1
  obtain ⟨_, rr12, rfl, ⟨n_size, rfl, w12⟩, h1⟩ := h1
  obtain ⟨_, rr13, rfl, ⟨n_lo, rfl, w13⟩, h1⟩ := h1
  obtain ⟨_, rr14, rfl, ⟨n_lw, rfl, w14⟩, h1⟩ := h1
  obtain ⟨_, rr15, rfl, ⟨n_lu, rfl, w15⟩, h1⟩ := h1
  obtain ⟨_, rr16, rfl, ⟨n_so, rfl, w16⟩, h1⟩ := h1
  obtain ⟨_, rr17, rfl, ⟨n_sw, rfl, w17⟩, h1⟩ := h1
  obtain ⟨v18, rr18, rfl, s18, h1⟩ := h1
  obtain ⟨_, rr19, rfl, ⟨n_ot, rfl, w19⟩, h1⟩ := h1
  obtain ⟨_, rr20, rfl, ⟨f_id, rfl, w20⟩, h1⟩ := h1
  obtain ⟨_, rr21, rfl, ⟨f_base, rfl, w21⟩, h1⟩ := h1
  obtain ⟨_, rr22, rfl, ⟨f_node, rfl, w22⟩, h1⟩ := h1
  obtain ⟨_, rr23, rfl, ⟨f_off, rfl, w23⟩, h1⟩ := h1
  obtain ⟨_, rr24, rfl, ⟨f_wid, rfl, w24⟩, h1⟩ := h1
  obtain ⟨_, rr25, rfl, ⟨t_id, rfl, w25⟩, h1⟩ := h1
  obtain ⟨_, rr26, rfl, ⟨t_kind, rfl, w26⟩, h1⟩ := h1
  obtain ⟨v27, rr27, rfl, s27, h1⟩ := h1
  obtain ⟨_, rr28, rfl, ⟨t_cap, rfl, w28⟩, h1⟩ := h1
  obtain ⟨_, rr29, rfl, ⟨t_miss, rfl, w29⟩, h1⟩ := h1
  obtain ⟨_, rr30, rfl, ⟨e_tab, rfl, w30⟩, h1⟩ := h1
  obtain ⟨_, rr31, rfl, ⟨e_key, rfl, _⟩, h1⟩ := h1
  obtain ⟨_, rr32, rfl, ⟨e_oth, rfl, _⟩, h1⟩ := h1
  obtain ⟨_, rr33, rfl, ⟨e_len, rfl, w33⟩, h1⟩ := h1
  obtain ⟨_, rr34, rfl, ⟨e_prio, rfl, w34⟩, h1⟩ := h1
  obtain ⟨_, rr35, rfl, ⟨e_blk, rfl, w35⟩, h1⟩ := h1
  obtain ⟨v36, rr36, rfl, s36, h1⟩ := h1
  obtain ⟨_, rr37, rfl, ⟨e_idle, rfl, w37⟩, h1⟩ := h1
  obtain ⟨_, rr38, rfl, ⟨e_hard, rfl, w38⟩, h1⟩ := h1
  obtain ⟨_, rr39, rfl, ⟨e_cook, rfl, w39⟩, h1⟩ := h1
  obtain ⟨_, rr40, rfl, ⟨e_tell, rfl⟩, h1⟩ := h1
  obtain ⟨_, rr41, rfl, ⟨b_id, rfl, w41⟩, h1⟩ := h1
  obtain ⟨v42, rr42, rfl, s42, h1⟩ := h1
  obtain ⟨_, rr43, rfl, ⟨g_id, rfl, w43⟩, h1⟩ := h1
  obtain ⟨_, rr44, rfl, ⟨g_kind, rfl, w44⟩, h1⟩ := h1
  obtain ⟨_, rr45, rfl, ⟨g_fld, rfl, w45⟩, h1⟩ := h1
  obtain ⟨v46, rr46, rfl, s46, h1⟩ := h1
  obtain ⟨_, rr47, rfl, ⟨m_id, rfl, w47⟩, h1⟩ := h1
  obtain ⟨_, rr48, rfl, ⟨m_rate, rfl, w48⟩, h1⟩ := h1
  obtain ⟨_, rr49, rfl, ⟨m_burst, rfl, w49⟩, h1⟩ := h1
  obtain ⟨_, rr50, rfl, ⟨r_id, rfl, w50⟩, h1⟩ := h1
  obtain ⟨_, rr51, rfl, ⟨r_size, rfl, w51⟩, h1⟩ := h1
  simp only [CksOk] at h1
  subst h1
  obtain ⟨a0, rfl, bb0⟩ := wf_u8 w0
  obtain ⟨a1, rfl, bb1⟩ := wf_u32 w1
  obtain ⟨a7, rfl, bb7⟩ := wf_u64 w7
  obtain ⟨a8, rfl, bb8⟩ := wf_u64 w8
  obtain ⟨f_base, rfl, bb21⟩ := wf_u8 w21
  obtain ⟨t_kind, rfl, bb26⟩ := wf_u8 w26
  obtain ⟨e_cook, rfl, bb39⟩ := wf_u64 w39
  obtain ⟨g_kind, rfl, bb44⟩ := wf_u8 w44
  obtain ⟨rows10, hr10, hl10, hv10⟩ := deep_slice (ks := [.int .u64]) (d := 3) (t := 24) (e := 23) (by kernel_rfl) (by kernel_rfl) (by kernel_rfl) (by simp) (Nat.le_of_ble_eq_true (by kernel_rfl)) (fun _ h => cks_nat_pl h) s10
  obtain ⟨a10, rfl, wl10⟩ := rows_of (c := cNat) (wf := wfNat) (fun r h => cks_nat (hr10 r h))
  rw [List.length_map] at hl10
  rw [List.map_map] at hv10
  obtain ⟨rows18, hr18, hl18, hv18⟩ := deep_slice (ks := [.int .u32, .int .i64]) (d := 3) (t := 25) (e := 69) (by kernel_rfl) (by kernel_rfl) (by kernel_rfl) (by simp) (Nat.le_of_ble_eq_true (by kernel_rfl)) (fun _ h => cks_arm_pl h) s18
  obtain ⟨n_arms, rfl, wl18⟩ := rows_of (c := cArm) (wf := wfArm) (fun r h => cks_arm (hr18 r h))
  rw [List.length_map] at hl18
  rw [List.map_map] at hv18
  obtain ⟨rows27, hr27, hl27, hv27⟩ := deep_slice (ks := [.int .i64]) (d := 3) (t := 30) (e := 3) (by kernel_rfl) (by kernel_rfl) (by kernel_rfl) (by simp) (Nat.le_of_ble_eq_true (by kernel_rfl)) (fun _ h => cks_int_pl h) s27
  obtain ⟨t_keys, rfl, wl27⟩ := rows_of (c := cInt) (wf := wfInt) (fun r h => cks_int (hr27 r h))
  rw [List.length_map] at hl27
  rw [List.map_map] at hv27
  obtain ⟨rows36, hr36, hl36, hv36⟩ := deep_slice (ks := [.int .u64]) (d := 3) (t := 24) (e := 23) (by kernel_rfl) (by kernel_rfl) (by kernel_rfl) (by simp) (Nat.le_of_ble_eq_true (by kernel_rfl)) (fun _ h => cks_nat_pl h) s36
  obtain ⟨e_args, rfl, wl36⟩ := rows_of (c := cNat) (wf := wfNat) (fun r h => cks_nat (hr36 r h))
  rw [List.length_map] at hl36
  rw [List.map_map] at hv36
  obtain ⟨rows42, hr42, hl42, hv42⟩ := deep_slice (ks := [.int .u8, .int .i64, .int .u8, .int .u64, .int .u8, .int .u64, .int .i64]) (d := 3) (t := 35) (e := 80) (by kernel_rfl) (by kernel_rfl) (by kernel_rfl) (by simp) (Nat.le_of_ble_eq_true (by kernel_rfl)) (fun _ h => cks_instr_pl h) s42
  obtain ⟨b_code, rfl, wl42⟩ := rows_of (c := cInstr) (wf := wfInstr) (fun r h => cks_instr (hr42 r h))
  rw [List.length_map] at hl42
  rw [List.map_map] at hv42
  obtain ⟨rows46, hr46, hl46, hv46⟩ := deep_slice (ks := [.int .u64, .int .i64]) (d := 3) (t := 38) (e := 106) (by kernel_rfl) (by kernel_rfl) (by kernel_rfl) (by simp) (Nat.le_of_ble_eq_true (by kernel_rfl)) (fun _ h => cks_bucket_pl h) s46
  obtain ⟨g_bks, rfl, wl46⟩ := rows_of (c := cBucket) (wf := wfBucket) (fun r h => cks_bucket (hr46 r h))
  rw [List.length_map] at hl46
  rw [List.map_map] at hv46
  exact deep_walk (lawH ⟨a0, a1, a2, a3, a4, a5, a6, a7, a8, a9, a10, ⟨n_id, n_size, n_lo, n_lw, n_lu, n_so, n_sw, n_arms, n_ot⟩, ⟨f_id, f_base, f_node, f_off, f_wid⟩, ⟨t_id, t_kind, t_keys, t_cap, t_miss⟩, ⟨e_tab, e_key, e_oth, e_len, e_prio, e_blk, e_args, e_idle, e_hard, e_cook, e_tell⟩, ⟨b_id, b_code⟩, ⟨g_id, g_kind, g_fld, g_bks⟩, ⟨m_id, m_rate, m_burst⟩, ⟨r_id, r_size⟩⟩ hl18 hl27 hl36 hl42 hl46 ⟨wl36, bb39⟩ wl42 wl46 (allOf W) _) (vr_cons (vr_agg (vr_cons vr_int (vr_cons vr_int (vr_cons vr_int (vr_cons vr_int (vr_cons vr_int (vr_cons vr_int (vr_cons vr_int (vr_cons vr_int (vr_cons vr_int (vr_cons vr_str (vr_cons hv10 (vr_cons vr_int (vr_cons vr_int (vr_cons vr_int (vr_cons vr_int (vr_cons vr_int (vr_cons vr_int (vr_cons vr_int (vr_cons hv18 (vr_cons vr_int (vr_cons vr_int (vr_cons vr_int (vr_cons vr_int (vr_cons vr_int (vr_cons vr_int (vr_cons vr_int (vr_cons vr_int (vr_cons hv27 (vr_cons vr_int (vr_cons vr_int (vr_cons vr_int (vr_cons vr_str (vr_cons vr_str (vr_cons vr_int (vr_cons vr_int (vr_cons vr_int (vr_cons hv36 (vr_cons vr_int (vr_cons vr_int (vr_cons vr_int (vr_cons vr_bool (vr_cons vr_int (vr_cons hv42 (vr_cons vr_int (vr_cons vr_int (vr_cons vr_int (vr_cons hv46 (vr_cons vr_int (vr_cons vr_int (vr_cons vr_int (vr_cons vr_int (vr_cons vr_int vr_nil))))))))))))))))))))))))))))))))))))))))))))))))))))) vr_nil)
set_option maxRecDepth 100000 in
theorem lifted (os : Os) (started : os.Started) (H : Type) (enc : TypeId × Value → H) :
    ReturnsInHanded {} Tryz.checked os 3 .any (Rows.objPutsSpec.pre6 enc Tryz.prog Tryz.f3 Rows.objPutsRow.domain false) (Rows.objPutsSpec.post enc Tryz.prog Tryz.f3 false true false false) := by
  refine returnsInHanded_of_change_sized (C := Tryz.checked) own started (by kernel_rfl) Tryz.func3
    (ChangeSpec.witness6 (enc := enc) (C := Tryz.checked) false ⟨#[], #[.agg #[.int .u8 0, .int .u32 0, .int .i64 0, .int .i64 0, .int .i64 0, .int .i64 0, .int .i64 0, .int .u64 0, .int .u64 0, .string ⟨#[]⟩, .slice none 0 0, .int .i64 0, .int .i64 0, .int .i64 0, .int .i64 0, .int .i64 0, .int .i64 0, .int .i64 0, .slice none 0 0, .int .i64 0, .int .i64 0, .int .u8 0, .int .i64 0, .int .i64 0, .int .i64 0, .int .i64 0, .int .u8 0, .slice none 0 0, .int .i64 0, .int .i64 0, .int .i64 0, .string ⟨#[]⟩, .string ⟨#[]⟩, .int .i64 0, .int .i64 0, .int .i64 0, .slice none 0 0, .int .i64 0, .int .i64 0, .int .u64 0, .bool false, .int .i64 0, .slice none 0 0, .int .i64 0, .int .u8 0, .int .i64 0, .slice none 0 0, .int .i64 0, .int .i64 0, .int .i64 0, .int .i64 0, .int .i64 0]], []⟩ 8 (by kernel_rfl) (by kernel_rfl) (by kernel_rfl) (by kernel_rfl)) ?_
  intro W base args ds gs before hval0 hW hcnd hsz _
  have hval : ∀ (j : Nat) t v, Tryz.f3.params[j]? = some t → args[j]? = some v → Value.okWide Tryz.prog W .any base t v := hval0
  have hW' := hW
  obtain ⟨p, q, hA0, hV, rfl, hfz, hnd⟩ := hW
  have hA : DataW.TrodAll enc Tryz.prog W 0 (fun _ => true) true Tryz.f3.params.toList args.toList ds p := hA0
  rw [Tryz.params3] at hA hval
  have hsz' : (DataW.weightsEach Tryz.prog (Tryz.f3.params.toList ++ Rows.objPutsSpec.plain.varTypes Tryz.prog) (ds ++ gs)).all (· ≤ reachBytes) = true := hsz
  rw [Tryz.params3] at hsz'
  obtain ⟨v1, d1, rfl, rfl, h1⟩ := trodAll_one hA
  obtain ⟨rfl, rfl⟩ := trodVars_none hV
  obtain ⟨⟨cs1⟩, rfl, _⟩ := okWide_struct Tryz.underlying46 (hval 0 46 v1 rfl rfl)
  have hw : ∀ n ∈ d1.weights Tryz.prog 46, n ≤ reachBytes := by
    intro n hn
    have := List.all_eq_true.1 hsz' n (DataW.weights_mem_each (j := 0) (t := 46) (d := d1) (by rfl) (by rfl) n hn)
    simpa using this
  obtain ⟨f1, hf1⟩ := h1
  have k1 := flat_ok 3 46 msgK msgK_eq f1 cs1 (d1, p) hf1 hw
  have h1 : DataW.Trod enc Tryz.prog W 0 (fun _ => true) true 46 (.agg ⟨cs1⟩) d1 p := ⟨f1, hf1⟩
  clear hA0 hval0
  refine (walk k1).mono fun e W' ⟨he, hb⟩ => ?_
  subst he
  have hlt := fun y hy => hW'.lt y hy
  have hk : ∀ may, W.keptBut W' may := fun may => hb.frame may
  refine ⟨_, rfl, ⟨[d1], [], _, [], _, [], hW', trodAll_cons_mk (shut_bool Tryz.underlying4 _) trodAll_mk0,
    trodAll_cons_mk (hb.trod (by kernel_rfl) (by kernel_rfl) (Nat.le_of_ble_eq_true (by kernel_rfl)) h1 fun y hy => hlt y (by simp [hy])) trodAll_mk0, rfl, hk _, fun h => by cases h⟩⟩
theorem over : Rows.objPutsRow.holds Tryz.pinned (OpenSpec.ofChange Rows.objPutsSpec) :=
  OpenClaim.holds_of_wide 3 Tryz.f3 rfl rfl rfl rfl rfl rfl rfl ⟨rfl, rfl, rfl, rfl, rfl⟩ rfl rfl rfl rfl rfl (by kernel_rfl) Tryz.func3 (by kernel_rfl)
    (of_decide_eq_true (by kernel_rfl)) (by unfold Func.isWrapper; first | (rw [if_pos (by decide +kernel)]; kernel_rfl) | (rw [if_neg (by decide +kernel)]; exact ⟨rfl, rfl⟩))
    (fun os started H enc _ => lifted os started H enc)
theorem proved : Rows.ObjPutsSaid := over
#print axioms proved
end Go.Proofs.YtblbaohcelldpaaGreat.objPuts
