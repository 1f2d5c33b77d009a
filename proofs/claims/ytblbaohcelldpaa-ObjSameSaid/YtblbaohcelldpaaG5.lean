/- ObjSame: what its code asks is so. -/
import Derived.Test.YtblbaohcelldpaaG4
import Derived.Test.YtblbaohcelldpaaG2
namespace Go.Proofs.Ytblbaohcelldpaa.Ob
open Go Go.Abs
set_option linter.unusedVariables false
set_option maxRecDepth 100000
noncomputable section
def realS : MT := fun f args os K => ∃ t, (∀ H, 128 ≤ H.next → sel (objsOf 100 H) = os → ∀ B, CallH Try.prog 100 B f args H (.returned (.bool t)) H) ∧ K t
theorem pure_S (f : Nat) : PureOk Try.prog 100 f (sPs realS f) := by
  intro args H K h
  unfold sPs at h
  split at h
  · rename_i hle
    obtain ⟨t, h1, h2⟩ := h
    exact ⟨.bool t, h1 H (Nat.le_of_ble_eq_true hle) rfl, h2⟩
  · exact h.elim
theorem pure_A : PureOk Try.prog 100 6 sAw := by
  intro args H K h
  unfold sAw at h
  split at h
  · exact ⟨.bool true, awake_in H, h⟩
  · exact h.elim
theorem kn_S : KnOk Try.prog 100 (WS realS) := pu_ok (by
  intro x hx
  rcases List.mem_cons.1 hx with rfl | hx
  · exact pure_A
  · obtain ⟨f, _, rfl⟩ := List.mem_map.1 hx
    exact pure_S f)
section
variable {H : Heap} {os : List (Option AObj)} (hn : 128 ≤ H.next) (hs : sel (objsOf 100 H) = os)
include hn hs
theorem sel_lo {i : Nat} (hi : i < 12) {o : Option AObj} (h : os[i]? = some o) : H.get (100 + i) = o := by
  have hl : (objsOf 100 H).length = H.next - 100 := objsOf_len 100 H
  rw [← hs] at h
  unfold sel at h
  rw [List.getElem?_append_left (by rw [List.length_take]; omega), List.getElem?_take, if_pos hi, objsOf_get, if_pos (by omega)] at h
  simpa using h
theorem sel_hi {j : Nat} (hj : j < 5) {o : Option AObj} (h : os[12 + j]? = some o) : H.get (119 + 2 * j) = o := by
  have hl : (objsOf 100 H).length = H.next - 100 := objsOf_len 100 H
  have hd : ∀ k, k < 28 → ((objsOf 100 H).drop k).headD none = H.get (100 + k) := by
    intro k hk
    have : ((objsOf 100 H).drop k)[0]? = some (H.get (100 + k)) := by
      rw [List.getElem?_drop, Nat.add_zero, objsOf_get, if_pos (by omega)]
    cases hc : (objsOf 100 H).drop k with
    | nil => rw [hc] at this; simp at this
    | cons a l => rw [hc] at this; simpa using this
  rw [← hs] at h
  unfold sel at h
  rw [List.getElem?_append_right (by rw [List.length_take]; omega), List.length_take, Nat.min_eq_left (by omega), Nat.add_sub_cancel_left, hd 19 (by omega), hd 21 (by omega), hd 23 (by omega), hd 25 (by omega), hd 27 (by omega)] at h
  match j, hj with
  | 0, _ => simpa using h
  | 1, _ => simpa using h
  | 2, _ => simpa using h
  | 3, _ => simpa using h
  | 4, _ => simpa using h
end
theorem n_appU {ks : List IntKind} {b c : Nat} {x : Value} {o : Option AObj} {vs : List Value} {n : Nat} {bytes elem : Nat} {objs : List (Option AObj)} {K : Nat → Option AObj → Prop} (h : Sv ks b x o vs n) (hb : 100 ≤ b) (ho : objs[b - 100]? = some o) (hn : n ≤ 400) (hby : bytes ≤ 56) (hks : 0 < ks.length)
    (hk : ∀ o', Sv ks c (.slice (some ⟨c, 0, none⟩) n n) o' vs n → K n o') : (real Try.prog).appU ks.length bytes elem x objs K := by
  rcases Nat.eq_zero_or_pos n with e | hp
  · subst e
    obtain ⟨a, cp, ex⟩ := h.sl
    exact .inl ⟨a, cp, ex, hk none (.inr (.inl ⟨len_nil h.len, rfl, rfl, none, rfl⟩))⟩
  · obtain ⟨hv, hn2, cp, e, q, ka, wa, e1, e2⟩ := h.pos hp
    have ht : (vs.drop 0).take (n * ks.length) = vs := by rw [List.drop_zero, ← hv.len, List.take_length]
    refine .inr ⟨b, 0, n, cp, vs, e, q, ka, wa, e2, by omega, by omega, hb, by rw [ho, e1], by rw [hv.len]; omega, ?_, ?_, by omega, ?_⟩
    · rw [ht, List.all_eq_true]
      intro v hv'
      have := (plainL_iff vs).1 hv.plain v hv'
      obtain ⟨p, hp'⟩ := List.getElem?_of_mem hv'
      have hlt : p < n * ks.length := by rw [← hv.len]; exact (List.getElem?_eq_some_iff.1 hp').1
      have hi : p / ks.length < n := (Nat.div_lt_iff_lt_mul hks).2 hlt
      have hj := Nat.mod_lt p hks
      obtain ⟨z, hz⟩ := hv.cell _ hi (p % ks.length) ks[p % ks.length] (by simp)
      rw [Nat.mul_comm, Nat.div_add_mod, hp'] at hz
      simp only [Option.some.injEq] at hz; subst hz; rfl
    · have h1 : (2 * n + 192) * bytes ≤ 992 * 56 := Nat.mul_le_mul (by omega) hby
      have h2 : 992 * 56 ≤ tops := by unfold tops; omega
      omega
    · rw [ht]
      exact hk _ (.inr (.inr ⟨hv, hn2, n, elem, ks.length, true, true, rfl, rfl⟩))
theorem pairS {f g : Nat} {args : List Value} {os : List (Option AObj)} {C X Y : Prop}
    (h : ∀ H, 128 ≤ H.next → sel (objsOf 100 H) = os → (∃ t, (t = true ↔ C) ∧ ∀ B, CallH Try.prog 100 B f args H (.returned (.bool t)) H) ∧ (∃ t, (t = true ↔ C) ∧ ∀ B, CallH Try.prog 100 B g args H (.returned (.bool t)) H))
    (hX : X) : realS f args os (fun t => realS g args os (fun t2 => (real Try.prog).bcmp .eql t t2 X Y)) := by
  have key : ∀ t : Bool, (t = true ↔ C) → t = @decide C (Classical.propDecidable C) := by
    intro t ht
    cases t with
    | true => exact (@decide_eq_true C (Classical.propDecidable C) (ht.1 rfl)).symm
    | false => exact (@decide_eq_false C (Classical.propDecidable C) (fun hc => by cases ht.2 hc)).symm
  refine ⟨@decide C (Classical.propDecidable C), fun H h1 h2 B => ?_, @decide C (Classical.propDecidable C), fun H h1 h2 B => ?_, n_beq (fun _ => hX) (fun e => ?_)⟩
  · obtain ⟨t, g1, g2⟩ := (h H h1 h2).1
    rw [← key t g1]; exact g2 B
  · obtain ⟨t, g1, g2⟩ := (h H h1 h2).2
    rw [← key t g1]; exact g2 B
  · simp at e
theorem oneS {f : Nat} {args : List Value} {os : List (Option AObj)} {C X Y : Prop}
    (h : ∀ H, 128 ≤ H.next → sel (objsOf 100 H) = os → (∃ t, (t = true ↔ C) ∧ ∀ B, CallH Try.prog 100 B f args H (.returned (.bool t)) H)) (hC : C) (hX : X) : realS f args os (fun t => branch t X Y) := by
  refine ⟨true, fun H h1 h2 B => ?_, hX⟩
  obtain ⟨t, g1, g2⟩ := h H h1 h2
  have : t = true := g1.2 hC
  subst this; exact g2 B

theorem same_ok {wo : Option Addr} {wn wc : Nat} {px18 px27 px36 px42 px46 qx10 qx18 qx27 qx36 qx42 qx46 : Value} {op10 op18 op27 op36 op42 op46 oq10 oq18 oq27 oq36 oq42 oq46 : Option AObj} {p0 p1 p2 p3 p4 p5 p6 p7 p8 p11 p12 p13 p14 p15 p16 p17 p19 p20 p21 p22 p23 p24 p25 p26 p28 p29 p30 p33 p34 p35 p37 p38 p39 p41 p43 p44 p45 p47 p48 p49 p50 p51 : Int} {p9 p31 p32 : ByteArray} {p40 : Bool} {q0 q1 q2 q3 q4 q5 q6 q7 q8 q11 q12 q13 q14 q15 q16 q17 q19 q20 q21 q22 q23 q24 q25 q26 q28 q29 q30 q33 q34 q35 q37 q38 q39 q41 q43 q44 q45 q47 q48 q49 q50 q51 : Int} {q9 q31 q32 : ByteArray} {q40 : Bool} {vp18 vp27 vp36 vp42 vp46 vq18 vq27 vq36 vq42 vq46 : List Value} {np18 np27 np36 np42 np46 nq18 nq27 nq36 nq42 nq46 : Nat}
    (hp18 : Sv [.u32, .i64] 101 px18 op18 vp18 np18) (bp18 : np18 ≤ 140737488355328)
    (hq18 : Sv [.u32, .i64] 107 qx18 oq18 vq18 nq18) (bq18 : nq18 ≤ 140737488355328)
    (hp27 : Sv [.i64] 102 px27 op27 vp27 np27) (bp27 : np27 ≤ 140737488355328)
    (hq27 : Sv [.i64] 108 qx27 oq27 vq27 nq27) (bq27 : nq27 ≤ 140737488355328)
    (hp36 : Sv [.u64] 103 px36 op36 vp36 np36) (bp36 : np36 ≤ 140737488355328)
    (hq36 : Sv [.u64] 109 qx36 oq36 vq36 nq36) (bq36 : nq36 ≤ 140737488355328)
    (hp42 : Sv [.u8, .i64, .u8, .u64, .u8, .u64, .i64] 104 px42 op42 vp42 np42) (bp42 : np42 ≤ 140737488355328)
    (hq42 : Sv [.u8, .i64, .u8, .u64, .u8, .u64, .i64] 110 qx42 oq42 vq42 nq42) (bq42 : nq42 ≤ 140737488355328)
    (hp46 : Sv [.u64, .i64] 105 px46 op46 vp46 np46) (bp46 : np46 ≤ 140737488355328)
    (hq46 : Sv [.u64, .i64] 111 qx46 oq46 vq46 nq46) (bq46 : nq46 ≤ 140737488355328) :
    Is (gSame (real Try.prog) realS wo wn wc px18 px27 px36 px42 px46 qx10 qx18 qx27 qx36 qx42 qx46 op10 op18 op27 op36 op42 op46 oq10 oq18 oq27 oq36 oq42 oq46 p0 p1 p2 p3 p4 p5 p6 p7 p8 p11 p12 p13 p14 p15 p16 p17 p19 p20 p21 p22 p23 p24 p25 p26 p28 p29 p30 p33 p34 p35 p37 p38 p39 p41 p43 p44 p45 p47 p48 p49 p50 p51 p9 p31 p32 p40 q0 q1 q2 q3 q4 q5 q6 q7 q8 q11 q12 q13 q14 q15 q16 q17 q19 q20 q21 q22 q23 q24 q25 q26 q28 q29 q30 q33 q34 q35 q37 q38 q39 q41 q43 q44 q45 q47 q48 q49 q50 q51 q9 q31 q32 q40 (fun v => v = .bool true)) := by
  refine ⟨?_⟩
  rw [gSame_eq]
  obtain ⟨ap18, cp18, ep18⟩ := hp18.sl
  obtain ⟨ap27, cp27, ep27⟩ := hp27.sl
  obtain ⟨ap36, cp36, ep36⟩ := hp36.sl
  obtain ⟨ap42, cp42, ep42⟩ := hp42.sl
  obtain ⟨ap46, cp46, ep46⟩ := hp46.sl
  obtain ⟨aq18, cq18, eq18⟩ := hq18.sl
  obtain ⟨aq27, cq27, eq27⟩ := hq27.sl
  obtain ⟨aq36, cq36, eq36⟩ := hq36.sl
  obtain ⟨aq42, cq42, eq42⟩ := hq42.sl
  obtain ⟨aq46, cq46, eq46⟩ := hq46.sl
  refine n_lenV ep18 (n_lenV ep27 (n_add (by simp only [Int.ofNat_eq_natCast]; omega) (by simp only [Int.ofNat_eq_natCast]; omega) (n_lenV ep36 (n_add (by simp only [Int.ofNat_eq_natCast]; omega) (by simp only [Int.ofNat_eq_natCast]; omega) (n_lenV ep42 (n_add (by simp only [Int.ofNat_eq_natCast]; omega) (by simp only [Int.ofNat_eq_natCast]; omega) (n_lenV ep46 (n_add (by simp only [Int.ofNat_eq_natCast]; omega) (by simp only [Int.ofNat_eq_natCast]; omega) ?_))))))))
  refine n_gtr (fun _ => rfl) (fun lp => n_slen (n_gtr (fun _ => rfl) (fun _ => n_slen (n_gtr (fun _ => rfl) (fun _ => ?_)))))
  refine n_lenV eq18 (n_lenV eq27 (n_add (by simp only [Int.ofNat_eq_natCast]; omega) (by simp only [Int.ofNat_eq_natCast]; omega) (n_lenV eq36 (n_add (by simp only [Int.ofNat_eq_natCast]; omega) (by simp only [Int.ofNat_eq_natCast]; omega) (n_lenV eq42 (n_add (by simp only [Int.ofNat_eq_natCast]; omega) (by simp only [Int.ofNat_eq_natCast]; omega) (n_lenV eq46 (n_add (by simp only [Int.ofNat_eq_natCast]; omega) (by simp only [Int.ofNat_eq_natCast]; omega) ?_))))))))
  refine n_gtr (fun _ => rfl) (fun lq => n_slen (n_gtr (fun _ => rfl) (fun _ => n_slen (n_gtr (fun _ => rfl) (fun _ => ?_)))))
  simp only [Int.ofNat_eq_natCast] at lp lq
  refine n_appU (ks := [.u32, .i64]) (c := 119) hp18 (by omega) rfl (by omega) (by omega) (by simp) (fun oc18 hc18 => ?_)
  refine n_appU (ks := [.i64]) (c := 121) hp27 (by omega) rfl (by omega) (by omega) (by simp) (fun oc27 hc27 => ?_)
  refine n_appU (ks := [.u64]) (c := 123) hp36 (by omega) rfl (by omega) (by omega) (by simp) (fun oc36 hc36 => ?_)
  refine n_appU (ks := [.u8, .i64, .u8, .u64, .u8, .u64, .i64]) (c := 125) hp42 (by omega) rfl (by omega) (by omega) (by simp) (fun oc42 hc42 => ?_)
  refine n_appU (ks := [.u64, .i64]) (c := 127) hp46 (by omega) rfl (by omega) (by omega) (by simp) (fun oc46 hc46 => ?_)
  refine pairS (fun H h1 h2 => bothArm ⟨op18, hp18, by omega, by omega, sel_lo h1 h2 (i := 1) (by omega) rfl⟩ ⟨oq18, hq18, by omega, by omega, sel_lo h1 h2 (i := 7) (by omega) rfl⟩ (by omega)) ?_
  refine pairS (C := allEq _ = true) (fun H h1 h2 => ⟨⟨_, Iff.rfl, fl10 H⟩, ⟨_, Iff.rfl, fl11 H⟩⟩) ?_
  refine pairS (fun H h1 h2 => bothInt ⟨op27, hp27, by omega, by omega, sel_lo h1 h2 (i := 2) (by omega) rfl⟩ ⟨oq27, hq27, by omega, by omega, sel_lo h1 h2 (i := 8) (by omega) rfl⟩ (by omega)) ?_
  refine pairS (fun H h1 h2 => bothU64 ⟨op36, hp36, by omega, by omega, sel_lo h1 h2 (i := 3) (by omega) rfl⟩ ⟨oq36, hq36, by omega, by omega, sel_lo h1 h2 (i := 9) (by omega) rfl⟩ (by omega)) ?_
  refine pairS (fun H h1 h2 => bothIns ⟨op42, hp42, by omega, by omega, sel_lo h1 h2 (i := 4) (by omega) rfl⟩ ⟨oq42, hq42, by omega, by omega, sel_lo h1 h2 (i := 10) (by omega) rfl⟩ (by omega)) ?_
  refine pairS (fun H h1 h2 => bothBuc ⟨op46, hp46, by omega, by omega, sel_lo h1 h2 (i := 5) (by omega) rfl⟩ ⟨oq46, hq46, by omega, by omega, sel_lo h1 h2 (i := 11) (by omega) rfl⟩ (by omega)) ?_
  refine pairS (C := allEq _ = true) (fun H h1 h2 => ⟨⟨_, Iff.rfl, fl20 H⟩, ⟨_, Iff.rfl, fl21 H⟩⟩) ?_
  refine pairS (C := allEq _ = true) (fun H h1 h2 => ⟨⟨_, Iff.rfl, fl22 H⟩, ⟨_, Iff.rfl, fl23 H⟩⟩) ?_
  refine oneS (fun H h1 h2 => (bothArm ⟨op18, hp18, by omega, by omega, sel_lo h1 h2 (i := 1) (by omega) rfl⟩ ⟨oc18, hc18, by omega, by omega, sel_hi h1 h2 (j := 0) (by omega) rfl⟩ (by omega)).1) (by simp) ?_
  refine oneS (fun H h1 h2 => (bothInt ⟨op27, hp27, by omega, by omega, sel_lo h1 h2 (i := 2) (by omega) rfl⟩ ⟨oc27, hc27, by omega, by omega, sel_hi h1 h2 (j := 1) (by omega) rfl⟩ (by omega)).1) (by simp) ?_
  refine oneS (fun H h1 h2 => (bothU64 ⟨op36, hp36, by omega, by omega, sel_lo h1 h2 (i := 3) (by omega) rfl⟩ ⟨oc36, hc36, by omega, by omega, sel_hi h1 h2 (j := 2) (by omega) rfl⟩ (by omega)).1) (by simp) ?_
  refine oneS (fun H h1 h2 => (bothIns ⟨op42, hp42, by omega, by omega, sel_lo h1 h2 (i := 4) (by omega) rfl⟩ ⟨oc42, hc42, by omega, by omega, sel_hi h1 h2 (j := 3) (by omega) rfl⟩ (by omega)).1) (by simp) ?_
  refine oneS (fun H h1 h2 => (bothBuc ⟨op46, hp46, by omega, by omega, sel_lo h1 h2 (i := 5) (by omega) rfl⟩ ⟨oc46, hc46, by omega, by omega, sel_hi h1 h2 (j := 4) (by omega) rfl⟩ (by omega)).1) (by simp) ?_
  exact rfl
theorem same_call {wo : Option Addr} {wn wc : Nat} {px18 px27 px36 px42 px46 qx10 qx18 qx27 qx36 qx42 qx46 : Value} {op10 op18 op27 op36 op42 op46 oq10 oq18 oq27 oq36 oq42 oq46 : Option AObj} {p0 p1 p2 p3 p4 p5 p6 p7 p8 p11 p12 p13 p14 p15 p16 p17 p19 p20 p21 p22 p23 p24 p25 p26 p28 p29 p30 p33 p34 p35 p37 p38 p39 p41 p43 p44 p45 p47 p48 p49 p50 p51 : Int} {p9 p31 p32 : ByteArray} {p40 : Bool} {q0 q1 q2 q3 q4 q5 q6 q7 q8 q11 q12 q13 q14 q15 q16 q17 q19 q20 q21 q22 q23 q24 q25 q26 q28 q29 q30 q33 q34 q35 q37 q38 q39 q41 q43 q44 q45 q47 q48 q49 q50 q51 : Int} {q9 q31 q32 : ByteArray} {q40 : Bool} {vp18 vp27 vp36 vp42 vp46 vq18 vq27 vq36 vq42 vq46 : List Value} {np18 np27 np36 np42 np46 nq18 nq27 nq36 nq42 nq46 : Nat}
    (hp18 : Sv [.u32, .i64] 101 px18 op18 vp18 np18) (bp18 : np18 ≤ 140737488355328)
    (hq18 : Sv [.u32, .i64] 107 qx18 oq18 vq18 nq18) (bq18 : nq18 ≤ 140737488355328)
    (hp27 : Sv [.i64] 102 px27 op27 vp27 np27) (bp27 : np27 ≤ 140737488355328)
    (hq27 : Sv [.i64] 108 qx27 oq27 vq27 nq27) (bq27 : nq27 ≤ 140737488355328)
    (hp36 : Sv [.u64] 103 px36 op36 vp36 np36) (bp36 : np36 ≤ 140737488355328)
    (hq36 : Sv [.u64] 109 qx36 oq36 vq36 nq36) (bq36 : nq36 ≤ 140737488355328)
    (hp42 : Sv [.u8, .i64, .u8, .u64, .u8, .u64, .i64] 104 px42 op42 vp42 np42) (bp42 : np42 ≤ 140737488355328)
    (hq42 : Sv [.u8, .i64, .u8, .u64, .u8, .u64, .i64] 110 qx42 oq42 vq42 nq42) (bq42 : nq42 ≤ 140737488355328)
    (hp46 : Sv [.u64, .i64] 105 px46 op46 vp46 np46) (bp46 : np46 ≤ 140737488355328)
    (hq46 : Sv [.u64, .i64] 111 qx46 oq46 vq46 nq46) (bq46 : nq46 ≤ 140737488355328) (B : Base) : ∃ H', CallH Try.prog 100 B 3 [.agg ⟨[.int .u8 p0, .int .u32 p1, .int .i64 p2, .int .i64 p3, .int .i64 p4, .int .i64 p5, .int .i64 p6, .int .u64 p7, .int .u64 p8, .string p9, .slice wo wn wc, .int .i64 p11, .int .i64 p12, .int .i64 p13, .int .i64 p14, .int .i64 p15, .int .i64 p16, .int .i64 p17, px18, .int .i64 p19, .int .i64 p20, .int .u8 p21, .int .i64 p22, .int .i64 p23, .int .i64 p24, .int .i64 p25, .int .u8 p26, px27, .int .i64 p28, .int .i64 p29, .int .i64 p30, .string p31, .string p32, .int .i64 p33, .int .i64 p34, .int .i64 p35, px36, .int .i64 p37, .int .i64 p38, .int .u64 p39, .bool p40, .int .i64 p41, px42, .int .i64 p43, .int .u8 p44, .int .i64 p45, px46, .int .i64 p47, .int .i64 p48, .int .i64 p49, .int .i64 p50, .int .i64 p51]⟩, .agg ⟨[.int .u8 q0, .int .u32 q1, .int .i64 q2, .int .i64 q3, .int .i64 q4, .int .i64 q5, .int .i64 q6, .int .u64 q7, .int .u64 q8, .string q9, qx10, .int .i64 q11, .int .i64 q12, .int .i64 q13, .int .i64 q14, .int .i64 q15, .int .i64 q16, .int .i64 q17, qx18, .int .i64 q19, .int .i64 q20, .int .u8 q21, .int .i64 q22, .int .i64 q23, .int .i64 q24, .int .i64 q25, .int .u8 q26, qx27, .int .i64 q28, .int .i64 q29, .int .i64 q30, .string q31, .string q32, .int .i64 q33, .int .i64 q34, .int .i64 q35, qx36, .int .i64 q37, .int .i64 q38, .int .u64 q39, .bool q40, .int .i64 q41, qx42, .int .i64 q43, .int .u8 q44, .int .i64 q45, qx46, .int .i64 q47, .int .i64 q48, .int .i64 q49, .int .i64 q50, .int .i64 q51]⟩] (hOf 100 [] [op10, op18, op27, op36, op42, op46, oq10, oq18, oq27, oq36, oq42, oq46]) (.returned (.bool true)) H' := by
  have h0 := same_ok (wo := wo) (wn := wn) (wc := wc) (qx10 := qx10) (op10 := op10) (oq10 := oq10) (p0 := p0) (p1 := p1) (p2 := p2) (p3 := p3) (p4 := p4) (p5 := p5) (p6 := p6) (p7 := p7) (p8 := p8) (p11 := p11) (p12 := p12) (p13 := p13) (p14 := p14) (p15 := p15) (p16 := p16) (p17 := p17) (p19 := p19) (p20 := p20) (p21 := p21) (p22 := p22) (p23 := p23) (p24 := p24) (p25 := p25) (p26 := p26) (p28 := p28) (p29 := p29) (p30 := p30) (p33 := p33) (p34 := p34) (p35 := p35) (p37 := p37) (p38 := p38) (p39 := p39) (p41 := p41) (p43 := p43) (p44 := p44) (p45 := p45) (p47 := p47) (p48 := p48) (p49 := p49) (p50 := p50) (p51 := p51) (p9 := p9) (p31 := p31) (p32 := p32) (p40 := p40) (q0 := q0) (q1 := q1) (q2 := q2) (q3 := q3) (q4 := q4) (q5 := q5) (q6 := q6) (q7 := q7) (q8 := q8) (q11 := q11) (q12 := q12) (q13 := q13) (q14 := q14) (q15 := q15) (q16 := q16) (q17 := q17) (q19 := q19) (q20 := q20) (q21 := q21) (q22 := q22) (q23 := q23) (q24 := q24) (q25 := q25) (q26 := q26) (q28 := q28) (q29 := q29) (q30 := q30) (q33 := q33) (q34 := q34) (q35 := q35) (q37 := q37) (q38 := q38) (q39 := q39) (q41 := q41) (q43 := q43) (q44 := q44) (q45 := q45) (q47 := q47) (q48 := q48) (q49 := q49) (q50 := q50) (q51 := q51) (q9 := q9) (q31 := q31) (q32 := q32) (q40 := q40) hp18 bp18 hq18 bq18 hp27 bp27 hq27 bq27 hp36 bp36 hq36 bq36 hp42 bp42 hq42 bq42 hp46 bp46 hq46 bq46
  unfold gSame at h0
  obtain ⟨v, objs, h2, h4⟩ := callW kn_S lp_none h0
  cases h2
  exact ⟨_, h4 B⟩
end
end Go.Proofs.Ytblbaohcelldpaa.Ob
