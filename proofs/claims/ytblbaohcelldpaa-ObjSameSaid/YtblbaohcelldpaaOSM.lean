/- The Go function ObjSame returns true, whatever the two messages, from any memory and on every schedule; its arguments read as before. -/
import Derived.Test.YtblbaohcelldpaaRows
import Derived.Test.YtblbaohcelldpaaG6
namespace Go.Proofs.Ytblbaohcelldpaa.objSame
open Go Go.Abs Go.ChangeShapes Go.WideShapes Go.ChangeAt Go.RowKit Go.Proofs.Ytblbaohcelldpaa.Ob
set_option linter.unusedVariables false

theorem own : ownKnob Try.prog.godebug = none := by kernel_rfl
def msgK : List CK := [.int .u8, .int .u32, .int .i64, .int .i64, .int .i64, .int .i64, .int .i64, .int .u64, .int .u64, .str, .sl 24, .int .i64, .int .i64, .int .i64, .int .i64, .int .i64, .int .i64, .int .i64, .sl 25, .int .i64, .int .i64, .int .u8, .int .i64, .int .i64, .int .i64, .int .i64, .int .u8, .sl 30, .int .i64, .int .i64, .int .i64, .str, .str, .int .i64, .int .i64, .int .i64, .sl 24, .int .i64, .int .i64, .int .u64, .bool, .int .i64, .sl 35, .int .i64, .int .u8, .int .i64, .sl 38, .int .i64, .int .i64, .int .i64, .int .i64, .int .i64]
theorem msgK_eq : flatK Try.prog 3 46 = some msgK := by kernel_rfl

set_option maxRecDepth 100000 in
set_option maxHeartbeats 4000000 in
theorem walk {H : Type} {enc : TypeId × Value → H} {W : World} {cs1 cs2 : List Value} (h1 : CksOk enc Try.prog W 0 (fun _ => true) true msgK cs1) (h2 : CksOk enc Try.prog W 0 (fun _ => true) true msgK cs2) :
    Calls Try.prog 3 #[.agg ⟨cs1⟩, .agg ⟨cs2⟩] W fun e w' => e = .returned (.bool true) ∧ Below W.heap.size W w' := by
  unfold msgK at h1 h2
  obtain ⟨_, rp0, rfl, ⟨p0, rfl, _⟩, h1⟩ := h1
  obtain ⟨_, rp1, rfl, ⟨p1, rfl, _⟩, h1⟩ := h1
  obtain ⟨_, rp2, rfl, ⟨p2, rfl, _⟩, h1⟩ := h1
  obtain ⟨_, rp3, rfl, ⟨p3, rfl, _⟩, h1⟩ := h1
  obtain ⟨_, rp4, rfl, ⟨p4, rfl, _⟩, h1⟩ := h1
  obtain ⟨_, rp5, rfl, ⟨p5, rfl, _⟩, h1⟩ := h1
  obtain ⟨_, rp6, rfl, ⟨p6, rfl, _⟩, h1⟩ := h1
  obtain ⟨_, rp7, rfl, ⟨p7, rfl, _⟩, h1⟩ := h1
  obtain ⟨_, rp8, rfl, ⟨p8, rfl, _⟩, h1⟩ := h1
  obtain ⟨_, rp9, rfl, ⟨p9, rfl, _⟩, h1⟩ := h1
  obtain ⟨vp10, rp10, rfl, sp10, h1⟩ := h1
  obtain ⟨_, rp11, rfl, ⟨p11, rfl, _⟩, h1⟩ := h1
  obtain ⟨_, rp12, rfl, ⟨p12, rfl, _⟩, h1⟩ := h1
  obtain ⟨_, rp13, rfl, ⟨p13, rfl, _⟩, h1⟩ := h1
  obtain ⟨_, rp14, rfl, ⟨p14, rfl, _⟩, h1⟩ := h1
  obtain ⟨_, rp15, rfl, ⟨p15, rfl, _⟩, h1⟩ := h1
  obtain ⟨_, rp16, rfl, ⟨p16, rfl, _⟩, h1⟩ := h1
  obtain ⟨_, rp17, rfl, ⟨p17, rfl, _⟩, h1⟩ := h1
  obtain ⟨vp18, rp18, rfl, sp18, h1⟩ := h1
  obtain ⟨_, rp19, rfl, ⟨p19, rfl, _⟩, h1⟩ := h1
  obtain ⟨_, rp20, rfl, ⟨p20, rfl, _⟩, h1⟩ := h1
  obtain ⟨_, rp21, rfl, ⟨p21, rfl, _⟩, h1⟩ := h1
  obtain ⟨_, rp22, rfl, ⟨p22, rfl, _⟩, h1⟩ := h1
  obtain ⟨_, rp23, rfl, ⟨p23, rfl, _⟩, h1⟩ := h1
  obtain ⟨_, rp24, rfl, ⟨p24, rfl, _⟩, h1⟩ := h1
  obtain ⟨_, rp25, rfl, ⟨p25, rfl, _⟩, h1⟩ := h1
  obtain ⟨_, rp26, rfl, ⟨p26, rfl, _⟩, h1⟩ := h1
  obtain ⟨vp27, rp27, rfl, sp27, h1⟩ := h1
  obtain ⟨_, rp28, rfl, ⟨p28, rfl, _⟩, h1⟩ := h1
  obtain ⟨_, rp29, rfl, ⟨p29, rfl, _⟩, h1⟩ := h1
  obtain ⟨_, rp30, rfl, ⟨p30, rfl, _⟩, h1⟩ := h1
  obtain ⟨_, rp31, rfl, ⟨p31, rfl, _⟩, h1⟩ := h1
  obtain ⟨_, rp32, rfl, ⟨p32, rfl, _⟩, h1⟩ := h1
  obtain ⟨_, rp33, rfl, ⟨p33, rfl, _⟩, h1⟩ := h1
  obtain ⟨_, rp34, rfl, ⟨p34, rfl, _⟩, h1⟩ := h1
  obtain ⟨_, rp35, rfl, ⟨p35, rfl, _⟩, h1⟩ := h1
  obtain ⟨vp36, rp36, rfl, sp36, h1⟩ := h1
  obtain ⟨_, rp37, rfl, ⟨p37, rfl, _⟩, h1⟩ := h1
  obtain ⟨_, rp38, rfl, ⟨p38, rfl, _⟩, h1⟩ := h1
  obtain ⟨_, rp39, rfl, ⟨p39, rfl, _⟩, h1⟩ := h1
  obtain ⟨_, rp40, rfl, ⟨p40, rfl⟩, h1⟩ := h1
  obtain ⟨_, rp41, rfl, ⟨p41, rfl, _⟩, h1⟩ := h1
  obtain ⟨vp42, rp42, rfl, sp42, h1⟩ := h1
  obtain ⟨_, rp43, rfl, ⟨p43, rfl, _⟩, h1⟩ := h1
  obtain ⟨_, rp44, rfl, ⟨p44, rfl, _⟩, h1⟩ := h1
  obtain ⟨_, rp45, rfl, ⟨p45, rfl, _⟩, h1⟩ := h1
  obtain ⟨vp46, rp46, rfl, sp46, h1⟩ := h1
  obtain ⟨_, rp47, rfl, ⟨p47, rfl, _⟩, h1⟩ := h1
  obtain ⟨_, rp48, rfl, ⟨p48, rfl, _⟩, h1⟩ := h1
  obtain ⟨_, rp49, rfl, ⟨p49, rfl, _⟩, h1⟩ := h1
  obtain ⟨_, rp50, rfl, ⟨p50, rfl, _⟩, h1⟩ := h1
  obtain ⟨_, rp51, rfl, ⟨p51, rfl, _⟩, h1⟩ := h1
  simp only [CksOk] at h1
  subst h1
  obtain ⟨_, rq0, rfl, ⟨q0, rfl, _⟩, h2⟩ := h2
  obtain ⟨_, rq1, rfl, ⟨q1, rfl, _⟩, h2⟩ := h2
  obtain ⟨_, rq2, rfl, ⟨q2, rfl, _⟩, h2⟩ := h2
  obtain ⟨_, rq3, rfl, ⟨q3, rfl, _⟩, h2⟩ := h2
  obtain ⟨_, rq4, rfl, ⟨q4, rfl, _⟩, h2⟩ := h2
  obtain ⟨_, rq5, rfl, ⟨q5, rfl, _⟩, h2⟩ := h2
  obtain ⟨_, rq6, rfl, ⟨q6, rfl, _⟩, h2⟩ := h2
  obtain ⟨_, rq7, rfl, ⟨q7, rfl, _⟩, h2⟩ := h2
  obtain ⟨_, rq8, rfl, ⟨q8, rfl, _⟩, h2⟩ := h2
  obtain ⟨_, rq9, rfl, ⟨q9, rfl, _⟩, h2⟩ := h2
  obtain ⟨vq10, rq10, rfl, sq10, h2⟩ := h2
  obtain ⟨_, rq11, rfl, ⟨q11, rfl, _⟩, h2⟩ := h2
  obtain ⟨_, rq12, rfl, ⟨q12, rfl, _⟩, h2⟩ := h2
  obtain ⟨_, rq13, rfl, ⟨q13, rfl, _⟩, h2⟩ := h2
  obtain ⟨_, rq14, rfl, ⟨q14, rfl, _⟩, h2⟩ := h2
  obtain ⟨_, rq15, rfl, ⟨q15, rfl, _⟩, h2⟩ := h2
  obtain ⟨_, rq16, rfl, ⟨q16, rfl, _⟩, h2⟩ := h2
  obtain ⟨_, rq17, rfl, ⟨q17, rfl, _⟩, h2⟩ := h2
  obtain ⟨vq18, rq18, rfl, sq18, h2⟩ := h2
  obtain ⟨_, rq19, rfl, ⟨q19, rfl, _⟩, h2⟩ := h2
  obtain ⟨_, rq20, rfl, ⟨q20, rfl, _⟩, h2⟩ := h2
  obtain ⟨_, rq21, rfl, ⟨q21, rfl, _⟩, h2⟩ := h2
  obtain ⟨_, rq22, rfl, ⟨q22, rfl, _⟩, h2⟩ := h2
  obtain ⟨_, rq23, rfl, ⟨q23, rfl, _⟩, h2⟩ := h2
  obtain ⟨_, rq24, rfl, ⟨q24, rfl, _⟩, h2⟩ := h2
  obtain ⟨_, rq25, rfl, ⟨q25, rfl, _⟩, h2⟩ := h2
  obtain ⟨_, rq26, rfl, ⟨q26, rfl, _⟩, h2⟩ := h2
  obtain ⟨vq27, rq27, rfl, sq27, h2⟩ := h2
  obtain ⟨_, rq28, rfl, ⟨q28, rfl, _⟩, h2⟩ := h2
  obtain ⟨_, rq29, rfl, ⟨q29, rfl, _⟩, h2⟩ := h2
  obtain ⟨_, rq30, rfl, ⟨q30, rfl, _⟩, h2⟩ := h2
  obtain ⟨_, rq31, rfl, ⟨q31, rfl, _⟩, h2⟩ := h2
  obtain ⟨_, rq32, rfl, ⟨q32, rfl, _⟩, h2⟩ := h2
  obtain ⟨_, rq33, rfl, ⟨q33, rfl, _⟩, h2⟩ := h2
  obtain ⟨_, rq34, rfl, ⟨q34, rfl, _⟩, h2⟩ := h2
  obtain ⟨_, rq35, rfl, ⟨q35, rfl, _⟩, h2⟩ := h2
  obtain ⟨vq36, rq36, rfl, sq36, h2⟩ := h2
  obtain ⟨_, rq37, rfl, ⟨q37, rfl, _⟩, h2⟩ := h2
  obtain ⟨_, rq38, rfl, ⟨q38, rfl, _⟩, h2⟩ := h2
  obtain ⟨_, rq39, rfl, ⟨q39, rfl, _⟩, h2⟩ := h2
  obtain ⟨_, rq40, rfl, ⟨q40, rfl⟩, h2⟩ := h2
  obtain ⟨_, rq41, rfl, ⟨q41, rfl, _⟩, h2⟩ := h2
  obtain ⟨vq42, rq42, rfl, sq42, h2⟩ := h2
  obtain ⟨_, rq43, rfl, ⟨q43, rfl, _⟩, h2⟩ := h2
  obtain ⟨_, rq44, rfl, ⟨q44, rfl, _⟩, h2⟩ := h2
  obtain ⟨_, rq45, rfl, ⟨q45, rfl, _⟩, h2⟩ := h2
  obtain ⟨vq46, rq46, rfl, sq46, h2⟩ := h2
  obtain ⟨_, rq47, rfl, ⟨q47, rfl, _⟩, h2⟩ := h2
  obtain ⟨_, rq48, rfl, ⟨q48, rfl, _⟩, h2⟩ := h2
  obtain ⟨_, rq49, rfl, ⟨q49, rfl, _⟩, h2⟩ := h2
  obtain ⟨_, rq50, rfl, ⟨q50, rfl, _⟩, h2⟩ := h2
  obtain ⟨_, rq51, rfl, ⟨q51, rfl, _⟩, h2⟩ := h2
  simp only [CksOk] at h2
  subst h2
  obtain ⟨xp10, op10, px10, lp10, np10, hp10, bp10, fp10⟩ := slice_of (ks := [.u64]) (d := 3) (t := 24) (e := 23) (by kernel_rfl) (by kernel_rfl) (by kernel_rfl) (by simp) (Nat.le_of_ble_eq_true (by kernel_rfl)) sp10 100
  obtain ⟨xp18, op18, px18, lp18, np18, hp18, bp18, fp18⟩ := slice_of (ks := [.u32, .i64]) (d := 3) (t := 25) (e := 76) (by kernel_rfl) (by kernel_rfl) (by kernel_rfl) (by simp) (Nat.le_of_ble_eq_true (by kernel_rfl)) sp18 101
  obtain ⟨xp27, op27, px27, lp27, np27, hp27, bp27, fp27⟩ := slice_of (ks := [.i64]) (d := 3) (t := 30) (e := 3) (by kernel_rfl) (by kernel_rfl) (by kernel_rfl) (by simp) (Nat.le_of_ble_eq_true (by kernel_rfl)) sp27 102
  obtain ⟨xp36, op36, px36, lp36, np36, hp36, bp36, fp36⟩ := slice_of (ks := [.u64]) (d := 3) (t := 24) (e := 23) (by kernel_rfl) (by kernel_rfl) (by kernel_rfl) (by simp) (Nat.le_of_ble_eq_true (by kernel_rfl)) sp36 103
  obtain ⟨xp42, op42, px42, lp42, np42, hp42, bp42, fp42⟩ := slice_of (ks := [.u8, .i64, .u8, .u64, .u8, .u64, .i64]) (d := 3) (t := 35) (e := 70) (by kernel_rfl) (by kernel_rfl) (by kernel_rfl) (by simp) (Nat.le_of_ble_eq_true (by kernel_rfl)) sp42 104
  obtain ⟨xp46, op46, px46, lp46, np46, hp46, bp46, fp46⟩ := slice_of (ks := [.u64, .i64]) (d := 3) (t := 38) (e := 82) (by kernel_rfl) (by kernel_rfl) (by kernel_rfl) (by simp) (Nat.le_of_ble_eq_true (by kernel_rfl)) sp46 105
  obtain ⟨xq10, oq10, qx10, lq10, nq10, hq10, bq10, fq10⟩ := slice_of (ks := [.u64]) (d := 3) (t := 24) (e := 23) (by kernel_rfl) (by kernel_rfl) (by kernel_rfl) (by simp) (Nat.le_of_ble_eq_true (by kernel_rfl)) sq10 106
  obtain ⟨xq18, oq18, qx18, lq18, nq18, hq18, bq18, fq18⟩ := slice_of (ks := [.u32, .i64]) (d := 3) (t := 25) (e := 76) (by kernel_rfl) (by kernel_rfl) (by kernel_rfl) (by simp) (Nat.le_of_ble_eq_true (by kernel_rfl)) sq18 107
  obtain ⟨xq27, oq27, qx27, lq27, nq27, hq27, bq27, fq27⟩ := slice_of (ks := [.i64]) (d := 3) (t := 30) (e := 3) (by kernel_rfl) (by kernel_rfl) (by kernel_rfl) (by simp) (Nat.le_of_ble_eq_true (by kernel_rfl)) sq27 108
  obtain ⟨xq36, oq36, qx36, lq36, nq36, hq36, bq36, fq36⟩ := slice_of (ks := [.u64]) (d := 3) (t := 24) (e := 23) (by kernel_rfl) (by kernel_rfl) (by kernel_rfl) (by simp) (Nat.le_of_ble_eq_true (by kernel_rfl)) sq36 109
  obtain ⟨xq42, oq42, qx42, lq42, nq42, hq42, bq42, fq42⟩ := slice_of (ks := [.u8, .i64, .u8, .u64, .u8, .u64, .i64]) (d := 3) (t := 35) (e := 70) (by kernel_rfl) (by kernel_rfl) (by kernel_rfl) (by simp) (Nat.le_of_ble_eq_true (by kernel_rfl)) sq42 110
  obtain ⟨xq46, oq46, qx46, lq46, nq46, hq46, bq46, fq46⟩ := slice_of (ks := [.u64, .i64]) (d := 3) (t := 38) (e := 82) (by kernel_rfl) (by kernel_rfl) (by kernel_rfl) (by simp) (Nat.le_of_ble_eq_true (by kernel_rfl)) sq46 111
  obtain ⟨wo, wc, ew⟩ := hp10.sl
  subst ew
  have gp10 := fp10 (FL [xp10, xp18, xp27, xp36, xp42, xp46, xq10, xq18, xq27, xq36, xq42, xq46]) (by unfold FL; rw [if_neg (by omega)]; rfl)
  have gp18 := fp18 (FL [xp10, xp18, xp27, xp36, xp42, xp46, xq10, xq18, xq27, xq36, xq42, xq46]) (by unfold FL; rw [if_neg (by omega)]; rfl)
  have gp27 := fp27 (FL [xp10, xp18, xp27, xp36, xp42, xp46, xq10, xq18, xq27, xq36, xq42, xq46]) (by unfold FL; rw [if_neg (by omega)]; rfl)
  have gp36 := fp36 (FL [xp10, xp18, xp27, xp36, xp42, xp46, xq10, xq18, xq27, xq36, xq42, xq46]) (by unfold FL; rw [if_neg (by omega)]; rfl)
  have gp42 := fp42 (FL [xp10, xp18, xp27, xp36, xp42, xp46, xq10, xq18, xq27, xq36, xq42, xq46]) (by unfold FL; rw [if_neg (by omega)]; rfl)
  have gp46 := fp46 (FL [xp10, xp18, xp27, xp36, xp42, xp46, xq10, xq18, xq27, xq36, xq42, xq46]) (by unfold FL; rw [if_neg (by omega)]; rfl)
  have gq10 := fq10 (FL [xp10, xp18, xp27, xp36, xp42, xp46, xq10, xq18, xq27, xq36, xq42, xq46]) (by unfold FL; rw [if_neg (by omega)]; rfl)
  have gq18 := fq18 (FL [xp10, xp18, xp27, xp36, xp42, xp46, xq10, xq18, xq27, xq36, xq42, xq46]) (by unfold FL; rw [if_neg (by omega)]; rfl)
  have gq27 := fq27 (FL [xp10, xp18, xp27, xp36, xp42, xp46, xq10, xq18, xq27, xq36, xq42, xq46]) (by unfold FL; rw [if_neg (by omega)]; rfl)
  have gq36 := fq36 (FL [xp10, xp18, xp27, xp36, xp42, xp46, xq10, xq18, xq27, xq36, xq42, xq46]) (by unfold FL; rw [if_neg (by omega)]; rfl)
  have gq42 := fq42 (FL [xp10, xp18, xp27, xp36, xp42, xp46, xq10, xq18, xq27, xq36, xq42, xq46]) (by unfold FL; rw [if_neg (by omega)]; rfl)
  have gq46 := fq46 (FL [xp10, xp18, xp27, xp36, xp42, xp46, xq10, xq18, xq27, xq36, xq42, xq46]) (by unfold FL; rw [if_neg (by omega)]; rfl)
  have R : Rel 100 (FL [xp10, xp18, xp27, xp36, xp42, xp46, xq10, xq18, xq27, xq36, xq42, xq46]) (hOf 100 [] [op10, op18, op27, op36, op42, op46, oq10, oq18, oq27, oq36, oq42, oq46]) (allOf W) W := entry rfl (by
    intro i o hi
    match i, hi with
    | 0, hi => exact gp10.1 o (Option.some.inj hi)
    | 1, hi => exact gp18.1 o (Option.some.inj hi)
    | 2, hi => exact gp27.1 o (Option.some.inj hi)
    | 3, hi => exact gp36.1 o (Option.some.inj hi)
    | 4, hi => exact gp42.1 o (Option.some.inj hi)
    | 5, hi => exact gp46.1 o (Option.some.inj hi)
    | 6, hi => exact gq10.1 o (Option.some.inj hi)
    | 7, hi => exact gq18.1 o (Option.some.inj hi)
    | 8, hi => exact gq27.1 o (Option.some.inj hi)
    | 9, hi => exact gq36.1 o (Option.some.inj hi)
    | 10, hi => exact gq42.1 o (Option.some.inj hi)
    | 11, hi => exact gq46.1 o (Option.some.inj hi)
    | i + 12, hi => simp at hi)
  obtain ⟨H', h4⟩ := same_call (wo := wo) (wn := np10) (wc := wc) (qx10 := qx10) (op10 := op10) (oq10 := oq10) (p0 := p0) (p1 := p1) (p2 := p2) (p3 := p3) (p4 := p4) (p5 := p5) (p6 := p6) (p7 := p7) (p8 := p8) (p11 := p11) (p12 := p12) (p13 := p13) (p14 := p14) (p15 := p15) (p16 := p16) (p17 := p17) (p19 := p19) (p20 := p20) (p21 := p21) (p22 := p22) (p23 := p23) (p24 := p24) (p25 := p25) (p26 := p26) (p28 := p28) (p29 := p29) (p30 := p30) (p33 := p33) (p34 := p34) (p35 := p35) (p37 := p37) (p38 := p38) (p39 := p39) (p41 := p41) (p43 := p43) (p44 := p44) (p45 := p45) (p47 := p47) (p48 := p48) (p49 := p49) (p50 := p50) (p51 := p51) (p9 := p9) (p31 := p31) (p32 := p32) (p40 := p40) (q0 := q0) (q1 := q1) (q2 := q2) (q3 := q3) (q4 := q4) (q5 := q5) (q6 := q6) (q7 := q7) (q8 := q8) (q11 := q11) (q12 := q12) (q13 := q13) (q14 := q14) (q15 := q15) (q16 := q16) (q17 := q17) (q19 := q19) (q20 := q20) (q21 := q21) (q22 := q22) (q23 := q23) (q24 := q24) (q25 := q25) (q26 := q26) (q28 := q28) (q29 := q29) (q30 := q30) (q33 := q33) (q34 := q34) (q35 := q35) (q37 := q37) (q38 := q38) (q39 := q39) (q41 := q41) (q43 := q43) (q44 := q44) (q45 := q45) (q47 := q47) (q48 := q48) (q49 := q49) (q50 := q50) (q51 := q51) (q9 := q9) (q31 := q31) (q32 := q32) (q40 := q40) hp18 bp18 hq18 bq18 hp27 bp27 hq27 bq27 hp36 bp36 hq36 bq36 hp42 bp42 hq42 bq42 hp46 bp46 hq46 bq46 (allOf W)
  exact ret_walk h4 R (vr_cons (vr_agg (vr_cons vr_int (vr_cons vr_int (vr_cons vr_int (vr_cons vr_int (vr_cons vr_int (vr_cons vr_int (vr_cons vr_int (vr_cons vr_int (vr_cons vr_int (vr_cons vr_str (vr_cons gp10.2 (vr_cons vr_int (vr_cons vr_int (vr_cons vr_int (vr_cons vr_int (vr_cons vr_int (vr_cons vr_int (vr_cons vr_int (vr_cons gp18.2 (vr_cons vr_int (vr_cons vr_int (vr_cons vr_int (vr_cons vr_int (vr_cons vr_int (vr_cons vr_int (vr_cons vr_int (vr_cons vr_int (vr_cons gp27.2 (vr_cons vr_int (vr_cons vr_int (vr_cons vr_int (vr_cons vr_str (vr_cons vr_str (vr_cons vr_int (vr_cons vr_int (vr_cons vr_int (vr_cons gp36.2 (vr_cons vr_int (vr_cons vr_int (vr_cons vr_int (vr_cons vr_bool (vr_cons vr_int (vr_cons gp42.2 (vr_cons vr_int (vr_cons vr_int (vr_cons vr_int (vr_cons gp46.2 (vr_cons vr_int (vr_cons vr_int (vr_cons vr_int (vr_cons vr_int (vr_cons vr_int vr_nil))))))))))))))))))))))))))))))))))))))))))))))))))))) (vr_cons (vr_agg (vr_cons vr_int (vr_cons vr_int (vr_cons vr_int (vr_cons vr_int (vr_cons vr_int (vr_cons vr_int (vr_cons vr_int (vr_cons vr_int (vr_cons vr_int (vr_cons vr_str (vr_cons gq10.2 (vr_cons vr_int (vr_cons vr_int (vr_cons vr_int (vr_cons vr_int (vr_cons vr_int (vr_cons vr_int (vr_cons vr_int (vr_cons gq18.2 (vr_cons vr_int (vr_cons vr_int (vr_cons vr_int (vr_cons vr_int (vr_cons vr_int (vr_cons vr_int (vr_cons vr_int (vr_cons vr_int (vr_cons gq27.2 (vr_cons vr_int (vr_cons vr_int (vr_cons vr_int (vr_cons vr_str (vr_cons vr_str (vr_cons vr_int (vr_cons vr_int (vr_cons vr_int (vr_cons gq36.2 (vr_cons vr_int (vr_cons vr_int (vr_cons vr_int (vr_cons vr_bool (vr_cons vr_int (vr_cons gq42.2 (vr_cons vr_int (vr_cons vr_int (vr_cons vr_int (vr_cons gq46.2 (vr_cons vr_int (vr_cons vr_int (vr_cons vr_int (vr_cons vr_int (vr_cons vr_int vr_nil))))))))))))))))))))))))))))))))))))))))))))))))))))) vr_nil))

set_option maxRecDepth 100000 in
theorem lifted (os : Os) (started : os.Started) (H : Type) (enc : TypeId × Value → H) :
    ReturnsInHanded {} Try.checked os 3 .any (Rows.objSameSpec.pre6 enc Try.prog Try.f3 Rows.objSameRow.domain false) (Rows.objSameSpec.post enc Try.prog Try.f3 false true false false) := by
  refine returnsInHanded_of_change_sized (C := Try.checked) own started (by kernel_rfl) Try.func3
    (ChangeSpec.witness6 (enc := enc) (C := Try.checked) false ⟨#[], #[.agg #[.int .u8 0, .int .u32 0, .int .i64 0, .int .i64 0, .int .i64 0, .int .i64 0, .int .i64 0, .int .u64 0, .int .u64 0, .string ⟨#[]⟩, .slice none 0 0, .int .i64 0, .int .i64 0, .int .i64 0, .int .i64 0, .int .i64 0, .int .i64 0, .int .i64 0, .slice none 0 0, .int .i64 0, .int .i64 0, .int .u8 0, .int .i64 0, .int .i64 0, .int .i64 0, .int .i64 0, .int .u8 0, .slice none 0 0, .int .i64 0, .int .i64 0, .int .i64 0, .string ⟨#[]⟩, .string ⟨#[]⟩, .int .i64 0, .int .i64 0, .int .i64 0, .slice none 0 0, .int .i64 0, .int .i64 0, .int .u64 0, .bool false, .int .i64 0, .slice none 0 0, .int .i64 0, .int .u8 0, .int .i64 0, .slice none 0 0, .int .i64 0, .int .i64 0, .int .i64 0, .int .i64 0, .int .i64 0], .agg #[.int .u8 0, .int .u32 0, .int .i64 0, .int .i64 0, .int .i64 0, .int .i64 0, .int .i64 0, .int .u64 0, .int .u64 0, .string ⟨#[]⟩, .slice none 0 0, .int .i64 0, .int .i64 0, .int .i64 0, .int .i64 0, .int .i64 0, .int .i64 0, .int .i64 0, .slice none 0 0, .int .i64 0, .int .i64 0, .int .u8 0, .int .i64 0, .int .i64 0, .int .i64 0, .int .i64 0, .int .u8 0, .slice none 0 0, .int .i64 0, .int .i64 0, .int .i64 0, .string ⟨#[]⟩, .string ⟨#[]⟩, .int .i64 0, .int .i64 0, .int .i64 0, .slice none 0 0, .int .i64 0, .int .i64 0, .int .u64 0, .bool false, .int .i64 0, .slice none 0 0, .int .i64 0, .int .u8 0, .int .i64 0, .slice none 0 0, .int .i64 0, .int .i64 0, .int .i64 0, .int .i64 0, .int .i64 0]], []⟩ 8 (by kernel_rfl) (by kernel_rfl) (by kernel_rfl) (by kernel_rfl)) ?_
  intro W base args ds gs before hval0 hW hcnd hsz _
  have hval : ∀ (j : Nat) t v, Try.f3.params[j]? = some t → args[j]? = some v → Value.okWide Try.prog W .any base t v := hval0
  have hW' := hW
  obtain ⟨p, q, hA0, hV, rfl, hfz, hnd⟩ := hW
  have hA : DataW.TrodAll enc Try.prog W 0 (fun _ => true) true Try.f3.params.toList args.toList ds p := hA0
  rw [Try.params3] at hA hval
  have hsz' : (DataW.weightsEach Try.prog (Try.f3.params.toList ++ Rows.objSameSpec.plain.varTypes Try.prog) (ds ++ gs)).all (· ≤ reachBytes) = true := hsz
  rw [Try.params3] at hsz'
  obtain ⟨v1, v2, d1, d2, p1, p2, rfl, rfl, rfl, h1, h2⟩ := trodAll_two hA
  obtain ⟨rfl, rfl⟩ := trodVars_none hV
  obtain ⟨⟨cs1⟩, rfl, _⟩ := okWide_struct Try.underlying46 (hval 0 46 v1 rfl rfl)
  obtain ⟨⟨cs2⟩, rfl, _⟩ := okWide_struct Try.underlying46 (hval 1 46 v2 rfl rfl)
  have hw : ∀ (j : Nat) t d, ([46, 46] : List TypeId)[j]? = some t → ([d1, d2] : List (DataW H))[j]? = some d → ∀ n ∈ d.weights Try.prog t, n ≤ reachBytes := by
    intro j t d ht hd n hn
    have hj : j < 2 := (List.getElem?_eq_some_iff.1 ht).1
    have := List.all_eq_true.1 hsz' n (DataW.weights_mem_each (j := j) (by rw [List.getElem?_append_left (by simpa using hj)]; exact ht) (by rw [List.getElem?_append_left (by simpa using hj)]; exact hd) n hn)
    simpa using this
  obtain ⟨f1, hf1⟩ := h1
  obtain ⟨f2, hf2⟩ := h2
  have k1 := flat_ok 3 46 msgK msgK_eq f1 cs1 (d1, p1) hf1 (hw 0 46 d1 rfl rfl)
  have k2 := flat_ok 3 46 msgK msgK_eq f2 cs2 (d2, p2) hf2 (hw 1 46 d2 rfl rfl)
  have h1 : DataW.Trod enc Try.prog W 0 (fun _ => true) true 46 (.agg ⟨cs1⟩) d1 p1 := ⟨f1, hf1⟩
  have h2 : DataW.Trod enc Try.prog W 0 (fun _ => true) true 46 (.agg ⟨cs2⟩) d2 p2 := ⟨f2, hf2⟩
  clear hA0 hval0
  refine (walk k1 k2).mono fun e W' ⟨he, hb⟩ => ?_
  subst he
  have hlt := fun y hy => hW'.lt y hy
  have hk : ∀ may, W.keptBut W' may := fun may => hb.frame may
  refine ⟨_, rfl, ⟨[d1, d2], [], _, [], _, [], hW', trodAll_cons_mk (shut_bool Try.underlying4 _) trodAll_mk0,
    trodAll_cons_mk (hb.trod (by kernel_rfl) (by kernel_rfl) (Nat.le_of_ble_eq_true (by kernel_rfl)) h1 fun y hy => hlt y (by simp [hy]))
      (trodAll_cons_mk (hb.trod (by kernel_rfl) (by kernel_rfl) (Nat.le_of_ble_eq_true (by kernel_rfl)) h2 fun y hy => hlt y (by simp [hy])) trodAll_mk0), rfl, hk _, fun h => by cases h⟩⟩

theorem over : Rows.objSameRow.holds Try.pinned (OpenSpec.ofChange Rows.objSameSpec) :=
  OpenClaim.holds_of_wide 3 Try.f3 rfl rfl rfl rfl rfl rfl rfl ⟨rfl, rfl, rfl, rfl, rfl⟩ rfl rfl rfl rfl rfl (by kernel_rfl) Try.func3 (by kernel_rfl)
    (of_decide_eq_true (by kernel_rfl)) (by unfold Func.isWrapper; first | (rw [if_pos (by decide +kernel)]; kernel_rfl) | (rw [if_neg (by decide +kernel)]; exact ⟨rfl, rfl⟩))
    (fun os started H enc _ => lifted os started H enc)

theorem proved : Rows.ObjSameSaid := over
#print axioms proved
end Go.Proofs.Ytblbaohcelldpaa.objSame
