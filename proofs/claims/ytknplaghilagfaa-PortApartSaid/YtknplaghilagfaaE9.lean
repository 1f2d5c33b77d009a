/- PortDown: what its code asks is so. -/
import Derived.Test.YtknplaghilagfaaE8
namespace Go.Proofs.Ytknplaghilagfaa.Po
open Go Go.Abs
set_option linter.unusedVariables false
noncomputable section
theorem acsAt_ok {H : Heap} {v : Value} {l : List (Nat × AObj)} {vs : List Value} {n : Nat} (h : acsAt H v = some (l, vs, n)) :
    ∃ b c, v = .slice (some ⟨b, 0, none⟩) n c ∧ 100 ≤ b ∧ H.get b = some (acs vs) ∧ l = [(b, acs vs)] := by
  unfold acsAt at h
  split at h
  · rename_i a n' c
    split at h
    · rename_i vs' t z lo ow ho hs hg hb
      split at h
      · rename_i hc
        simp only [Option.some.injEq, Prod.mk.injEq] at h; obtain ⟨h1, h2, h3⟩ := h
        simp only [Bool.and_eq_true, Bool.not_eq_true'] at hc
        obtain ⟨⟨⟨c1, c2⟩, c3⟩, c4⟩ := hc
        have c1 := Nat.eq_of_beq_eq_true c1; have c2 := Nat.eq_of_beq_eq_true c2
        subst c1; subst c2; subst c3; subst c4; subst h2; subst h3; subst h1
        obtain ⟨b, o, s⟩ := a
        simp only at ho hs; subst ho; subst hs
        exact ⟨b, c, rfl, Nat.le_of_ble_eq_true hb, hg, rfl⟩
      · cases h
    · cases h
  · cases h
def L8 : Code → Nat → List Value → List Value → (Int → Prop) → Prop := fun c N vals vs K =>
  ∃ l cp, vs = acsV l ∧ l.length ≤ 9223372036854775807 ∧ c = loopIn Try.prog 8 3 ∧ N = 27 ∧ vals = (I8 l cp 0 0).1 ∧ ∀ z, K z
theorem loopOk8 : LoopOk Try.prog 100 live8 (sLoop8 L8) := by
  intro c N vals h Q hS
  unfold sLoop8 at hS
  split at hS
  · rename_i vs ho
    obtain ⟨l, cp, hx, hl, hc, hN, hv, hk⟩ := hS
    subst hx
    obtain ⟨e, v, o, ⟨q1, q2, z, q3⟩, h2⟩ := loop8 hl c hc hN hv ho (next_of ho)
    subst q1; subst q2; subst q3
    exact ⟨_, h2, hk z⟩
  · exact hS.elim
theorem long_call {l : List Ac} {cp : Nat} (hl : l.length ≤ 9223372036854775807) : ∃ b, ∀ B, CallH Try.prog 100 B 8 [asl l.length cp] (hOf 100 [] [some (acs (acsV l))]) (.returned (.bool b)) (hOf 100 [] [some (acs (acsV l))]) := by
  have h0 : Is (gLong (real Try.prog) L8 (acsV l) l.length cp (fun v objs => ∃ b, v = .bool b ∧ objs = [some (acs (acsV l))])) := by
    refine ⟨?_⟩
    rw [gLong_eq]
    exact ⟨l, cp, rfl, hl, rfl, rfl, rfl, fun z => n_geq (fun _ => ⟨true, rfl, rfl⟩) (fun _ => ⟨false, rfl, rfl⟩)⟩
  obtain ⟨v, objs, ⟨b, h2, h3⟩, h4⟩ := callW kn_none (lp_ok (l := [(3, (live8, sLoop8 L8))]) (by
    intro x hx; simp only [List.mem_cons, List.not_mem_nil, or_false] at hx; subst hx; exact loopOk8)) (f := 8) (args := [asl l.length cp]) h0
  subst h2; subst h3
  exact ⟨b, h4⟩
theorem sum_long : SumOk Try.prog 100 8 (sLong realP) := by
  intro args H K h
  unfold sLong at h
  split at h
  · obtain ⟨⟨lx, vs, n⟩, hx, h⟩ := opt_elim h
    simp only at h
    obtain ⟨⟨l, e1, e2, e3⟩, hT, hF⟩ := h
    subst e1; subst e2
    obtain ⟨b, c, q1, q2, q3, q4⟩ := acsAt_ok hx
    subst q1; subst q4
    obtain ⟨t, h4⟩ := long_call (l := l) (cp := c) e3
    refine ⟨.bool t, putO H [(b, acs (acsV l))], fun B => ?_, ?_⟩
    · have := lift (ins := [acs (acsV l)]) (upd := [some (acs (acsV l))]) (new := []) rfl rfl h4 (H := H) (ns := [b]) rfl (by simp) (by simpa [plainO, acs] using acsV_plain l) (by simpa [plainO, acs] using acsV_plain l) (by simp)
        (fun i o hi => by
          cases i with
          | zero => simp only [List.getElem?_cons_zero, Option.some.injEq] at hi; subst hi; exact ⟨_, rfl, q2, q3⟩
          | succ i => simp at hi) B
      simp only [vrenL, vren, asl] at this
      rw [tau_in (n := 100) (m := b) (by omega) rfl] at this
      exact this
    · cases t
      · exact hF
      · exact hT
  · exact h.elim
theorem rest_ok' : ∀ x ∈ knRest realP, SumOk Try.prog 100 x.1 x.2 := by
  intro x hx
  simp only [knRest, List.mem_cons, List.not_mem_nil, or_false] at hx
  rcases hx with rfl | rfl | rfl | rfl | rfl | rfl | rfl | rfl | rfl | rfl | rfl | rfl | rfl
  · exact sum_awake
  · exact sum_new
  · exact sum_times
  · exact sum_send
  · exact sum_take
  · exact sum_up
  · exact sum_down
  · exact sum_same
  · exact sum_all
  · exact sum_waits
  · exact sum_step
  · exact sum_isUp
  · exact sum_copy
theorem all_ok' : ∀ x ∈ knAll realP, SumOk Try.prog 100 x.1 x.2 := by
  intro x hx
  rcases List.mem_cons.1 hx with rfl | hx
  · exact sum_long
  · exact rest_ok' x hx
theorem kn_D : KnOk Try.prog 100 (WD realP) := kn_ok all_ok'
/-- Acts as the types have them. -/
def WF (l : List Ac) : Prop := ∀ a ∈ l, 0 ≤ a.k ∧ 0 ≤ a.t ∧ a.t < 256
theorem acsV_at {l : List Ac} {i : Nat} (h : i < l.length) : (acsV l)[i * 4]? = some (.int .u8 l[i].k) ∧ (acsV l)[i * 4 + 1]? = some (.int .i64 l[i].p) ∧ (acsV l)[i * 4 + 2]? = some (.int .u8 l[i].t) ∧ (acsV l)[i * 4 + 3]? = some (.string l[i].s) := by
  have g := fun j (hj : j < 4) => acsV_get l (i := i) hj (List.getElem?_eq_getElem h)
  exact ⟨g 0 (by omega), g 1 (by omega), g 2 (by omega), g 3 (by omega)⟩
theorem upd_upd (ps : Ps) (p : Nat) (q q' : Pt) : upd (upd ps p q) p q' = upd ps p q' := by
  funext i; unfold upd; split <;> rfl
theorem upd_at (ps : Ps) (p : Nat) (q : Pt) : upd ps p q p = q := by unfold upd; rw [if_pos rfl]
theorem timesP_le {k t : Int} (ht : 0 ≤ t) : timesP k t ≤ 40 := by unfold timesP; split <;> omega
-- the acts of one
theorem loopD8 {l : List Ac} (hw : WF l) {cp : Nat} {x : Int} {s : ByteArray} {i : Nat} (hi : i < l.length) {ps : Ps} {vs : List Value} (h : PR ps vs) (c : Code) (hc : c = loopIn Try.prog 5 8) {N : Nat} (hN : N = 156) {vals : List Value} {hh : Heap}
    (hv : vals = [asl l.length cp, i64 x, .string s, p101, i64 i, i64 0]) (ho : objsOf 100 hh = [some (acs (acsV l)), some (pob vs)]) (hle : 100 ≤ hh.next) :
    ∃ e v o, (e = .exit 2 ∧ v = [asl l.length cp, i64 x, .string s, p101, i64 i] ∧ ∃ ps' vs', PR ps' vs' ∧ o = [some (acs (acsV l)), some (pob vs')]) ∧
      ∀ B, Holds Try.prog 100 B (.loop false c ⟨tmOf N [0, 1, 2, 7, 8, 9] vals, [], hh, .run⟩) (.ex e (stOf 100 N [0, 1, 2, 7, 8] (v, o))) := by
  subst hc; subst hN
  have hwi := hw l[i] (List.getElem_mem hi)
  obtain ⟨a0, a1, a2, a3⟩ := acsV_at hi
  exact lp_rule (P := Try.prog) (G := 100) (W := WD realP) (fuel := 300) (N := 156) (k0 := 2) (live := [0, 1, 2, 7, 8, 9]) (live2 := [0, 1, 2, 7, 8]) (c := loopIn Try.prog 5 8) okp kn_D lp_none (α := { y : Nat × List Value // y.1 ≤ 40 ∧ ∃ ps, PR ps y.2 }) (fun y => 41 - y.1.1)
    (fun y => ([asl l.length cp, i64 x, .string s, p101, i64 i, i64 y.1.1], [some (acs (acsV l)), some (pob y.1.2)]))
    (fun e v o => e = .exit 2 ∧ v = [asl l.length cp, i64 x, .string s, p101, i64 i] ∧ ∃ ps' vs', PR ps' vs' ∧ o = [some (acs (acsV l)), some (pob vs')]) (by
      rintro ⟨⟨k, vs⟩, hk, ps, hp⟩
      have hg := gD8_eq (real Try.prog) realP (acsV l) vs l.length cp x s i k
      unfold gD8 at hg
      refine ⟨?_⟩
      show wpe _ _ _ _ _ _
      generalize hst : stOf 100 156 [0, 1, 2, 7, 8, 9] _ = st
      have e : st = stOf 100 156 [0, 1, 2, 7, 8, 9] ([asl l.length cp, i64 x, .string s, p101, i64 i, i64 k], [some (acs (acsV l)), some (pob vs)]) := hst.symm
      rw [e, hg]
      refine n_idx i rfl hi ?_
      rw [Nat.zero_add]
      refine n_rdI a0 (n_rdI a1 (n_rdI a2 (n_rdS a3 ⟨⟨hwi.1, hwi.2.1, hwi.2.2⟩, n_lss (fun h1 => ?_) (fun h1 => ?_)⟩)))
      · have hle := timesP_le (k := l[i].k) hwi.2.1
        refine n_idx i rfl hi ?_
        rw [Nat.zero_add]
        refine n_rdI a0 (n_rdI a1 (n_rdI a2 (n_rdS a3 ⟨ps, hp, fun vs' h' => n_add (by omega) (by omega) ?_⟩)))
        exact ⟨⟨(k + 1, vs'), by show k + 1 ≤ 40; omega, _, h'⟩, [], by simp; omega, names_id' rfl rfl rfl⟩
      · exact ⟨[], _, _, names_id' rfl rfl rfl, rfl, rfl, ps, vs, hp, rfl⟩)
    ⟨(0, vs), by simp, ps, h⟩ rfl (vals := vals) (h := hh) hv ho hle
def LD8 : LT := fun c N vals av vs K => ∃ (l : List Ac) (i cp : Nat) (x : Int) (s : ByteArray) (ps : Ps), av = acsV l ∧ i < l.length ∧ WF l ∧ PR ps vs ∧ c = loopIn Try.prog 5 8 ∧ N = 156 ∧ vals = [asl l.length cp, i64 x, .string s, p101, i64 i, i64 0] ∧ ∀ ps' vs', PR ps' vs' → K vs'
theorem loopOkD8 : LoopOk Try.prog 100 [0, 1, 2, 7, 8, 9] (sLoopA LD8 5 2 [0, 1, 2, 7, 8]) := by
  intro c N vals h Q hS
  unfold sLoopA at hS
  split at hS
  · rename_i av vs ho
    obtain ⟨l, i, cp, x, s, ps, hx, hi, hw, hp, hc, hN, hv, hk⟩ := hS
    subst hx
    obtain ⟨e, v, o, ⟨q1, q2, ps', vs', q3, q4⟩, h2⟩ := loopD8 hw hi hp c hc hN hv ho (next_of ho)
    subst q1; subst q2; subst q4; subst hv
    exact ⟨_, h2, hk ps' vs' q3⟩
  · exact hS.elim
theorem loopD5 {l : List Ac} (hw : WF l) {cp : Nat} {x : Int} {s : ByteArray} (hl : l.length ≤ 9223372036854775807) {ps : Ps} {vs : List Value} (h : PR ps vs) (c : Code) (hc : c = loopIn Try.prog 5 5) {N : Nat} (hN : N = 156) {vals : List Value} {hh : Heap}
    (hv : vals = [asl l.length cp, i64 x, .string s, p101, i64 0]) (ho : objsOf 100 hh = [some (acs (acsV l)), some (pob vs)]) (hle : 100 ≤ hh.next) :
    ∃ e v o, (e = .exit 0 ∧ v = [asl l.length cp, i64 x, .string s, p101] ∧ ∃ ps' vs', PR ps' vs' ∧ o = [some (acs (acsV l)), some (pob vs')]) ∧
      ∀ B, Holds Try.prog 100 B (.loop false c ⟨tmOf N [0, 1, 2, 7, 8] vals, [], hh, .run⟩) (.ex e (stOf 100 N [0, 1, 2, 7] (v, o))) := by
  subst hc; subst hN
  exact lp_rule (P := Try.prog) (G := 100) (W := ⟨sy1 100, false, lookN (knAll realP), lookN [(8, ([0, 1, 2, 7, 8, 9], sLoopA LD8 5 2 [0, 1, 2, 7, 8]))]⟩) (fuel := 300) (N := 156) (k0 := 2) (live := [0, 1, 2, 7, 8]) (live2 := [0, 1, 2, 7]) (c := loopIn Try.prog 5 5) okp (kn_ok all_ok')
    (lp_ok (by intro y hy; simp only [List.mem_cons, List.not_mem_nil, or_false] at hy; subst hy; exact loopOkD8)) (α := { y : Nat × List Value // y.1 ≤ l.length ∧ ∃ ps, PR ps y.2 }) (fun y => l.length - y.1.1)
    (fun y => ([asl l.length cp, i64 x, .string s, p101, i64 y.1.1], [some (acs (acsV l)), some (pob y.1.2)]))
    (fun e v o => e = .exit 0 ∧ v = [asl l.length cp, i64 x, .string s, p101] ∧ ∃ ps' vs', PR ps' vs' ∧ o = [some (acs (acsV l)), some (pob vs')]) (by
      rintro ⟨⟨i, vs⟩, hi, ps, hp⟩
      have hg := gD5_eq (real Try.prog) realP LD8 (acsV l) vs l.length cp x s i
      unfold gD5 at hg
      refine ⟨?_⟩
      show wpe _ _ _ _ _ _
      generalize hst : stOf 100 156 [0, 1, 2, 7, 8] _ = st
      have e : st = stOf 100 156 [0, 1, 2, 7, 8] ([asl l.length cp, i64 x, .string s, p101, i64 i], [some (acs (acsV l)), some (pob vs)]) := hst.symm
      rw [e, hg]
      refine n_lss (fun h1 => ?_) (fun h1 => ?_)
      · have h1' : i < l.length := by have : (Int.ofNat l.length) = (l.length : Int) := rfl; omega
        refine ⟨l, i, cp, x, s, ps, rfl, h1', hw, hp, rfl, rfl, rfl, fun ps' vs' h' => n_add (by omega) (by omega) ?_⟩
        exact ⟨⟨(i + 1, vs'), by show i + 1 ≤ l.length; omega, _, h'⟩, [], by simp; omega, names_id' rfl rfl rfl⟩
      · exact ⟨[], _, _, names_id' rfl rfl rfl, rfl, rfl, ps, vs, hp, rfl⟩)
    ⟨(0, vs), by simp, ps, h⟩ rfl (vals := vals) (h := hh) hv ho hle
def LD5 : LT := fun c N vals av vs K => ∃ (l : List Ac) (cp : Nat) (x : Int) (s : ByteArray) (ps : Ps), av = acsV l ∧ l.length ≤ 9223372036854775807 ∧ WF l ∧ PR ps vs ∧ c = loopIn Try.prog 5 5 ∧ N = 156 ∧ vals = [asl l.length cp, i64 x, .string s, p101, i64 0] ∧ ∀ ps' vs', PR ps' vs' → K vs'
theorem loopOkD5 : LoopOk Try.prog 100 [0, 1, 2, 7, 8] (sLoopA LD5 4 0 [0, 1, 2, 7]) := by
  intro c N vals h Q hS
  unfold sLoopA at hS
  split at hS
  · rename_i av vs ho
    obtain ⟨l, cp, x, s, ps, hx, hi, hw, hp, hc, hN, hv, hk⟩ := hS
    subst hx
    obtain ⟨e, v, o, ⟨q1, q2, ps', vs', q3, q4⟩, h2⟩ := loopD5 hw hi hp c hc hN hv ho (next_of ho)
    subst q1; subst q2; subst q4; subst hv
    exact ⟨_, h2, hk ps' vs' q3⟩
  · exact hS.elim
-- the sends that fill it
theorem send_fill {ps : Ps} {p : Nat} (hp : p < 16) {s : ByteArray} (hs : s.data.toList.length ≤ 9216) {i : Nat} (hi : i < 32) :
    sendP (upd ps p ⟨true, List.replicate i s⟩) ((p : Int) + 1) s = (0, upd ps p ⟨true, List.replicate (i + 1) s⟩) := by
  unfold sendP
  rw [atPort_in hp, upd_at]
  unfold sendF
  simp only [Bool.true_eq_false, if_false, List.length_replicate]
  rw [if_neg (by omega), if_neg (by omega), upd_upd, List.replicate_succ']
theorem loopD21 {ps : Ps} {p : Nat} (hp : p < 16) {s : ByteArray} (hs : s.data.toList.length ≤ 9216) {oa : Option AObj} {vs : List Value} (h : PR (upd ps p ⟨true, []⟩) vs) (c : Code) (hc : c = loopIn Try.prog 5 21) {N : Nat} (hN : N = 156) {vals : List Value} {hh : Heap}
    (hv : vals = [i64 ((p : Int) + 1), .string s, p101, i64 0]) (ho : objsOf 100 hh = [oa, some (pob vs)]) (hle : 100 ≤ hh.next) :
    ∃ e v o, (e = .exit 4 ∧ v = [i64 ((p : Int) + 1), .string s, p101] ∧ ∃ vs', PR (upd ps p ⟨true, List.replicate 32 s⟩) vs' ∧ o = [oa, some (pob vs')]) ∧
      ∀ B, Holds Try.prog 100 B (.loop false c ⟨tmOf N [1, 2, 7, 15] vals, [], hh, .run⟩) (.ex e (stOf 100 N [1, 2, 7] (v, o))) := by
  subst hc; subst hN
  exact lp_rule (P := Try.prog) (G := 100) (W := WD realP) (fuel := 300) (N := 156) (k0 := 2) (live := [1, 2, 7, 15]) (live2 := [1, 2, 7]) (c := loopIn Try.prog 5 21) okp kn_D lp_none (α := { y : Nat × List Value // y.1 ≤ 32 ∧ PR (upd ps p ⟨true, List.replicate y.1 s⟩) y.2 }) (fun y => 32 - y.1.1)
    (fun y => ([i64 ((p : Int) + 1), .string s, p101, i64 y.1.1], [oa, some (pob y.1.2)]))
    (fun e v o => e = .exit 4 ∧ v = [i64 ((p : Int) + 1), .string s, p101] ∧ ∃ vs', PR (upd ps p ⟨true, List.replicate 32 s⟩) vs' ∧ o = [oa, some (pob vs')]) (by
      rintro ⟨⟨i, vs⟩, hi, hp'⟩
      have hg := gD21_eq (real Try.prog) realP oa vs ((p : Int) + 1) s i
      unfold gD21 at hg
      refine ⟨?_⟩
      show wpe _ _ _ _ _ _
      generalize hst : stOf 100 156 [1, 2, 7, 15] _ = st
      have e : st = stOf 100 156 [1, 2, 7, 15] ([i64 ((p : Int) + 1), .string s, p101, i64 i], [oa, some (pob vs)]) := hst.symm
      rw [e, hg]
      refine n_lss (fun h1 => ?_) (fun h1 => ?_)
      · have hi' : i < 32 := by omega
        refine ⟨_, hp', fun vs' h' => ?_⟩
        rw [send_fill hp hs hi'] at h' ⊢
        refine n_neq (fun hne => absurd rfl hne) (fun _ => n_add (by omega) (by omega) ?_)
        exact ⟨⟨(i + 1, vs'), by show i + 1 ≤ 32; omega, h'⟩, [], by simp; omega, names_id' rfl rfl rfl⟩
      · have : i = 32 := by simp only at hi; omega
        subst this
        exact ⟨[], _, _, names_id' rfl rfl rfl, rfl, rfl, vs, hp', rfl⟩)
    ⟨(0, vs), by simp, h⟩ rfl (vals := vals) (h := hh) hv ho hle
def LD21 : Code → Nat → List Value → Option AObj → List Value → (List Value → Prop) → Prop := fun c N vals oa vs K =>
  ∃ (ps : Ps) (p : Nat) (s : ByteArray), PR (upd ps p ⟨true, []⟩) vs ∧ p < 16 ∧ s.data.toList.length ≤ 9216 ∧ c = loopIn Try.prog 5 21 ∧ N = 156 ∧ vals = [i64 ((p : Int) + 1), .string s, p101, i64 0] ∧ ∀ vs', PR (upd ps p ⟨true, List.replicate 32 s⟩) vs' → K vs'
theorem loopOkD21 : LoopOk Try.prog 100 [1, 2, 7, 15] (sLoop21 LD21) := by
  intro c N vals h Q hS
  unfold sLoop21 at hS
  split at hS
  · rename_i oa vs ho
    obtain ⟨ps, p, s, hp, hp16, hs, hc, hN, hv, hk⟩ := hS
    obtain ⟨e, v, o, ⟨q1, q2, vs', q3, q4⟩, h2⟩ := loopD21 hp16 hs hp c hc hN hv ho (next_of ho)
    subst q1; subst q2; subst q4; subst hv
    exact ⟨_, h2, hk vs' q3⟩
  · exact hS.elim
end
end Go.Proofs.Ytknplaghilagfaa.Po
