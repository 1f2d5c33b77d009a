/- PortDown: what stands behind the acts, and the whole. -/
import Derived.Test.YtknplaghilagfaaE9
namespace Go.Proofs.Ytknplaghilagfaa.Po
open Go Go.Abs
set_option linter.unusedVariables false
noncomputable section
def okK : RK := fun v _ => v = .bool true
theorem cat_nil {s : ByteArray} (hs : s.data.toList.length ≤ 9216) {K : ByteArray → Prop} (hk : K s) : (real Try.prog).cat s (bytesOf []) K := by
  refine ⟨s, ?_, hk⟩
  simp only [strBin]
  have e : Nat.ble (s.data.toList.length + (bytesOf []).data.toList.length) 1099511627776 = true := Nat.ble_eq_true_of_le (by simp [bytesOf]; simp at hs; omega)
  rw [e]
  simp only [Option.some.injEq, Value.string.injEq]
  apply bytes_ext
  simp [bytesOf]
theorem takeP_nil {ps : Ps} {p : Nat} (hp : p < 16) {u : Bool} (h : ps p = ⟨u, []⟩) : takeP ps ((p : Int) + 1) = ((bytesOf [], false), ps) := by
  unfold takeP; rw [atPort_in hp]; unfold takeF; rw [h]; simp only; rw [← h, upd_self]
theorem isUpP_in {ps : Ps} {p : Nat} (hp : p < 16) : isUpP ps ((p : Int) + 1) = (ps p).up := by unfold isUpP; rw [atPort_in hp]
theorem listP_in {ps : Ps} {p : Nat} (hp : p < 16) : listP ps ((p : Int) + 1) = (ps p).l := by unfold listP; rw [atPort_in hp]
theorem sendP_down {ps : Ps} {p : Nat} (hp : p < 16) {s : ByteArray} (h : (ps p).up = false) : sendP ps ((p : Int) + 1) s = (8, ps) := by
  unfold sendP; rw [atPort_in hp]; unfold sendF; rw [if_pos h, upd_self]
theorem upP_down {ps : Ps} {p : Nat} (hp : p < 16) {u : Bool} (h : ps p = ⟨false, []⟩) : upP ps ((p : Int) + 1) = (0, upd ps p ⟨true, []⟩) := by
  unfold upP; rw [atPort_in hp]; unfold upF; rw [h]; simp
theorem tail_ok {ps : Ps} {p : Nat} (hp : p < 16) (hps : ps p = ⟨false, []⟩) {vs : List Value} (h : PR ps vs) {oa : Option AObj} {s : ByteArray} (hs : s.data.toList.length ≤ 9216) : tailD (real Try.prog) realP LD21 oa vs ((p : Int) + 1) s okK := by
  have ht := takeP_nil hp hps
  refine ⟨ps, h, fun vs1 h1 => ⟨(fun e => by rw [ht] at e; cases e), fun _ => ?_⟩⟩
  rw [ht] at h1
  refine ⟨ps, h1, (fun e => by rw [isUpP_in hp, hps] at e; cases e), fun _ => ⟨ps, h1, ?_⟩⟩
  have hl : listP ps ((p : Int) + 1) = [] := by rw [listP_in hp, hps]
  rw [hl]
  refine n_neq (fun e => absurd rfl e) (fun _ => ⟨ps, h1, fun _ => n_neq (fun e => absurd rfl e) (fun _ => ?_), fun e => absurd hl e⟩)
  refine ⟨ps, h1, fun vs2 h2 => ?_⟩
  rw [sendP_down hp (by rw [hps])] at h2 ⊢
  refine n_neq (fun e => absurd rfl e) (fun _ => ⟨ps, h2, fun vs3 h3 => ?_⟩)
  rw [upP_down (u := true) hp hps] at h3 ⊢
  refine n_neq (fun e => absurd rfl e) (fun _ => ⟨ps, p, s, h3, hp, hs, rfl, rfl, rfl, fun vs4 h4 => ?_⟩)
  have e31 : takeP (upd ps p ⟨true, List.replicate 32 s⟩) ((p : Int) + 1) = ((s, true), upd ps p ⟨true, List.replicate 31 s⟩) := by
    unfold takeP; rw [atPort_in hp, upd_at]; unfold takeF
    simp only [show List.replicate 32 s = s :: List.replicate 31 s from List.replicate_succ, upd_upd]
  refine ⟨_, h4, fun vs5 h5 => ⟨fun _ => ?_, (fun e => by rw [e31] at e; cases e)⟩⟩
  rw [e31] at h5 ⊢
  refine n_scmp_eq (fun _ => ⟨_, h5, ?_⟩) (fun e => absurd rfl e)
  have hl31 : listP (upd ps p ⟨true, List.replicate 31 s⟩) ((p : Int) + 1) = List.replicate 31 s := by rw [listP_in hp, upd_at]
  rw [hl31]
  refine n_eql (fun _ => cat_nil hs ⟨_, h5, fun vs6 h6 => ?_⟩) (fun e => absurd (by simp) e)
  rw [send_fill hp hs (by omega)] at h6 ⊢
  refine n_eql (fun _ => ⟨_, h6, fun vs7 h7 => ?_⟩) (fun e => absurd rfl e)
  have e9 : sendP (upd ps p ⟨true, List.replicate (31 + 1) s⟩) ((p : Int) + 1) s = (9, upd ps p ⟨true, List.replicate (31 + 1) s⟩) := by
    unfold sendP; rw [atPort_in hp, upd_at]; unfold sendF
    simp only [Bool.true_eq_false, if_false, List.length_replicate]
    rw [if_neg (by omega), if_pos trivial, upd_upd]
  rw [e9]
  exact n_eql (fun _ => rfl) (fun e => absurd rfl e)
theorem conv349 (a : Int) (H : Heap) : aConvert Try.prog H 3 49 (.int .i64 a) = some (.int .u64 (IntKind.u64.wrap a), H) := by kernel_rfl
theorem conv493 (a : Int) (H : Heap) : aConvert Try.prog H 49 3 (.int .u64 a) = some (.int .i64 (IntKind.i64.wrap a), H) := by kernel_rfl
theorem downP_up {ps : Ps} {p : Nat} (hp : p < 16) (h : (ps p).up = true) : downP ps ((p : Int) + 1) = ((((ps p).l.length : Int), 0), upd ps p ⟨false, []⟩) := by
  unfold downP; rw [atPort_in hp]; unfold downF; rw [if_pos h]
theorem wrap_u64 (x : Int) : 0 ≤ IntKind.u64.wrap x := by
  simp [IntKind.wrap, IntKind.bits, IntKind.signed]; omega
theorem mid_ok {ps : Ps} {vs : List Value} (h : PR ps vs) {oa : Option AObj} {x : Int} {s : ByteArray} (hs : s.data.toList.length ≤ 9216) : midD (real Try.prog) realP LD21 oa vs x s okK := by
  refine ⟨_, conv349 x, n_rem (wrap_u64 x) (by omega) ⟨_, conv493 _, ?_⟩⟩
  have hw := wrap_u64 x
  rw [← wrapA_eq .i64, wrap64 (by omega) (by omega)]
  refine n_add (by omega) (by omega) ?_
  obtain ⟨p, hp, e⟩ : ∃ p : Nat, p < 16 ∧ 1 + IntKind.u64.wrap x % 16 = (p : Int) + 1 := ⟨(IntKind.u64.wrap x % 16).toNat, by omega, by omega⟩
  rw [e]
  refine ⟨ps, h, fun hu => ⟨ps, h, ⟨ps, h, fun vs1 h1 => ?_⟩⟩, fun hu => ?_⟩
  · rw [isUpP_in hp] at hu
    rw [downP_up hp hu] at h1 ⊢
    refine n_neq (fun e => absurd rfl e) (fun _ => n_neq (fun e => absurd (by rw [listP_in hp]) e) (fun _ => ?_))
    exact tail_ok hp (upd_at _ _ _) h1 hs
  · rw [isUpP_in hp] at hu
    have hps : ps p = ⟨false, []⟩ := by
      obtain ⟨f, g1, g2, g3, _⟩ := h.2 p hp
      have := g3 hu
      cases hq : ps p with
      | mk u l => rw [hq] at hu this; simp only at hu this; rw [hu, this]
    exact tail_ok hp hps h hs
theorem down5_ok {l : List Ac} (hw : WF l) (hl : l.length ≤ 9223372036854775807) {cp : Nat} {x : Int} {s : ByteArray} : Is (gDown5 (real Try.prog) realP LD5 LD21 (acsV l) l.length cp x s okK) := by
  refine ⟨?_⟩
  rw [gDown5_eq]
  refine ⟨⟨l, rfl, rfl, hl⟩, rfl, n_slen (n_gtr (fun _ => rfl) (fun h1 => ?_))⟩
  intro vs h
  exact ⟨l, cp, x, s, _, rfl, hl, hw, h, rfl, rfl, rfl, fun ps' vs' h' => mid_ok h' (by omega)⟩
theorem down0_ok {x : Int} {s : ByteArray} : Is (gDown0 (real Try.prog) realP LD21 x s okK) := by
  refine ⟨?_⟩
  rw [gDown0_eq]
  refine n_lss (fun h => absurd h (by omega)) (fun _ => n_geq (fun h => absurd h (by omega)) (fun _ => n_slen (n_gtr (fun _ => rfl) (fun h1 => ?_))))
  intro vs h
  exact n_lss (fun h => absurd h (by omega)) (fun _ => mid_ok h (by omega))
theorem downZ_ok {sp : Option Nat} {x : Int} {s : ByteArray} : Is (gDownZ (real Try.prog) realP LD21 sp x s okK) := by
  refine ⟨?_⟩
  rw [gDownZ_eq]
  refine n_lss (fun h => absurd h (by omega)) (fun _ => n_geq (fun h => absurd h (by omega)) (fun _ => n_slen (n_gtr (fun _ => rfl) (fun h1 => ?_))))
  intro vs h
  exact n_lss (fun h => absurd h (by omega)) (fun _ => mid_ok h (by omega))
theorem lps5 : LpOk Try.prog 100 ⟨sy1 100, false, lookN (knAll realP), lookN [(5, ([0, 1, 2, 7, 8], sLoopA LD5 4 0 [0, 1, 2, 7])), (21, ([1, 2, 7, 15], sLoop21 LD21))]⟩ := lp_ok (by
  intro y hy; simp only [List.mem_cons, List.not_mem_nil, or_false] at hy
  rcases hy with rfl | rfl
  · exact loopOkD5
  · exact loopOkD21)
theorem lps0 : LpOk Try.prog 100 ⟨fun _ => false, false, lookN (knRest realP), lookN [(21, ([1, 2, 7, 15], sLoop21 LD21))]⟩ := lp_ok (by
  intro y hy; simp only [List.mem_cons, List.not_mem_nil, or_false] at hy
  subst hy; exact loopOkD21)
theorem down5_call {l : List Ac} (hw : WF l) (hl : l.length ≤ 9223372036854775807) {cp : Nat} {x : Int} {s : ByteArray} (B : Base) : ∃ H', CallH Try.prog 100 B 5 [asl l.length cp, i64 x, .string s] (hOf 100 [] [some (acs (acsV l))]) (.returned (.bool true)) H' := by
  obtain ⟨v, objs, h2, h4⟩ := callW (kn_ok all_ok') lps5 (f := 5) (args := [asl l.length cp, i64 x, .string s]) (down5_ok (x := x) (s := s) (cp := cp) hw hl)
  cases h2
  exact ⟨_, h4 B⟩
theorem down0_call {x : Int} {s : ByteArray} (B : Base) : ∃ H', CallH Try.prog 100 B 5 [.slice none 0 0, i64 x, .string s] (hOf 100 [] [none]) (.returned (.bool true)) H' := by
  obtain ⟨v, objs, h2, h4⟩ := callW (kn_ok rest_ok') lps0 (f := 5) (args := [.slice none 0 0, i64 x, .string s]) (down0_ok (x := x) (s := s))
  cases h2
  exact ⟨_, h4 B⟩
theorem downZ_call {sp : Option Nat} {x : Int} {s : ByteArray} (B : Base) : ∃ H', CallH Try.prog 100 B 5 [.slice (some ⟨100, 0, sp⟩) 0 0, i64 x, .string s] (hOf 100 [] [none]) (.returned (.bool true)) H' := by
  obtain ⟨v, objs, h2, h4⟩ := callW (kn_ok rest_ok') lps0 (f := 5) (args := [.slice (some ⟨100, 0, sp⟩) 0 0, i64 x, .string s]) (downZ_ok (sp := sp) (x := x) (s := s))
  cases h2
  exact ⟨_, h4 B⟩
end
end Go.Proofs.Ytknplaghilagfaa.Po
