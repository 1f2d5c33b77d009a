/- The further functions of the ports' statements go as lists do. -/
import Derived.Test.YtknplaghilagfaaE4
import Derived.Test.YtknplaghilagfaaD8
namespace Go.Proofs.Ytknplaghilagfaa.Po
open Go Go.Abs
set_option linter.unusedVariables false
noncomputable section
theorem callW {W : How} {n : Nat} (hkn : KnOk Try.prog 100 W) (hlp : LpOk Try.prog 100 W) {f : FuncId} {args : List Value} {H : Heap} {K : RK} (h : Is (wpe Try.prog (real Try.prog) W n (.call f args H) (retQ 100 K))) :
    ∃ v objs, K v objs ∧ ∀ B, CallH Try.prog 100 B f args H (.returned v) (hOf 100 [] objs) := call_ok okp hkn hlp h.out
def acB (k p t : Int) (s : ByteArray) : AObj := .cells [.int .u8 k, .int .i64 p, .int .u8 t, .string s] 29 4 false true
-- step
theorem step_ok {ps : Ps} {vs : List Value} {k p t : Int} {s : ByteArray} {K : RK} (h : PR ps vs) (hk : ∀ vs', PR (stepP ps k p s) vs' → K (.tuple #[]) [some (pob vs'), some (acB k p t s)]) : Is (gStep (real Try.prog) realP vs k p t s K) := by
  refine ⟨?_⟩
  rw [gStep_eq]
  refine n_eql (fun e => ⟨ps, h, fun vs' h' => hk vs' ?_⟩) (fun e => n_eql (fun e1 => ⟨ps, h, fun vs' h' => ⟨fun _ => hk vs' ?_, fun _ => hk vs' ?_⟩⟩) (fun e1 => n_eql (fun e2 => ⟨ps, h, fun vs' h' => hk vs' ?_⟩) (fun e2 => ⟨ps, h, fun vs' h' => hk vs' ?_⟩)))
  · unfold stepP; rw [if_pos e]; exact h'
  · unfold stepP; rw [if_neg e, if_pos e1]; exact h'
  · unfold stepP; rw [if_neg e, if_pos e1]; exact h'
  · unfold stepP; rw [if_neg e, if_neg e1, if_pos e2]; exact h'
  · unfold stepP; rw [if_neg e, if_neg e1, if_neg e2]; exact h'
theorem kn_st : KnOk Try.prog 100 (Wst realP) := kn_ok (by
  intro x hx
  simp only [List.mem_cons, List.not_mem_nil, or_false] at hx
  rcases hx with rfl | rfl | rfl | rfl
  · exact sum_send
  · exact sum_take
  · exact sum_up
  · exact sum_down)
theorem step_call {ps : Ps} {vs : List Value} {k p t : Int} {s : ByteArray} (h : PR ps vs) : ∃ vs', PR (stepP ps k p s) vs' ∧ ∀ B, CallH Try.prog 100 B 19 [p100, .agg ⟨acV ⟨k, p, t, s⟩⟩] (hp vs) (.returned (.tuple #[])) (hOf 100 [] [some (pob vs')]) := by
  have h0 : Is (gStep (real Try.prog) realP vs k p t s (fun v objs => ∃ vs', PR (stepP ps k p s) vs' ∧ v = .tuple #[] ∧ objs = [some (pob vs'), some (acB k p t s)])) := step_ok h (fun vs' h => ⟨vs', h, rfl, rfl⟩)
  obtain ⟨v, objs, ⟨vs', h1, h2, h3⟩, h4⟩ := callW kn_st lp_none (f := 19) (args := [p100, .agg ⟨acV ⟨k, p, t, s⟩⟩]) h0
  subst h2; subst h3
  refine ⟨vs', h1, fun B => call_gc (ins := [some (pob vs)]) (l := []) (h4 B) (names_mk rfl rfl rfl rfl ⟨rfl, h1.plain, trivial⟩)⟩
-- times
theorem conv53 (a : Int) (H : Heap) : aConvert Try.prog H 5 3 (.int .u8 a) = some (.int .i64 (IntKind.i64.wrap a), H) := by kernel_rfl
theorem times_ok {k p t : Int} {s : ByteArray} {K : RK} (hk : 0 ≤ k) (ht : 0 ≤ t ∧ t < 256) (h : K (.int .i64 (timesP k t)) [some (acB k p t s)]) : Is (gTimes (real Try.prog) k p t s K) := by
  refine ⟨?_⟩
  rw [gTimes_eq]
  refine n_rdI rfl (n_gtr (fun e => ?_) (fun e => ?_))
  · unfold timesP at h; rw [if_pos e] at h; exact h
  · unfold timesP at h; rw [if_neg e] at h
    refine n_rdI rfl (n_rem ht.1 (by omega) ⟨_, conv53 _, ?_⟩)
    rw [← wrapA_eq, wrap64 (by omega) (by omega)]
    exact n_add (by omega) (by omega) h
theorem times_call {k p t : Int} {s : ByteArray} (hk : 0 ≤ k) (ht : 0 ≤ t ∧ t < 256) (B : Base) : CallH Try.prog 100 B 11 [.agg ⟨acV ⟨k, p, t, s⟩⟩] (hOf 100 [] []) (.returned (.int .i64 (timesP k t))) (hOf 100 [] []) := by
  have h0 : Is (gTimes (real Try.prog) k p t s (fun v objs => v = .int .i64 (timesP k t) ∧ objs = [some (acB k p t s)])) := times_ok hk ht ⟨rfl, rfl⟩
  obtain ⟨v, objs, ⟨h2, h3⟩, h4⟩ := callW kn_none lp_none (f := 11) (args := [.agg ⟨acV ⟨k, p, t, s⟩⟩]) h0
  subst h2; subst h3
  exact call_gc (ins := []) (l := []) (h4 B) (names_mk rfl rfl rfl rfl trivial)
-- Copy
theorem copy_ok {ps : Ps} {vs : List Value} {K : RK} (h : PR ps vs) (hk : K p101 [some (pob vs), some (pob vs)]) : Is (gCopy (real Try.prog) vs K) := by
  refine ⟨?_⟩
  rw [gCopy_eq]
  have e : (vs.drop 0).take 560 = vs := by rw [List.drop_zero]; exact List.take_of_length_le (by rw [h.1]; omega)
  refine n_rdA (by rw [h.1]; omega) (by omega) ?_
  rw [e]
  refine n_wr h.1 h.isCell (Nat.le_of_ble_eq_true (by kernel_rfl)) ?_
  rw [splice_all (h.1.trans (by kernel_rfl))]
  exact hk
theorem copy_call {ps : Ps} {vs : List Value} (h : PR ps vs) (B : Base) : CallH Try.prog 100 B 21 [p100] (hp vs) (.returned p101) (hOf 100 [] [some (pob vs), some (pob vs)]) := by
  have h0 : Is (gCopy (real Try.prog) vs (fun v objs => v = p101 ∧ objs = [some (pob vs), some (pob vs)])) := copy_ok h ⟨rfl, rfl⟩
  obtain ⟨v, objs, ⟨h2, h3⟩, h4⟩ := callW kn_none lp_none (f := 21) (args := [p100]) h0
  subst h2; subst h3
  exact h4 B
-- New
theorem zq_get {n : Nat} : ∀ p i : Nat, p < n → i < 35 → (List.replicate n zq).flatten[p * 35 + i]? = zq[i]? := by
  induction n with
  | zero => intro p i hp; omega
  | succ n ih =>
    intro p i hp hi
    rw [List.replicate_succ, List.flatten_cons]
    have hz : zq.length = 35 := by decide
    cases p with
    | zero => rw [List.getElem?_append_left (by omega)]; congr 1; omega
    | succ p =>
      rw [List.getElem?_append_right (by omega), hz, ← ih p i (by omega) hi]; congr 1; omega
theorem PR.zeros : PR (fun _ => ⟨false, []⟩) zeros := by
  refine ⟨by kernel_rfl, fun p hp => ?_⟩
  have hz := fun i (hi : i < 35) => zq_get (n := 16) p i hp hi
  refine ⟨0, by omega, by simp, fun _ => rfl, hz 0 (by omega), hz 33 (by omega), hz 34 (by omega), fun i hi => ⟨bytesOf [], ?_⟩, fun i s hs => by simp at hs⟩
  refine (hz (1 + i) (by omega)).trans ?_
  unfold zq
  rw [Nat.add_comm 1 i, List.getElem?_cons_succ, List.getElem?_append_left (by simpa using hi), List.getElem?_replicate, if_pos hi]
theorem new_call (B : Base) : CallH Try.prog 100 B 10 [] (hOf 100 [] []) (.returned p100) (hOf 100 [] [some (pob zeros)]) := by
  have h0 : Is (gNew (real Try.prog) (fun v objs => v = p100 ∧ objs = [some (pob zeros)])) := ⟨by rw [gNew_eq]; exact ⟨rfl, rfl⟩⟩
  obtain ⟨v, objs, ⟨h2, h3⟩, h4⟩ := callW kn_none lp_none (f := 10) (args := []) h0
  subst h2; subst h3
  exact h4 B
-- All
theorem strV_plain (l : List ByteArray) : plainL (strV l) = true := by
  rw [plainL_iff]; intro v hv
  obtain ⟨s, _, rfl⟩ := List.mem_map.1 hv; rfl
theorem strV_len (l : List ByteArray) : (strV l).length = l.length := by simp [strV]
def I17 (vs : List Value) (n : Int) (l : List ByteArray) : Nat → List Value × List (Option AObj)
  | 0 => ([p100, i64 n, .slice none 0 0, i64 l.length, i64 0], [some (pob vs)])
  | i + 1 => ([p100, i64 n, sl 101 (i + 1), i64 l.length, i64 ((i + 1 : Nat) : Int)], [some (pob vs), some (arr (strV (l.take (i + 1))))])
def R17 (vs : List Value) (l : List ByteArray) (e : Exit) (v : List Value) (o : List (Option AObj)) : Prop :=
  e = .exit 0 ∧ ((l = [] ∧ v = [.slice none 0 0] ∧ o = [some (pob vs)]) ∨ (l ≠ [] ∧ v = [sl 101 l.length] ∧ o = [some (pob vs), some (arr (strV l))]))
theorem loop17 {ps : Ps} {vs : List Value} {n : Int} (h : PR ps vs) (c : Code) (hc : c = loopIn Try.prog 17 3) {N : Nat} (hN : N = 25) {vals : List Value} {hh : Heap} (hv : vals = (I17 vs n (listP ps n) 0).1)
    (ho : objsOf 100 hh = [some (pob vs)]) (hle : 100 ≤ hh.next) : ∃ e v o, R17 vs (listP ps n) e v o ∧ ∀ B, Holds Try.prog 100 B (.loop false c ⟨tmOf N live17 vals, [], hh, .run⟩) (.ex e (stOf 100 N [5] (v, o))) := by
  subst hc; subst hN
  generalize hl : listP ps n = l at *
  -- where the port is none there is nothing
  have hin : l ≠ [] → ∃ p : Nat, p < 16 ∧ n = (p : Int) + 1 ∧ l = (ps p).l := by
    intro hne
    by_cases hn : 1 ≤ n ∧ n ≤ 16
    · obtain ⟨p, hp, rfl⟩ := port_of (n := n) (by omega) (by omega)
      refine ⟨p, hp, rfl, ?_⟩
      rw [← hl]; unfold listP; rw [atPort_in hp]
    · exact absurd (by rw [← hl]; unfold listP; rw [atPort_out hn]) hne
  have hlen : l.length ≤ 32 := by
    by_cases hne : l = []
    · rw [hne]; simp
    · obtain ⟨p, hp, _, e⟩ := hin hne
      obtain ⟨f, g1, g2, _⟩ := h.2 p hp
      rw [e]; exact g2
  -- the next frame
  have hget : ∀ i, i < l.length → ∃ p f : Nat, ∃ s, p < 16 ∧ n = (p : Int) + 1 ∧ f < 32 ∧ vs[p * 35 + 33]? = some (.int .i64 f) ∧ l[i]? = some s ∧ vs[p * 35 + (1 + (f + i) % 32)]? = some (.string s) := by
    intro i hi
    obtain ⟨p, hp, hn, e⟩ := hin (by intro e; rw [e] at hi; simp at hi)
    obtain ⟨f, g1, g2, g3, c0, c33, c34, cs, cl⟩ := h.2 p hp
    exact ⟨p, f, l[i], hp, hn, g1, c33, by simp, cl i l[i] (by rw [← e]; simp)⟩
  obtain ⟨e, v, o, h1, h2⟩ := lp_rule (P := Try.prog) (G := 100) (W := W17) (fuel := 300) (N := 25) (k0 := 1) (live := live17) (live2 := [5]) (c := loopIn Try.prog 17 3) okp kn_none lp_none (α := { i : Nat // i ≤ l.length }) (fun i => l.length - i.1)
    (fun i => I17 vs n l i.1) (R17 vs l) (by
      rintro ⟨i, hi⟩
      cases i with
      | zero =>
        have hg := gAll0_eq (real Try.prog) vs n l.length 0
        unfold gAll0 at hg
        refine ⟨?_⟩
        show wpe _ _ _ _ _ _
        rw [show stOf 100 25 live17 (I17 vs n l 0) = stOf 100 25 live17 ([p100, i64 n, .slice none 0 0, i64 l.length, i64 0], [some (pob vs)]) from rfl, hg]
        refine n_lss (fun h1 => ?_) (fun h1 => ?_)
        · obtain ⟨p, f, s, hp, rfl, hf, k1, k2, k3⟩ := hget 0 (by omega)
          refine n_lss (fun _ => by omega) (fun _ => n_gtr (fun _ => by omega) (fun _ => n_sub (by omega) (by omega) (n_idx p (by omega) hp ?_)))
          rw [Nat.zero_add]
          refine n_rdI k1 (n_add (by omega) (by omega) (n_rem (by omega) (by omega) (n_idx f (by omega) (by omega) (n_rdS (z := s) ?_ (n_add (by omega) (by omega) ?_)))))
          · rw [← k3]; congr 1; omega
          · refine ⟨⟨1, by omega⟩, [102], by simp; omega, names_mk rfl rfl rfl rfl ⟨rfl, h.plain, ?_, strV_plain _, trivial⟩⟩
            have : l.take (0 + 1) = [s] := by
              cases l with
              | nil => simp at k2
              | cons x l => simp at k2 ⊢; exact k2
            simp only [this]; rfl
        · have e : l = [] := List.length_eq_zero_iff.1 (by omega)
          exact ⟨[], [.slice none 0 0], [some (pob vs)], names_mk rfl rfl rfl rfl ⟨rfl, h.plain, trivial⟩, rfl, .inl ⟨e, rfl, rfl⟩⟩
      | succ i =>
        have hg := gAll1_eq (real Try.prog) vs (strV (l.take (i + 1))) (i + 1) n l.length ((i + 1 : Nat) : Int)
        unfold gAll1 at hg
        refine ⟨?_⟩
        show wpe _ _ _ _ _ _
        rw [show stOf 100 25 live17 (I17 vs n l (i + 1)) = stOf 100 25 live17 ([p100, i64 n, .slice (some ⟨101, 0, none⟩) (i + 1) (i + 1), i64 l.length, i64 ((i + 1 : Nat) : Int)], [some (pob vs), some (arr (strV (l.take (i + 1))))]) from rfl, hg]
        refine n_lss (fun h1 => ?_) (fun h1 => ?_)
        · obtain ⟨p, f, s, hp, rfl, hf, k1, k2, k3⟩ := hget (i + 1) (by omega)
          refine n_lss (fun _ => by omega) (fun _ => n_gtr (fun _ => by omega) (fun _ => n_sub (by omega) (by omega) (n_idx p (by omega) hp ?_)))
          rw [Nat.zero_add]
          refine n_rdI k1 (n_add (by omega) (by omega) (n_rem (by omega) (by omega) (n_idx ((f + (i + 1)) % 32) (by omega) (by omega) (n_rdS (z := s) ?_ ?_))))
          · rw [← k3]; congr 1; omega
          · have ht : (l.take (i + 1)).length = i + 1 := by rw [List.length_take]; omega
            refine ⟨_, _, by omega, rfl, rfl, by omega, by unfold tops; omega, by omega, by omega, ?_, by omega, by omega, rfl, rfl, n_add (by omega) (by omega) ?_⟩
            · rw [strV_len, ht]; omega
            · refine ⟨⟨i + 2, by omega⟩, [103], by simp; omega, names_mk rfl rfl rfl rfl ⟨rfl, h.plain, ?_, strV_plain _, trivial⟩⟩
              have e1 : l.take (i + 1 + 1) = l.take (i + 1) ++ [s] := by rw [List.take_add_one, k2]; rfl
              have e2 : ((strV (l.take (i + 1))).drop 0).take ((i + 1) * 1) ++ [Value.string s] = strV (l.take (i + 1 + 1)) := by
                rw [e1, List.drop_zero, List.take_of_length_le (by rw [strV_len, ht]; omega)]; simp [strV]
              rw [← e2]; rfl
        · have e : l.take (i + 1) = l := List.take_of_length_le (by omega)
          have e2 : i + 1 = l.length := by omega
          refine ⟨[101], [sl 101 l.length], [some (pob vs), some (arr (strV l))], names_mk ?_ rfl rfl rfl ⟨rfl, h.plain, ?_, strV_plain _, trivial⟩, rfl, .inr ⟨fun e => ?_, rfl, rfl⟩⟩
          · rw [e2]; rfl
          · rw [e]; rfl
          · rw [e] at e2; simp at e2)
    ⟨0, Nat.zero_le _⟩ rfl (vals := vals) (h := hh) hv ho hle
  exact ⟨e, v, o, h1, h2⟩
end
end Go.Proofs.Ytknplaghilagfaa.Po
