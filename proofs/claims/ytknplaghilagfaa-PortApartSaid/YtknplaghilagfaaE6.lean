/- Summaries of the further functions: All, Same, long, awake, New, Copy, times, step. -/
import Derived.Test.YtknplaghilagfaaE5
namespace Go.Proofs.Ytknplaghilagfaa.Po
open Go Go.Abs
set_option linter.unusedVariables false
noncomputable section
-- All
def L17 : Code → Nat → List Value → List Value → Prop → (List Value → Nat → Prop) → Prop := fun c N vals vs Z K =>
  ∃ ps n, PR ps vs ∧ c = loopIn Try.prog 17 3 ∧ N = 25 ∧ vals = (I17 vs n (listP ps n) 0).1 ∧ (listP ps n = [] → Z) ∧ (listP ps n ≠ [] → K (strV (listP ps n)) (listP ps n).length)
theorem next_of {h : Heap} {o : Option AObj} {l : List (Option AObj)} (e : objsOf 100 h = o :: l) : 100 ≤ h.next := by
  have := objsOf_len 100 h
  rw [e] at this; simp at this; omega
theorem loopOk17 : LoopOk Try.prog 100 live17 (sLoop17 L17) := by
  intro c N vals h Q hS
  unfold sLoop17 at hS
  split at hS
  · rename_i vs ho
    obtain ⟨ps, n, hp, hc, hN, hv, hz, hk⟩ := hS
    obtain ⟨e, v, o, ⟨he, hr⟩, h2⟩ := loop17 hp c hc hN hv ho (next_of ho)
    subst he
    rcases hr with ⟨q1, q2, q3⟩ | ⟨q1, q2, q3⟩ <;> subst q2 <;> subst q3
    · exact ⟨_, h2, hz q1⟩
    · exact ⟨_, h2, hk q1⟩
  · exact hS.elim
theorem all_ok {ps : Ps} {vs : List Value} {n : Int} {K : RK} (h : PR ps vs) (hz : listP ps n = [] → K (.slice none 0 0) [some (pob vs)])
    (hk : listP ps n ≠ [] → K (sl 101 (listP ps n).length) [some (pob vs), some (arr (strV (listP ps n)))]) : Is (gAll (real Try.prog) L17 vs n K) := by
  refine ⟨?_⟩
  rw [gAll_eq]
  refine n_lss (fun h1 => ?_) (fun h1 => n_gtr (fun h2 => ?_) (fun h2 => ?_))
  · have e : listP ps n = [] := by unfold listP; rw [atPort_out (by omega)]
    exact ⟨ps, n, h, rfl, rfl, by rw [e]; rfl, hz, hk⟩
  · have e : listP ps n = [] := by unfold listP; rw [atPort_out (by omega)]
    exact ⟨ps, n, h, rfl, rfl, by rw [e]; rfl, hz, hk⟩
  · obtain ⟨p, hp, rfl⟩ := port_of h1 h2
    obtain ⟨f, g1, g2, g3, c0, c33, c34, cs, cl⟩ := h.2 p hp
    have e : listP ps ((p : Int) + 1) = (ps p).l := by unfold listP; rw [atPort_in hp]
    refine n_sub (by omega) (by omega) (n_idx p (by omega) hp ?_)
    rw [Nat.zero_add]
    exact n_rdI c34 ⟨ps, _, h, rfl, rfl, by rw [e]; rfl, hz, hk⟩
theorem all_call {ps : Ps} {vs : List Value} {n : Int} (h : PR ps vs) :
    (listP ps n = [] ∧ ∀ B, CallH Try.prog 100 B 17 [p100, i64 n] (hp vs) (.returned (.slice none 0 0)) (hOf 100 [] [some (pob vs)])) ∨
    (listP ps n ≠ [] ∧ ∀ B, CallH Try.prog 100 B 17 [p100, i64 n] (hp vs) (.returned (sl 101 (listP ps n).length)) (hOf 100 [] [some (pob vs), some (arr (strV (listP ps n)))])) := by
  have h0 : Is (gAll (real Try.prog) L17 vs n (fun v objs => (listP ps n = [] ∧ v = .slice none 0 0 ∧ objs = [some (pob vs)]) ∨ (listP ps n ≠ [] ∧ v = sl 101 (listP ps n).length ∧ objs = [some (pob vs), some (arr (strV (listP ps n)))]))) :=
    all_ok h (fun e => .inl ⟨e, rfl, rfl⟩) (fun e => .inr ⟨e, rfl, rfl⟩)
  obtain ⟨v, objs, hk, h4⟩ := callW kn_none (lp_ok (l := [(3, (live17, sLoop17 L17))]) (by
    intro x hx; simp only [List.mem_cons, List.not_mem_nil, or_false] at hx; subst hx; exact loopOk17)) (f := 17) (args := [p100, i64 n]) h0
  rcases hk with ⟨q1, q2, q3⟩ | ⟨q1, q2, q3⟩ <;> subst q2 <;> subst q3
  · exact .inl ⟨q1, h4⟩
  · exact .inr ⟨q1, h4⟩
def sAll (M : PN) : List Value → Heap → VK → Prop
  | [.pointer (some a), .int .i64 n], H, K => opt (pobAt H a) fun vs => M.all vs n (K (.slice none 0 0) (H.put a.block (some (pob vs)))) (fun l len => K (.slice (some ⟨H.next, 0, none⟩) len len) ((H.put a.block (some (pob vs))).push (arr l)))
  | _, _, _ => False
theorem sum_all : SumOk Try.prog 100 17 (sAll realP) := by
  intro args H K h
  unfold sAll at h
  split at h
  · rename_i a n
    obtain ⟨vs, hat, ps, hps, hz, hk⟩ := opt_elim h
    rcases all_call (n := n) hps with ⟨e, h4⟩ | ⟨e, h4⟩
    · exact ⟨_, _, fun B => port_call h4 hps.plain hps.plain rfl rfl hat B, hz e⟩
    · refine ⟨_, _, fun B => ?_, hk e⟩
      obtain ⟨g1, g2, g3⟩ := pobAt_ok hat
      have := lift (ins := [pob vs]) (upd := [some (pob vs)]) (new := [arr (strV (listP ps n))]) rfl rfl h4 (H := H) (ns := [a.block]) rfl (by simp) (by simpa [plainO, pob] using hps.plain) (by simpa [plainO, pob] using hps.plain)
        (by simpa [plainO, arr] using strV_plain _)
        (fun i o hi => by
          cases i with
          | zero => simp only [List.getElem?_cons_zero, Option.some.injEq] at hi; subst hi; exact ⟨_, rfl, g1, g3⟩
          | succ i => simp at hi) B
      simp only [vrenL, vren, p100, i64, sl] at this
      rw [tau_in (n := 100) (m := a.block) (by omega) rfl, tau_new (n := 101) (by simp)] at this
      rw [g2]
      exact this
  · exact h.elim
-- New, Copy, times, step, awake
def sNew (M : PN) : List Value → Heap → VK → Prop
  | [], H, K => M.new fun vs => K (.pointer (some ⟨H.next, 0, none⟩)) (H.push (pob vs))
  | _, _, _ => False
theorem sum_new : SumOk Try.prog 100 10 (sNew realP) := by
  intro args H K h
  unfold sNew at h
  split at h
  · refine ⟨_, _, fun B => ?_, h zeros PR.zeros⟩
    have := lift (ins := []) (upd := []) (new := [pob zeros]) rfl rfl new_call (H := H) (ns := []) rfl (by simp) (by simp) (by simp) (by simpa [plainO, pob] using PR.zeros.plain) (fun i o hi => by simp at hi) B
    simp only [vrenL, vren, p100] at this
    rw [tau_new (n := 100) (by simp)] at this
    exact this
  · exact h.elim
def sCopy (M : PN) : List Value → Heap → VK → Prop
  | [.pointer (some a)], H, K => opt (pobAt H a) fun vs => M.copy vs fun vs' => K (.pointer (some ⟨H.next, 0, none⟩)) ((H.put a.block (some (pob vs))).push (pob vs'))
  | _, _, _ => False
theorem sum_copy : SumOk Try.prog 100 21 (sCopy realP) := by
  intro args H K h
  unfold sCopy at h
  split at h
  · rename_i a
    obtain ⟨vs, hat, ps, hps, hk⟩ := opt_elim h
    refine ⟨_, _, fun B => ?_, hk⟩
    obtain ⟨g1, g2, g3⟩ := pobAt_ok hat
    have := lift (ins := [pob vs]) (upd := [some (pob vs)]) (new := [pob vs]) rfl rfl (copy_call hps) (H := H) (ns := [a.block]) rfl (by simp) (by simpa [plainO, pob] using hps.plain) (by simpa [plainO, pob] using hps.plain)
      (by simpa [plainO, pob] using hps.plain)
      (fun i o hi => by
        cases i with
        | zero => simp only [List.getElem?_cons_zero, Option.some.injEq] at hi; subst hi; exact ⟨_, rfl, g1, g3⟩
        | succ i => simp at hi) B
    simp only [vrenL, vren, p100, p101] at this
    rw [tau_in (n := 100) (m := a.block) (by omega) rfl, tau_new (n := 101) (by simp)] at this
    rw [g2]
    exact this
  · exact h.elim
def sTimes (M : PN) : List Value → Heap → VK → Prop
  | [.agg ⟨[.int .u8 k, .int .i64 p, .int .u8 t, .string s]⟩], H, K => M.times k p t s fun z => K (.int .i64 z) H
  | _, _, _ => False
theorem sum_times : SumOk Try.prog 100 11 (sTimes realP) := by
  intro args H K h
  unfold sTimes at h
  split at h
  · rename_i k p t s
    obtain ⟨⟨h1, h2, h3⟩, hk⟩ := h
    refine ⟨_, _, fun B => ?_, hk⟩
    have := lift (ins := []) (upd := []) (new := []) rfl rfl (times_call (k := k) (p := p) (t := t) (s := s) h1 ⟨h2, h3⟩) (H := H) (ns := []) rfl (by simp) (by simp) (by simp) (by simp) (fun i o hi => by simp at hi) B
    exact this
  · exact h.elim
def sStep (M : PN) : List Value → Heap → VK → Prop
  | [.pointer (some a), .agg ⟨[.int .u8 k, .int .i64 p, .int .u8 t, .string s]⟩], H, K => opt (pobAt H a) fun vs => M.step vs k p t s fun vs' => K (.tuple #[]) (H.put a.block (some (pob vs')))
  | _, _, _ => False
theorem sum_step : SumOk Try.prog 100 19 (sStep realP) := by
  intro args H K h
  unfold sStep at h
  split at h
  · obtain ⟨vs, hat, ps, hps, hk⟩ := opt_elim h
    obtain ⟨vs', h1, h4⟩ := step_call hps
    exact ⟨_, _, fun B => port_call h4 hps.plain h1.plain rfl rfl hat B, hk vs' h1⟩
  · exact h.elim
set_option maxRecDepth 100000 in
theorem awake_ran : Abs.retTrue (Abs.ev Try.prog (fun _ => none) 10000 (.call 9 [] (hOf 100 [] []))) = true := by kernel_rfl
theorem awake_call (B : Base) : CallH Try.prog 100 B 9 [] (hOf 100 [] []) (.returned (.bool true)) (hOf 100 [] []) := by
  have h := awake_ran
  unfold retTrue at h
  split at h
  · rename_i u h' he
    have h1 : CallH Try.prog 100 B 9 [] (hOf 100 [] []) (.returned (.bool true)) h' := ev_ok okp (fun f g args h e h' hh => by cases hh) _ _ _ he
    have hle : 100 ≤ h'.next ∨ h'.next < 100 := by omega
    rcases hle with hle | hle
    · exact call_gc (ins := []) (l := []) (call_objs hle h1) (names_mk rfl rfl rfl (Nat.ble_eq_true_of_le (by simp)) trivial)
    · intro F w args' R ha
      exact (h1 F w args' R ha).mono fun e' w' ⟨F', k1, k2, R'⟩ => by have := R'.next_le; omega
  · cases h
def sAwake : List Value → Heap → VK → Prop
  | [], H, K => K (.bool true) H
  | _, _, _ => False
theorem sum_awake : SumOk Try.prog 100 9 sAwake := by
  intro args H K h
  unfold sAwake at h
  split at h
  · refine ⟨_, _, fun B => ?_, h⟩
    exact lift (ins := []) (upd := []) (new := []) rfl rfl awake_call (H := H) (ns := []) rfl (by simp) (by simp) (by simp) (by simp) (fun i o hi => by simp at hi) B
  · exact h.elim
-- Same
def R16 (a b : List ByteArray) (e : Exit) (v : List Value) (o : List (Option AObj)) : Prop :=
  v = [.bool false] ∧ o = [some (arr (strV a)), some (arr (strV b))] ∧ ((e = .exit 0 ∧ a = b) ∨ (e = .ret ∧ a ≠ b))
def I16 (a b : List ByteArray) (i : Nat) : List Value × List (Option AObj) := ([sl 100 a.length, sl 101 b.length, i64 i, .bool false], [some (arr (strV a)), some (arr (strV b))])
theorem strV_get (l : List ByteArray) (i : Nat) : (strV l)[i]? = (l[i]?).map .string := by simp [strV]
theorem loop16 {a b : List ByteArray} (hab : a.length = b.length) (hlen : a.length < 2 ^ 40) (c : Code) (hc : c = loopIn Try.prog 16 4) {N : Nat} (hN : N = 26) {vals : List Value} {hh : Heap} (hv : vals = (I16 a b 0).1)
    (ho : objsOf 100 hh = [some (arr (strV a)), some (arr (strV b))]) (hle : 100 ≤ hh.next) : ∃ e v o, R16 a b e v o ∧ ∀ B, Holds Try.prog 100 B (.loop false c ⟨tmOf N live16 vals, [], hh, .run⟩) (.ex e (stOf 100 N [4] (v, o))) := by
  subst hc; subst hN
  exact lp_rule (P := Try.prog) (G := 100) (W := W16) (fuel := 300) (N := 26) (k0 := 2) (live := live16) (live2 := [4]) (c := loopIn Try.prog 16 4) okp kn_none lp_none (α := { i : Nat // i ≤ a.length ∧ ∀ j, j < i → a[j]? = b[j]? }) (fun i => a.length - i.1)
    (fun i => I16 a b i.1) (R16 a b) (by
      rintro ⟨i, hi, heq⟩
      have hg := gSameB_eq (real Try.prog) (strV a) (strV b) a.length b.length (i : Int)
      unfold gSameB at hg
      refine ⟨?_⟩
      show wpe _ _ _ _ _ _
      rw [show stOf 100 26 live16 (I16 a b i) = stOf 100 26 live16 ([sl 100 a.length, sl 101 b.length, i64 i, .bool false], [some (arr (strV a)), some (arr (strV b))]) from rfl, hg]
      refine n_lss (fun h1 => ?_) (fun h1 => ?_)
      · have h1' : i < a.length := by have : (Int.ofNat a.length) = (a.length : Int) := rfl; omega
        have h2' : i < b.length := by omega
        refine n_idx i rfl h1' ?_
        rw [Nat.zero_add, Nat.mul_one]
        refine n_rdS (z := a[i]) (by rw [strV_get]; simp [h1']) (n_idx i rfl h2' ?_)
        rw [Nat.zero_add, Nat.mul_one]
        refine n_rdS (z := b[i]) (by rw [strV_get]; simp [h2']) (n_scmp_ne (fun hne => ?_) (fun he => n_add (by omega) (by omega) ?_))
        · refine ⟨[], [.bool false], [some (arr (strV a)), some (arr (strV b))], names_mk rfl rfl rfl rfl ⟨rfl, strV_plain _, rfl, strV_plain _, trivial⟩, rfl, rfl, .inr ⟨rfl, fun e => ?_⟩⟩
          subst e; exact hne rfl
        · refine ⟨⟨i + 1, by omega, fun j hj => ?_⟩, [], by simp; omega, names_mk rfl rfl rfl rfl ⟨rfl, strV_plain _, rfl, strV_plain _, trivial⟩⟩
          by_cases hji : j = i
          · subst hji; rw [List.getElem?_eq_getElem h1', List.getElem?_eq_getElem h2', bytes_ext he]
          · exact heq j (by omega)
      · have h1' : i = a.length := by have : (Int.ofNat a.length) = (a.length : Int) := rfl; omega
        refine ⟨[], [.bool false], [some (arr (strV a)), some (arr (strV b))], names_mk rfl rfl rfl rfl ⟨rfl, strV_plain _, rfl, strV_plain _, trivial⟩, rfl, rfl, .inl ⟨rfl, ?_⟩⟩
        apply List.ext_getElem?
        intro j
        by_cases hj : j < i
        · exact heq j hj
        · rw [List.getElem?_eq_none (by omega), List.getElem?_eq_none (by omega)])
    ⟨0, Nat.zero_le _, fun j hj => by omega⟩ rfl (vals := vals) (h := hh) hv ho hle
def L16 : Code → Nat → List Value → List Value → List Value → Prop → Prop → Prop := fun c N vals xs ys T F =>
  ∃ a b, xs = strV a ∧ ys = strV b ∧ a.length = b.length ∧ a.length < 2 ^ 40 ∧ c = loopIn Try.prog 16 4 ∧ N = 26 ∧ vals = (I16 a b 0).1 ∧ (a = b → T) ∧ (a ≠ b → F)
theorem loopOk16 : LoopOk Try.prog 100 live16 (sLoop16 L16) := by
  intro c N vals h Q hS
  unfold sLoop16 at hS
  split at hS
  · rename_i xs ys ho
    obtain ⟨a, b, hx, hy, hab, hl, hc, hN, hv, hT, hF⟩ := hS
    subst hx; subst hy
    obtain ⟨e, v, o, ⟨q1, q2, q3⟩, h2⟩ := loop16 hab hl c hc hN hv ho (next_of ho)
    subst q1; subst q2
    rcases q3 with ⟨q4, q5⟩ | ⟨q4, q5⟩ <;> subst q4
    · exact ⟨_, h2, hT q5⟩
    · exact ⟨_, h2, hF q5⟩
  · exact hS.elim
theorem same_ok {a b : List ByteArray} {K : RK} (hl : a.length < 2 ^ 40) (hT : a = b → K (.bool true) [some (arr (strV a)), some (arr (strV b))]) (hF : a ≠ b → K (.bool false) [some (arr (strV a)), some (arr (strV b))]) :
    Is (gSame (real Try.prog) L16 (strV a) (strV b) a.length b.length K) := by
  refine ⟨?_⟩
  rw [gSame_eq]
  refine n_neq (fun h => hF ?_) (fun h => ⟨a, b, rfl, rfl, ?_, hl, rfl, rfl, rfl, hT, hF⟩)
  · intro e; subst e; exact h rfl
  · exact Int.ofNat.inj h
theorem same_call {a b : List ByteArray} (hl : a.length < 2 ^ 40) (B : Base) : CallH Try.prog 100 B 16 [sl 100 a.length, sl 101 b.length] (hOf 100 [] [some (arr (strV a)), some (arr (strV b))]) (.returned (.bool (decide (a = b)))) (hOf 100 [] [some (arr (strV a)), some (arr (strV b))]) := by
  have h0 : Is (gSame (real Try.prog) L16 (strV a) (strV b) a.length b.length (fun v objs => v = .bool (decide (a = b)) ∧ objs = [some (arr (strV a)), some (arr (strV b))])) :=
    same_ok hl (fun e => ⟨by simp [e], rfl⟩) (fun e => ⟨by simp [e], rfl⟩)
  obtain ⟨v, objs, ⟨h2, h3⟩, h4⟩ := callW kn_none (lp_ok (l := [(4, (live16, sLoop16 L16))]) (by
    intro x hx; simp only [List.mem_cons, List.not_mem_nil, or_false] at hx; subst hx; exact loopOk16)) (f := 16) (args := [sl 100 a.length, sl 101 b.length]) h0
  subst h2; subst h3
  exact h4 B
theorem same0_call (B : Base) : CallH Try.prog 100 B 16 [.slice none 0 0, .slice none 0 0] (hOf 100 [] []) (.returned (.bool true)) (hOf 100 [] []) := by
  have h0 : Is (gSame0 (real Try.prog) (fun v objs => v = .bool true ∧ objs = [])) := ⟨by rw [gSame0_eq]; exact n_neq (fun h => absurd rfl h) (fun _ => n_lss (fun h => by omega) (fun _ => ⟨rfl, rfl⟩))⟩
  obtain ⟨v, objs, ⟨h2, h3⟩, h4⟩ := callW kn_none lp_none (f := 16) (args := [.slice none 0 0, .slice none 0 0]) h0
  subst h2; subst h3
  exact h4 B
theorem same1_call {a : List ByteArray} (B : Base) : CallH Try.prog 100 B 16 [sl 100 a.length, .slice none 0 0] (hOf 100 [] [some (arr (strV a))]) (.returned (.bool (decide (a = [])))) (hOf 100 [] [some (arr (strV a))]) := by
  have h0 : Is (gSame1 (real Try.prog) (strV a) a.length (fun v objs => v = .bool (decide (a = [])) ∧ objs = [some (arr (strV a))])) := by
    refine ⟨?_⟩
    rw [gSame1_eq]
    refine n_neq (fun h => ?_) (fun h => ?_)
    · have : ¬ a = [] := fun e => h (by rw [e]; rfl)
      exact ⟨by simp [this], rfl⟩
    · have e : a = [] := List.length_eq_zero_iff.1 (Int.ofNat.inj h)
      subst e
      exact n_lss (fun h => by simp at h) (fun _ => ⟨rfl, rfl⟩)
  obtain ⟨v, objs, ⟨h2, h3⟩, h4⟩ := callW kn_none lp_none (f := 16) (args := [sl 100 a.length, .slice none 0 0]) h0
  subst h2; subst h3
  exact h4 B
theorem same2_call {a : List ByteArray} (B : Base) : CallH Try.prog 100 B 16 [.slice none 0 0, sl 100 a.length] (hOf 100 [] [some (arr (strV a))]) (.returned (.bool (decide (a = [])))) (hOf 100 [] [some (arr (strV a))]) := by
  have h0 : Is (gSame2 (real Try.prog) (strV a) a.length (fun v objs => v = .bool (decide (a = [])) ∧ objs = [some (arr (strV a))])) := by
    refine ⟨?_⟩
    rw [gSame2_eq]
    refine n_neq (fun h => ?_) (fun h => ?_)
    · have : ¬ a = [] := fun e => h (by rw [e]; rfl)
      exact ⟨by simp [this], rfl⟩
    · have e : a = [] := List.length_eq_zero_iff.1 (Int.ofNat.inj h.symm)
      subst e
      exact n_lss (fun h => by omega) (fun _ => ⟨rfl, rfl⟩)
  obtain ⟨v, objs, ⟨h2, h3⟩, h4⟩ := callW kn_none lp_none (f := 16) (args := [.slice none 0 0, sl 100 a.length]) h0
  subst h2; subst h3
  exact h4 B
end
end Go.Proofs.Ytknplaghilagfaa.Po
