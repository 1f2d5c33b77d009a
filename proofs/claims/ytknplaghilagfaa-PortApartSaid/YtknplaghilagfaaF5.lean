/- PortEach: what its code asks is so. -/
import Derived.Test.YtknplaghilagfaaF4
namespace Go.Proofs.Ytknplaghilagfaa.Po
open Go Go.Abs
set_option linter.unusedVariables false
noncomputable section
/-- How a slice of acts comes in: nil; of no room; with acts. -/
def SlOf (b : Nat) (sv : Value) (oa : Option AObj) (l : List Ac) : Prop :=
  (sv = .slice none 0 0 ∧ l = []) ∨ (∃ sp, sv = .slice (some ⟨b, 0, sp⟩) 0 0 ∧ l = []) ∨ ∃ cp, sv = .slice (some ⟨b, 0, none⟩) l.length cp ∧ oa = some (acs (acsV l)) ∧ WF l ∧ l.length ≤ 9223372036854775807
def realLV : Value → List (Option AObj) → Prop → Prop → Prop := fun x objs T F => (∃ b oa l, 100 ≤ b ∧ objs[b - 100]? = some oa ∧ SlOf b x oa l) ∧ T ∧ F
theorem call_same {f : FuncId} {args : List Value} {H H1 H2 : Heap} {v : Value} {B : Base} (h : CallH Try.prog 100 B f args H (.returned v) H1) (hg : ∀ n, H2.get n = H1.get n) (hn : H2.next = H1.next) : CallH Try.prog 100 B f args H (.returned v) H2 := by
  intro F w args' R ha
  exact (h F w args' R ha).mono fun e' w' ⟨F', h1, h2, R'⟩ => ⟨F', h1, h2, R'.congr hg hn⟩
theorem long_empty {f : FuncId} {args : List Value} {H : Heap} (h : Is (wpe Try.prog (real Try.prog) (WR realP) 60 (.call f args H) (fun r => ∃ t : Bool, r = .en (.returned (.bool t)) .run H))) : ∃ t : Bool, ∀ B, CallH Try.prog 100 B f args H (.returned (.bool t)) H := by
  obtain ⟨r, h1, t, h2⟩ := wpe_ok okp kn_R lp_none _ _ _ h.out
  subst h2
  exact ⟨t, h1⟩
theorem sum_longV : SumOk Try.prog 100 8 (sLongV realLV) := by
  intro args H K h
  unfold sLongV at h
  split at h
  · rename_i x
    obtain ⟨⟨b, oa, l, hb, ho, hs⟩, hT, hF⟩ := h
    have key : ∀ t : Bool, K (.bool t) H := fun t => by cases t; exact hF; exact hT
    rcases hs with ⟨rfl, hl⟩ | ⟨sp, rfl, hl⟩ | ⟨cp, rfl, hoa, hw, hlen⟩
    · obtain ⟨t, ht⟩ := long_empty (f := 8) (args := [.slice none 0 0]) (H := H) ⟨by
        have hg := gLongN_eq (real Try.prog) H
        unfold gLongN at hg
        rw [hg]
        exact n_lss (fun h => absurd h (by omega)) (fun _ => n_geq (fun _ => ⟨true, rfl⟩) (fun _ => ⟨false, rfl⟩))⟩
      exact ⟨_, H, ht, key t⟩
    · obtain ⟨t, ht⟩ := long_empty (f := 8) (args := [.slice (some ⟨b, 0, sp⟩) 0 0]) (H := H) ⟨by
        have hg := gLongZ_eq (real Try.prog) b sp H
        unfold gLongZ at hg
        rw [hg]
        exact n_lss (fun h => absurd h (by omega)) (fun _ => n_geq (fun _ => ⟨true, rfl⟩) (fun _ => ⟨false, rfl⟩))⟩
      exact ⟨_, H, ht, key t⟩
    · subst hoa
      obtain ⟨t, h4⟩ := long_call (l := l) (cp := cp) hlen
      have hget : H.get b = some (acs (acsV l)) := by
        rw [objsOf_get] at ho
        split at ho
        · simp only [Option.some.injEq] at ho
          rw [← ho]; congr 1; omega
        · cases ho
      refine ⟨.bool t, H, fun B => ?_, key t⟩
      have := lift (ins := [acs (acsV l)]) (upd := [some (acs (acsV l))]) (new := []) rfl rfl h4 (H := H) (ns := [b]) rfl (by simp) (by simpa [plainO, acs] using acsV_plain l) (by simpa [plainO, acs] using acsV_plain l) (by simp)
        (fun i o hi => by
          cases i with
          | zero => simp only [List.getElem?_cons_zero, Option.some.injEq] at hi; subst hi; exact ⟨_, rfl, hb, hget⟩
          | succ i => simp at hi) B
      simp only [vrenL, vren, asl] at this
      rw [tau_in (n := 100) (m := b) (by omega) rfl] at this
      refine call_same this (fun n => ?_) rfl
      show H.get n = (H.put b (some (acs (acsV l)))).get n
      rw [Heap.get_put]; split
      · rename_i e; rw [e]; exact hget
      · rfl
  · exact h.elim
theorem all_okV : ∀ x ∈ knV realLV realP, SumOk Try.prog 100 x.1 x.2 := by
  intro x hx
  rcases List.mem_cons.1 hx with rfl | hx
  · exact sum_longV
  · exact rest_ok' x hx
-- a step is a step of one port
def stepF (k : Int) (s : ByteArray) (q : Pt) : Pt := if k = 0 then (sendF s q).2 else if k = 1 then (takeF q).2 else if k = 2 then (upF q).2 else (downF q).2
theorem stepP_in {ps : Ps} {p : Nat} (hp : p < 16) (k : Int) (s : ByteArray) : stepP ps k ((p : Int) + 1) s = upd ps p (stepF k s (ps p)) := by
  unfold stepP stepF sendP takeP upP downP
  rw [atPort_in hp, atPort_in hp, atPort_in hp, atPort_in hp]
  split
  · rfl
  · split
    · rfl
    · split <;> rfl
theorem stepP_out {ps : Ps} {n : Int} (h : ¬ (1 ≤ n ∧ n ≤ 16)) (k : Int) (s : ByteArray) : stepP ps k n s = ps := by
  unfold stepP sendP takeP upP downP
  rw [atPort_out h, atPort_out h, atPort_out h, atPort_out h]
  split
  · rfl
  · split
    · rfl
    · split <;> rfl
/-- One is the other's port x, alone. -/
def J (x : Int) (A B : Ps) : Prop := ∀ q : Nat, q < 16 → ((q : Int) + 1 = x → B q = A q) ∧ ((q : Int) + 1 ≠ x → B q = ⟨false, []⟩)
theorem J.both {x : Int} {A B : Ps} (h : J x A B) (k : Int) (s : ByteArray) : J x (stepP A k x s) (stepP B k x s) := by
  by_cases hx : 1 ≤ x ∧ x ≤ 16
  · obtain ⟨p, hp, rfl⟩ := port_of (n := x) (by omega) (by omega)
    rw [stepP_in hp, stepP_in hp]
    intro q hq
    obtain ⟨h1, h2⟩ := h q hq
    unfold upd
    by_cases e : q = p
    · subst e; rw [if_pos rfl, if_pos rfl, h1 rfl]; exact ⟨fun _ => rfl, fun h => absurd rfl h⟩
    · rw [if_neg e, if_neg e]; exact ⟨h1, h2⟩
  · rw [stepP_out hx, stepP_out hx]; exact h
theorem J.one {x : Int} {A B : Ps} (h : J x A B) {n : Int} (hn : n ≠ x) (k : Int) (s : ByteArray) : J x (stepP A k n s) B := by
  by_cases hx : 1 ≤ n ∧ n ≤ 16
  · obtain ⟨p, hp, rfl⟩ := port_of (n := n) (by omega) (by omega)
    rw [stepP_in hp]
    intro q hq
    obtain ⟨h1, h2⟩ := h q hq
    refine ⟨fun e => ?_, h2⟩
    unfold upd
    rw [if_neg (by intro e2; subst e2; exact hn e)]; exact h1 e
  · rw [stepP_out hx]; exact h
theorem J.up {x : Int} {A B : Ps} (h : J x A B) : isUpP A x = isUpP B x ∧ listP A x = listP B x := by
  by_cases hx : 1 ≤ x ∧ x ≤ 16
  · obtain ⟨p, hp, rfl⟩ := port_of (n := x) (by omega) (by omega)
    rw [isUpP_in hp, isUpP_in hp, listP_in hp, listP_in hp, (h p hp).1 rfl]; exact ⟨rfl, rfl⟩
  · unfold isUpP listP; rw [atPort_out hx, atPort_out hx, atPort_out hx, atPort_out hx]; exact ⟨rfl, rfl⟩
theorem J.other {x : Int} {A B : Ps} (h : J x A B) {i : Nat} (h1 : 1 ≤ i) (h16 : i ≤ 16) (hne : (i : Int) ≠ x) : isUpP B i = false ∧ listP B i = [] := by
  obtain ⟨p, rfl⟩ : ∃ p, i = p + 1 := ⟨i - 1, by omega⟩
  have e : ((p + 1 : Nat) : Int) = (p : Int) + 1 := by omega
  have hp : p < 16 := by omega
  rw [e] at hne ⊢
  rw [isUpP_in hp, listP_in hp, (h p hp).2 hne]; exact ⟨rfl, rfl⟩
def RE (x : Int) (oa : Option AObj) (o : List (Option AObj)) : Prop := ∃ A B va vb, J x A B ∧ PR A va ∧ PR B vb ∧ o = [oa, some (pob va), some (pob vb)]
theorem loopE8 {l : List Ac} (hw : WF l) {cp : Nat} {x : Int} {i : Nat} (hi : i < l.length) {A B : Ps} {va vb : List Value} (hJ : J x A B) (hA : PR A va) (hB : PR B vb) (c : Code) (hc : c = loopIn Try.prog 4 8) {N : Nat} (hN : N = 87) {vals : List Value} {hh : Heap}
    (hv : vals = [asl l.length cp, i64 x, p101, p102, i64 i, i64 0]) (ho : objsOf 100 hh = [some (acs (acsV l)), some (pob va), some (pob vb)]) (hle : 100 ≤ hh.next) :
    ∃ e v o, (e = .exit 2 ∧ v = [asl l.length cp, i64 x, p101, p102, i64 i] ∧ RE x (some (acs (acsV l))) o) ∧
      ∀ B, Holds Try.prog 100 B (.loop false c ⟨tmOf N [0, 1, 5, 6, 7, 8] vals, [], hh, .run⟩) (.ex e (stOf 100 N [0, 1, 5, 6, 7] (v, o))) := by
  subst hc; subst hN
  have hwi := hw l[i] (List.getElem_mem hi)
  obtain ⟨a0, a1, a2, a3⟩ := acsV_at hi
  exact lp_rule (P := Try.prog) (G := 100) (W := WD realP) (fuel := 300) (N := 87) (k0 := 3) (live := [0, 1, 5, 6, 7, 8]) (live2 := [0, 1, 5, 6, 7]) (c := loopIn Try.prog 4 8) okp kn_D lp_none
    (α := { y : Nat × List Value × List Value // y.1 ≤ 40 ∧ ∃ A B, J x A B ∧ PR A y.2.1 ∧ PR B y.2.2 }) (fun y => 41 - y.1.1)
    (fun y => ([asl l.length cp, i64 x, p101, p102, i64 i, i64 y.1.1], [some (acs (acsV l)), some (pob y.1.2.1), some (pob y.1.2.2)]))
    (fun e v o => e = .exit 2 ∧ v = [asl l.length cp, i64 x, p101, p102, i64 i] ∧ RE x (some (acs (acsV l))) o) (by
      rintro ⟨⟨k, va, vb⟩, hk, A, B, hJ, hA, hB⟩
      have hg := gE8_eq (real Try.prog) realP (acsV l) va vb l.length cp x i k
      unfold gE8 at hg
      refine ⟨?_⟩
      show wpe _ _ _ _ _ _
      generalize hst : stOf 100 87 [0, 1, 5, 6, 7, 8] _ = st
      have e : st = stOf 100 87 [0, 1, 5, 6, 7, 8] ([asl l.length cp, i64 x, p101, p102, i64 i, i64 k], [some (acs (acsV l)), some (pob va), some (pob vb)]) := hst.symm
      rw [e, hg]
      refine n_idx i rfl hi ?_
      rw [Nat.zero_add]
      refine n_rdI a0 (n_rdI a1 (n_rdI a2 (n_rdS a3 ⟨⟨hwi.1, hwi.2.1, hwi.2.2⟩, n_lss (fun h1 => ?_) (fun h1 => ?_)⟩)))
      · have hle := timesP_le (k := l[i].k) hwi.2.1
        refine n_idx i rfl hi ?_
        rw [Nat.zero_add]
        refine n_rdI a0 (n_rdI a1 (n_rdI a2 (n_rdS a3 ⟨A, hA, fun va' hA' => n_idx i rfl hi ?_⟩)))
        rw [Nat.zero_add]
        refine n_rdI a1 (n_eql (fun ex => n_idx i rfl hi ?_) (fun ex => n_add (by omega) (by omega) ?_))
        · rw [Nat.zero_add]
          refine n_rdI a0 (n_rdI a1 (n_rdI a2 (n_rdS a3 ⟨B, hB, fun vb' hB' => n_add (by omega) (by omega) ?_⟩)))
          rw [ex] at hA' hB'
          exact ⟨⟨(k + 1, va', vb'), by show k + 1 ≤ 40; omega, _, _, hJ.both _ _, hA', hB'⟩, [], by simp; omega, names_id' rfl rfl rfl⟩
        · exact ⟨⟨(k + 1, va', vb), by show k + 1 ≤ 40; omega, _, _, hJ.one ex _ _, hA', hB⟩, [], by simp; omega, names_id' rfl rfl rfl⟩
      · exact ⟨[], _, _, names_id' rfl rfl rfl, rfl, rfl, A, B, va, vb, hJ, hA, hB, rfl⟩)
    ⟨(0, va, vb), by simp, A, B, hJ, hA, hB⟩ rfl (vals := vals) (h := hh) hv ho hle
def LE8 : LE := fun c N vals oa va vb K => ∃ (l : List Ac) (i cp : Nat) (x : Int) (A B : Ps), oa = some (acs (acsV l)) ∧ i < l.length ∧ WF l ∧ J x A B ∧ PR A va ∧ PR B vb ∧ c = loopIn Try.prog 4 8 ∧ N = 87 ∧
  vals = [asl l.length cp, i64 x, p101, p102, i64 i, i64 0] ∧ ∀ A' B' va' vb', J x A' B' → PR A' va' → PR B' vb' → K va' vb'
theorem loopOkE8 : LoopOk Try.prog 100 [0, 1, 5, 6, 7, 8] (sLoopE LE8 (List.take 5) 2 [0, 1, 5, 6, 7]) := by
  intro c N vals h Q hS
  unfold sLoopE at hS
  split at hS
  · rename_i oa va vb ho
    obtain ⟨l, i, cp, x, A, B, hx, hi, hw, hJ, hA, hB, hc, hN, hv, hk⟩ := hS
    subst hx
    obtain ⟨e, v, o, ⟨q1, q2, A', B', va', vb', q3, q4, q5, q6⟩, h2⟩ := loopE8 hw hi hJ hA hB c hc hN hv ho (next_of ho)
    subst q1; subst q2; subst q6; subst hv
    exact ⟨_, h2, hk A' B' va' vb' q3 q4 q5⟩
  · exact hS.elim
theorem lp_E8 : LpOk Try.prog 100 ⟨sy1 100, false, lookN (knRest realP), lookN (lpE8 LE8)⟩ := lp_ok (by
  intro y hy; simp only [lpE8, List.mem_cons, List.not_mem_nil, or_false] at hy; subst hy; exact loopOkE8)
theorem loopE5 {l : List Ac} {sv : Value} {oa : Option AObj} (hs : SlOf 100 sv oa l) {x : Int} {A B : Ps} {va vb : List Value} (hJ : J x A B) (hA : PR A va) (hB : PR B vb) (c : Code) (hc : c = loopIn Try.prog 4 5) {N : Nat} (hN : N = 87) {vals : List Value} {hh : Heap}
    (hv : vals = [sv, i64 x, p101, p102, i64 0]) (ho : objsOf 100 hh = [oa, some (pob va), some (pob vb)]) (hle : 100 ≤ hh.next) :
    ∃ e v o, (e = .exit 0 ∧ v = [i64 x, p101, p102] ∧ RE x oa o) ∧ ∀ B, Holds Try.prog 100 B (.loop false c ⟨tmOf N [0, 1, 5, 6, 7] vals, [], hh, .run⟩) (.ex e (stOf 100 N [1, 5, 6] (v, o))) := by
  subst hc; subst hN
  rcases hs with ⟨rfl, hl⟩ | ⟨sp, rfl, hl⟩ | ⟨cp, rfl, hoa, hw, hlen⟩
  · exact lp_rule (P := Try.prog) (G := 100) (W := WR realP) (fuel := 300) (N := 87) (k0 := 3) (live := [0, 1, 5, 6, 7]) (live2 := [1, 5, 6]) (c := loopIn Try.prog 4 5) okp kn_R lp_none (α := Unit) (fun _ => 0)
      (fun _ => ([.slice none 0 0, i64 x, p101, p102, i64 0], [oa, some (pob va), some (pob vb)])) (fun e v o => e = .exit 0 ∧ v = [i64 x, p101, p102] ∧ RE x oa o) (by
        intro _
        have hg := gE50_eq (real Try.prog) realP oa va vb x
        unfold gE50 at hg
        refine ⟨?_⟩
        rw [hg]
        exact n_lss (fun h => absurd h (by omega)) (fun _ => ⟨[], _, _, names_id' rfl rfl rfl, rfl, rfl, A, B, va, vb, hJ, hA, hB, rfl⟩))
      () rfl (vals := vals) (h := hh) hv ho hle
  · exact lp_rule (P := Try.prog) (G := 100) (W := WR realP) (fuel := 300) (N := 87) (k0 := 3) (live := [0, 1, 5, 6, 7]) (live2 := [1, 5, 6]) (c := loopIn Try.prog 4 5) okp kn_R lp_none (α := Unit) (fun _ => 0)
      (fun _ => ([.slice (some ⟨100, 0, sp⟩) 0 0, i64 x, p101, p102, i64 0], [oa, some (pob va), some (pob vb)])) (fun e v o => e = .exit 0 ∧ v = [i64 x, p101, p102] ∧ RE x oa o) (by
        intro _
        have hg := gE5Z_eq (real Try.prog) realP sp oa va vb x
        unfold gE5Z at hg
        refine ⟨?_⟩
        rw [hg]
        exact n_lss (fun h => absurd h (by omega)) (fun _ => ⟨[], _, _, names_id' rfl rfl rfl, rfl, rfl, A, B, va, vb, hJ, hA, hB, rfl⟩))
      () rfl (vals := vals) (h := hh) hv ho hle
  · subst hoa
    exact lp_rule (P := Try.prog) (G := 100) (W := ⟨sy1 100, false, lookN (knRest realP), lookN (lpE8 LE8)⟩) (fuel := 300) (N := 87) (k0 := 3) (live := [0, 1, 5, 6, 7]) (live2 := [1, 5, 6]) (c := loopIn Try.prog 4 5) okp (kn_ok rest_ok') lp_E8
      (α := { y : Nat × List Value × List Value // y.1 ≤ l.length ∧ ∃ A B, J x A B ∧ PR A y.2.1 ∧ PR B y.2.2 }) (fun y => l.length - y.1.1)
      (fun y => ([asl l.length cp, i64 x, p101, p102, i64 y.1.1], [some (acs (acsV l)), some (pob y.1.2.1), some (pob y.1.2.2)])) (fun e v o => e = .exit 0 ∧ v = [i64 x, p101, p102] ∧ RE x (some (acs (acsV l))) o) (by
        rintro ⟨⟨i, va, vb⟩, hi, A, B, hJ, hA, hB⟩
        have hg := gE5_eq (real Try.prog) realP LE8 (acsV l) va vb l.length cp x i
        unfold gE5 at hg
        refine ⟨?_⟩
        show wpe _ _ _ _ _ _
        generalize hst : stOf 100 87 [0, 1, 5, 6, 7] _ = st
        have e : st = stOf 100 87 [0, 1, 5, 6, 7] ([asl l.length cp, i64 x, p101, p102, i64 i], [some (acs (acsV l)), some (pob va), some (pob vb)]) := hst.symm
        rw [e, hg]
        refine n_lss (fun h1 => ?_) (fun h1 => ?_)
        · have h1' : i < l.length := by have : (Int.ofNat l.length) = (l.length : Int) := rfl; omega
          refine ⟨l, i, cp, x, A, B, rfl, h1', hw, hJ, hA, hB, rfl, rfl, rfl, fun A' B' va' vb' hJ' hA' hB' => n_add (by omega) (by omega) ?_⟩
          exact ⟨⟨(i + 1, va', vb'), by show i + 1 ≤ l.length; omega, _, _, hJ', hA', hB'⟩, [], by simp; omega, names_id' rfl rfl rfl⟩
        · exact ⟨[], _, _, names_id' rfl rfl rfl, rfl, rfl, A, B, va, vb, hJ, hA, hB, rfl⟩)
      ⟨(0, va, vb), by simp, A, B, hJ, hA, hB⟩ rfl (vals := vals) (h := hh) hv ho hle
def LE5 : LE := fun c N vals oa va vb K => ∃ (l : List Ac) (sv : Value) (x : Int) (A B : Ps), SlOf 100 sv oa l ∧ J x A B ∧ PR A va ∧ PR B vb ∧ c = loopIn Try.prog 4 5 ∧ N = 87 ∧
  vals = [sv, i64 x, p101, p102, i64 0] ∧ ∀ A' B' va' vb', J x A' B' → PR A' va' → PR B' vb' → K va' vb'
theorem loopOkE5 : LoopOk Try.prog 100 [0, 1, 5, 6, 7] (sLoopE LE5 (fun v => (v.drop 1).take 3) 0 [1, 5, 6]) := by
  intro c N vals h Q hS
  unfold sLoopE at hS
  split at hS
  · rename_i oa va vb ho
    obtain ⟨l, sv, x, A, B, hs, hJ, hA, hB, hc, hN, hv, hk⟩ := hS
    obtain ⟨e, v, o, ⟨q1, q2, A', B', va', vb', q3, q4, q5, q6⟩, h2⟩ := loopE5 hs hJ hA hB c hc hN hv ho (next_of ho)
    subst q1; subst q2; subst q6; subst hv
    exact ⟨_, h2, hk A' B' va' vb' q3 q4 q5⟩
  · exact hS.elim
theorem loopE14 {oa : Option AObj} {x : Int} {A B : Ps} {va vb : List Value} (hJ : J x A B) (hA : PR A va) (hB : PR B vb) (c : Code) (hc : c = loopIn Try.prog 4 14) {N : Nat} (hN : N = 87) {vals : List Value} {hh : Heap}
    (hv : vals = [i64 x, p101, p102, i64 1]) (ho : objsOf 100 hh = [oa, some (pob va), some (pob vb)]) (hle : 100 ≤ hh.next) :
    ∃ e v o, (e = .exit 4 ∧ v = [i64 x, p101, p102] ∧ o = [oa, some (pob va), some (pob vb)]) ∧ ∀ B, Holds Try.prog 100 B (.loop false c ⟨tmOf N [1, 5, 6, 9] vals, [], hh, .run⟩) (.ex e (stOf 100 N [1, 5, 6] (v, o))) := by
  subst hc; subst hN
  exact lp_rule (P := Try.prog) (G := 100) (W := WR realP) (fuel := 300) (N := 87) (k0 := 3) (live := [1, 5, 6, 9]) (live2 := [1, 5, 6]) (c := loopIn Try.prog 4 14) okp kn_R lp_none (α := { i : Nat // 1 ≤ i ∧ i ≤ 17 }) (fun i => 17 - i.1)
    (fun i => ([i64 x, p101, p102, i64 i.1], [oa, some (pob va), some (pob vb)])) (fun e v o => e = .exit 4 ∧ v = [i64 x, p101, p102] ∧ o = [oa, some (pob va), some (pob vb)]) (by
      rintro ⟨i, h1, h17⟩
      have hg := gE14_eq (real Try.prog) realP oa va vb x i
      unfold gE14 at hg
      refine ⟨?_⟩
      show wpe _ _ _ _ _ _
      generalize hst : stOf 100 87 [1, 5, 6, 9] _ = st
      have e : st = stOf 100 87 [1, 5, 6, 9] ([i64 x, p101, p102, i64 i], [oa, some (pob va), some (pob vb)]) := hst.symm
      rw [e, hg]
      have hnext : i ≤ 16 → ∃ (a' : { i : Nat // 1 ≤ i ∧ i ≤ 17 }) (l : List Nat), 17 - a'.1 < 17 - i ∧ Names 100 3 l (100 + [oa, some (pob va), some (pob vb)].length) [i64 x, p101, p102, i64 ((i : Int) + 1)] [oa, some (pob va), some (pob vb)] [i64 x, p101, p102, i64 a'.1] [oa, some (pob va), some (pob vb)] := fun h =>
        ⟨⟨i + 1, by omega, by omega⟩, [], by simp; omega, names_id' rfl rfl rfl⟩
      refine n_leq (fun h2 => n_neq (fun hne => ?_) (fun _ => n_add (by omega) (by omega) (hnext (by omega)))) (fun h2 => ⟨[], _, _, names_id' rfl rfl rfl, rfl, rfl, rfl⟩)
      obtain ⟨u1, u2⟩ := hJ.other h1 (by omega) hne
      refine ⟨B, hB, fun hu => (by rw [u1] at hu; cases hu), fun _ => ⟨B, hB, ?_⟩⟩
      rw [u2]
      exact n_neq (fun h => absurd rfl h) (fun _ => n_add (by omega) (by omega) (hnext (by omega))))
    ⟨1, by omega, by omega⟩ rfl (vals := vals) (h := hh) hv ho hle
def LE14 : LE := fun c N vals oa va vb K => ∃ (x : Int) (A B : Ps), J x A B ∧ PR A va ∧ PR B vb ∧ c = loopIn Try.prog 4 14 ∧ N = 87 ∧ vals = [i64 x, p101, p102, i64 1] ∧ K va vb
theorem loopOkE14 : LoopOk Try.prog 100 [1, 5, 6, 9] (sLoopE LE14 (List.take 3) 4 [1, 5, 6]) := by
  intro c N vals h Q hS
  unfold sLoopE at hS
  split at hS
  · rename_i oa va vb ho
    obtain ⟨x, A, B, hJ, hA, hB, hc, hN, hv, hk⟩ := hS
    obtain ⟨e, v, o, ⟨q1, q2, q3⟩, h2⟩ := loopE14 hJ hA hB c hc hN hv ho (next_of ho)
    subst q1; subst q2; subst q3; subst hv
    exact ⟨_, h2, hk⟩
  · exact hS.elim
theorem each_ok {l : List Ac} {sv : Value} {oa : Option AObj} (hs : SlOf 100 sv oa l) {x : Int} : Is (gEach (real Try.prog) realP realLV LE5 LE14 sv oa x okK) := by
  refine ⟨?_⟩
  rw [gEach_eq]
  refine ⟨⟨100, oa, l, Nat.le_refl _, rfl, hs⟩, rfl, ?_⟩
  intro va hA vb hB
  refine ⟨l, sv, x, _, _, hs, fun q hq => ⟨fun _ => rfl, fun _ => rfl⟩, hA, hB, rfl, rfl, rfl, fun A B va vb hJ hA hB => ⟨x, A, B, hJ, hA, hB, rfl, rfl, rfl, ?_⟩⟩
  obtain ⟨hu, hl⟩ := hJ.up
  have hla := list_le hA x
  have hlb := list_le hB x
  refine ⟨A, hA, fun h1 => ⟨B, hB, fun h2 => ?_, fun h2 => (by rw [h1, h2] at hu; cases hu)⟩, fun h1 => ⟨B, hB, fun h2 => (by rw [h1, h2] at hu; cases hu), fun h2 => ?_⟩⟩
  · refine ⟨A, hA, fun ea => ⟨B, hB, fun eb => ⟨rfl, rfl, ?_⟩, fun nb => ⟨rfl, rfl, ?_⟩⟩, fun na => ⟨B, hB, fun eb => ⟨rfl, rfl, ?_⟩, fun nb => ⟨rfl, rfl, ?_⟩⟩⟩
    · exact ⟨[], [], rfl, rfl, rfl, rfl, by simp, by simp, fun _ => rfl, fun ne => absurd rfl ne⟩
    · exact absurd (hl.symm.trans ea) nb
    · exact absurd (hl.trans eb) na
    · exact ⟨listP A x, listP B x, rfl, rfl, rfl, rfl, by omega, by omega, fun _ => rfl, fun ne => absurd hl ne⟩
  · refine ⟨A, hA, fun ea => ⟨B, hB, fun eb => ⟨rfl, rfl, ?_⟩, fun nb => ⟨rfl, rfl, ?_⟩⟩, fun na => ⟨B, hB, fun eb => ⟨rfl, rfl, ?_⟩, fun nb => ⟨rfl, rfl, ?_⟩⟩⟩
    · exact ⟨[], [], rfl, rfl, rfl, rfl, by simp, by simp, fun _ => rfl, fun ne => absurd rfl ne⟩
    · exact absurd (hl.symm.trans ea) nb
    · exact absurd (hl.trans eb) na
    · exact ⟨listP A x, listP B x, rfl, rfl, rfl, rfl, by omega, by omega, fun _ => rfl, fun ne => absurd hl ne⟩
theorem lps_each : LpOk Try.prog 100 ⟨fun _ => false, false, lookN (knV realLV realP), lookN [(5, ([0, 1, 5, 6, 7], sLoopE LE5 (fun v => (v.drop 1).take 3) 0 [1, 5, 6])), (14, ([1, 5, 6, 9], sLoopE LE14 (List.take 3) 4 [1, 5, 6]))]⟩ := lp_ok (by
  intro y hy; simp only [List.mem_cons, List.not_mem_nil, or_false] at hy
  rcases hy with rfl | rfl
  · exact loopOkE5
  · exact loopOkE14)
theorem each_call {l : List Ac} {sv : Value} {oa : Option AObj} (hs : SlOf 100 sv oa l) {x : Int} (B : Base) : ∃ H', CallH Try.prog 100 B 4 [sv, i64 x] (hOf 100 [] [oa]) (.returned (.bool true)) H' := by
  obtain ⟨v, objs, h2, h4⟩ := callW (kn_ok all_okV) lps_each (f := 4) (args := [sv, i64 x]) (each_ok hs (x := x))
  cases h2
  exact ⟨_, h4 B⟩
end
end Go.Proofs.Ytknplaghilagfaa.Po
