/- PortApart: what its code asks is so. -/
import Derived.Test.YtknplaghilagfaaF7
namespace Go.Proofs.Ytknplaghilagfaa.Po
open Go Go.Abs
set_option linter.unusedVariables false
noncomputable section
def runs (A : Ps) (l : List Ac) : Ps := l.foldl (fun A a => stepP A a.k a.p a.s) A
theorem runs_take {A : Ps} {l : List Ac} {i : Nat} (h : i < l.length) : runs A (l.take (i + 1)) = stepP (runs A (l.take i)) l[i].k l[i].p l[i].s := by
  have : l.take (i + 1) = l.take i ++ [l[i]] := by rw [List.take_add_one, List.getElem?_eq_getElem h]; rfl
  rw [this, runs, List.foldl_append]; rfl
theorem kn_B : KnOk Try.prog 100 (WB realP) := kn_ok rest_ok'
theorem loopA5 {l : List Ac} {sv sm : Value} {oa ob : Option AObj} (hs : SlOf 100 sv oa l) {A : Ps} {va vb : List Value} (hA : PR A va) (hB : PR A vb) (c : Code) (hc : c = loopIn Try.prog 7 5) {N : Nat} (hN : N = 83) {vals : List Value} {hh : Heap}
    (hv : vals = [sv, sm, p102, p103, i64 0]) (ho : objsOf 100 hh = [oa, ob, some (pob va), some (pob vb)]) (hle : 100 ≤ hh.next) :
    ∃ e v o, (e = .exit 0 ∧ v = [sm, p102, p103] ∧ ∃ va' vb', PR (runs A l) va' ∧ PR (runs A l) vb' ∧ o = [oa, ob, some (pob va'), some (pob vb')]) ∧ ∀ B, Holds Try.prog 100 B (.loop false c ⟨tmOf N [0, 1, 5, 6, 7] vals, [], hh, .run⟩) (.ex e (stOf 100 N [1, 5, 6] (v, o))) := by
  subst hc; subst hN
  rcases hs with ⟨rfl, hl⟩ | ⟨sp, rfl, hl⟩ | ⟨cp, rfl, hoa, hw, hlen⟩
  · subst hl
    exact lp_rule (P := Try.prog) (G := 100) (W := WR realP) (fuel := 300) (N := 83) (k0 := 4) (live := [0, 1, 5, 6, 7]) (live2 := [1, 5, 6]) (c := loopIn Try.prog 7 5) okp kn_R lp_none (α := Unit) (fun _ => 0)
      (fun _ => ([.slice none 0 0, sm, p102, p103, i64 0], [oa, ob, some (pob va), some (pob vb)])) (fun e v o => e = .exit 0 ∧ v = [sm, p102, p103] ∧ ∃ va' vb', PR (runs A []) va' ∧ PR (runs A []) vb' ∧ o = [oa, ob, some (pob va'), some (pob vb')]) (by
        intro _
        have hg := gA50_eq (real Try.prog) realP sm oa ob va vb
        unfold gA50 at hg
        refine ⟨?_⟩
        rw [hg]
        exact n_lss (fun h => absurd h (by omega)) (fun _ => ⟨[], _, _, names_id' rfl rfl rfl, rfl, rfl, va, vb, hA, hB, rfl⟩))
      () rfl (vals := vals) (h := hh) hv ho hle
  · subst hl
    exact lp_rule (P := Try.prog) (G := 100) (W := WR realP) (fuel := 300) (N := 83) (k0 := 4) (live := [0, 1, 5, 6, 7]) (live2 := [1, 5, 6]) (c := loopIn Try.prog 7 5) okp kn_R lp_none (α := Unit) (fun _ => 0)
      (fun _ => ([.slice (some ⟨100, 0, sp⟩) 0 0, sm, p102, p103, i64 0], [oa, ob, some (pob va), some (pob vb)])) (fun e v o => e = .exit 0 ∧ v = [sm, p102, p103] ∧ ∃ va' vb', PR (runs A []) va' ∧ PR (runs A []) vb' ∧ o = [oa, ob, some (pob va'), some (pob vb')]) (by
        intro _
        have hg := gA5Z_eq (real Try.prog) realP sp sm oa ob va vb
        unfold gA5Z at hg
        refine ⟨?_⟩
        rw [hg]
        exact n_lss (fun h => absurd h (by omega)) (fun _ => ⟨[], _, _, names_id' rfl rfl rfl, rfl, rfl, va, vb, hA, hB, rfl⟩))
      () rfl (vals := vals) (h := hh) hv ho hle
  · subst hoa
    exact lp_rule (P := Try.prog) (G := 100) (W := WD realP) (fuel := 300) (N := 83) (k0 := 4) (live := [0, 1, 5, 6, 7]) (live2 := [1, 5, 6]) (c := loopIn Try.prog 7 5) okp kn_D lp_none
      (α := { y : Nat × List Value × List Value // y.1 ≤ l.length ∧ PR (runs A (l.take y.1)) y.2.1 ∧ PR (runs A (l.take y.1)) y.2.2 }) (fun y => l.length - y.1.1)
      (fun y => ([asl l.length cp, sm, p102, p103, i64 y.1.1], [some (acs (acsV l)), ob, some (pob y.1.2.1), some (pob y.1.2.2)])) (fun e v o => e = .exit 0 ∧ v = [sm, p102, p103] ∧ ∃ va' vb', PR (runs A l) va' ∧ PR (runs A l) vb' ∧ o = [some (acs (acsV l)), ob, some (pob va'), some (pob vb')]) (by
        rintro ⟨⟨i, va, vb⟩, hi, hA, hB⟩
        have hg := gA5_eq (real Try.prog) realP (acsV l) l.length cp sm ob va vb i
        unfold gA5 at hg
        refine ⟨?_⟩
        show wpe _ _ _ _ _ _
        generalize hst : stOf 100 83 [0, 1, 5, 6, 7] _ = st
        have e : st = stOf 100 83 [0, 1, 5, 6, 7] ([asl l.length cp, sm, p102, p103, i64 i], [some (acs (acsV l)), ob, some (pob va), some (pob vb)]) := hst.symm
        rw [e, hg]
        refine n_lss (fun h1 => ?_) (fun h1 => ?_)
        · have h1' : i < l.length := by have : (Int.ofNat l.length) = (l.length : Int) := rfl; omega
          obtain ⟨a0, a1, a2, a3⟩ := acsV_at h1'
          refine n_idx i rfl h1' ?_
          rw [Nat.zero_add]
          refine n_rdI a0 (n_rdI a1 (n_rdI a2 (n_rdS a3 ⟨_, hA, fun va' hA' => n_idx i rfl h1' ?_⟩)))
          rw [Nat.zero_add]
          refine n_rdI a0 (n_rdI a1 (n_rdI a2 (n_rdS a3 ⟨_, hB, fun vb' hB' => n_add (by omega) (by omega) ?_⟩)))
          refine ⟨⟨(i + 1, va', vb'), by show i + 1 ≤ l.length; omega, ?_, ?_⟩, [], by simp; omega, names_id' rfl rfl rfl⟩
          · show PR (runs A (l.take (i + 1))) va'; rw [runs_take h1']; exact hA'
          · show PR (runs A (l.take (i + 1))) vb'; rw [runs_take h1']; exact hB'
        · have : l.take i = l := List.take_of_length_le (by have : (Int.ofNat l.length) = (l.length : Int) := rfl; omega)
          simp only [this] at hA hB
          exact ⟨[], _, _, names_id' rfl rfl rfl, rfl, rfl, va, vb, hA, hB, rfl⟩)
      ⟨(0, va, vb), by simp, by simpa [runs] using hA, by simpa [runs] using hB⟩ rfl (vals := vals) (h := hh) hv ho hle
def LA5 : Code → Nat → List Value → Option AObj → Option AObj → List Value → List Value → (List Value → List Value → Prop) → Prop := fun c N vals oa ob va vb K =>
  ∃ (l : List Ac) (sv sm : Value) (A : Ps), SlOf 100 sv oa l ∧ PR A va ∧ PR A vb ∧ c = loopIn Try.prog 7 5 ∧ N = 83 ∧ vals = [sv, sm, p102, p103, i64 0] ∧ ∀ va' vb', PR (runs A l) va' → PR (runs A l) vb' → K va' vb'
theorem loopOkA5 : LoopOk Try.prog 100 [0, 1, 5, 6, 7] (sLoopA5 LA5) := by
  intro c N vals h Q hS
  unfold sLoopA5 at hS
  split at hS
  · rename_i oa ob va vb ho
    obtain ⟨l, sv, sm, A, hs, hA, hB, hc, hN, hv, hk⟩ := hS
    obtain ⟨e, v, o, ⟨q1, q2, va', vb', q3, q4, q5⟩, h2⟩ := loopA5 hs hA hB c hc hN hv ho (next_of ho)
    subst q1; subst q2; subst q5; subst hv
    exact ⟨_, h2, hk va' vb' q3 q4⟩
  · exact hS.elim
theorem loopA11 {l : List Ac} {sv : Value} {oa ob : Option AObj} (hs : SlOf 101 sv ob l) {A : Ps} {va vb vc : List Value} (hA : PR A vc) (c : Code) (hc : c = loopIn Try.prog 7 11) {N : Nat} (hN : N = 83) {vals : List Value} {hh : Heap}
    (hv : vals = [sv, p102, p103, p104, i64 0]) (ho : objsOf 100 hh = [oa, ob, some (pob va), some (pob vb), some (pob vc)]) (hle : 100 ≤ hh.next) :
    ∃ e v o, (e = .exit 2 ∧ v = [sv, p102, p103, p104] ∧ ∃ v', PR (runs A l) v' ∧ o = [oa, ob, some (pob va), some (pob vb), some (pob v')]) ∧ ∀ B, Holds Try.prog 100 B (.loop false c ⟨tmOf N [1, 5, 6, 8, 9] vals, [], hh, .run⟩) (.ex e (stOf 100 N [1, 5, 6, 8] (v, o))) := by
  subst hc; subst hN
  rcases hs with ⟨rfl, hl⟩ | ⟨sp, rfl, hl⟩ | ⟨cp, rfl, hoa, hw, hlen⟩
  · subst hl
    exact lp_rule (P := Try.prog) (G := 100) (W := WR realP) (fuel := 300) (N := 83) (k0 := 5) (live := [1, 5, 6, 8, 9]) (live2 := [1, 5, 6, 8]) (c := loopIn Try.prog 7 11) okp kn_R lp_none (α := Unit) (fun _ => 0)
      (fun _ => ([.slice none 0 0, p102, p103, p104, i64 0], [oa, ob, some (pob va), some (pob vb), some (pob vc)])) (fun e v o => e = .exit 2 ∧ v = [.slice none 0 0, p102, p103, p104] ∧ ∃ v', PR (runs A []) v' ∧ o = [oa, ob, some (pob va), some (pob vb), some (pob v')]) (by
        intro _
        have hg := gA110_eq (real Try.prog) realP oa ob va vb vc
        unfold gA110 at hg
        refine ⟨?_⟩
        rw [hg]
        exact n_lss (fun h => absurd h (by omega)) (fun _ => ⟨[], _, _, names_id' rfl rfl rfl, rfl, rfl, vc, hA, rfl⟩))
      () rfl (vals := vals) (h := hh) hv ho hle
  · subst hl
    exact lp_rule (P := Try.prog) (G := 100) (W := WR realP) (fuel := 300) (N := 83) (k0 := 5) (live := [1, 5, 6, 8, 9]) (live2 := [1, 5, 6, 8]) (c := loopIn Try.prog 7 11) okp kn_R lp_none (α := Unit) (fun _ => 0)
      (fun _ => ([.slice (some ⟨101, 0, sp⟩) 0 0, p102, p103, p104, i64 0], [oa, ob, some (pob va), some (pob vb), some (pob vc)])) (fun e v o => e = .exit 2 ∧ v = [.slice (some ⟨101, 0, sp⟩) 0 0, p102, p103, p104] ∧ ∃ v', PR (runs A []) v' ∧ o = [oa, ob, some (pob va), some (pob vb), some (pob v')]) (by
        intro _
        have hg := gA11Z_eq (real Try.prog) realP sp oa ob va vb vc
        unfold gA11Z at hg
        refine ⟨?_⟩
        rw [hg]
        exact n_lss (fun h => absurd h (by omega)) (fun _ => ⟨[], _, _, names_id' rfl rfl rfl, rfl, rfl, vc, hA, rfl⟩))
      () rfl (vals := vals) (h := hh) hv ho hle
  · subst hoa
    exact lp_rule (P := Try.prog) (G := 100) (W := WB realP) (fuel := 300) (N := 83) (k0 := 5) (live := [1, 5, 6, 8, 9]) (live2 := [1, 5, 6, 8]) (c := loopIn Try.prog 7 11) okp kn_B lp_none (α := { y : Nat × List Value // y.1 ≤ l.length ∧ PR (runs A (l.take y.1)) y.2 }) (fun y => l.length - y.1.1)
      (fun y => ([bsl l.length cp, p102, p103, p104, i64 y.1.1], [oa, some (acs (acsV l)), some (pob va), some (pob vb), some (pob y.1.2)])) (fun e v o => e = .exit 2 ∧ v = [bsl l.length cp, p102, p103, p104] ∧ ∃ v', PR (runs A l) v' ∧ o = [oa, some (acs (acsV l)), some (pob va), some (pob vb), some (pob v')]) (by
        rintro ⟨⟨i, vc⟩, hi, hA⟩
        have hg := gA11_eq (real Try.prog) realP oa (acsV l) l.length cp va vb vc i
        unfold gA11 at hg
        refine ⟨?_⟩
        show wpe _ _ _ _ _ _
        generalize hst : stOf 100 83 [1, 5, 6, 8, 9] _ = st
        have e : st = stOf 100 83 [1, 5, 6, 8, 9] ([bsl l.length cp, p102, p103, p104, i64 i], [oa, some (acs (acsV l)), some (pob va), some (pob vb), some (pob vc)]) := hst.symm
        rw [e, hg]
        refine n_lss (fun h1 => ?_) (fun h1 => ?_)
        · have h1' : i < l.length := by have : (Int.ofNat l.length) = (l.length : Int) := rfl; omega
          obtain ⟨a0, a1, a2, a3⟩ := acsV_at h1'
          refine n_idx i rfl h1' ?_
          rw [Nat.zero_add]
          refine n_rdI a0 (n_rdI a1 (n_rdI a2 (n_rdS a3 ⟨_, hA, fun v' hA' => n_add (by omega) (by omega) ?_⟩)))
          refine ⟨⟨(i + 1, v'), by show i + 1 ≤ l.length; omega, ?_⟩, [], by simp; omega, names_id' rfl rfl rfl⟩
          show PR (runs A (l.take (i + 1))) v'; rw [runs_take h1']; exact hA'
        · have : l.take i = l := List.take_of_length_le (by have : (Int.ofNat l.length) = (l.length : Int) := rfl; omega)
          simp only [this] at hA
          exact ⟨[], _, _, names_id' rfl rfl rfl, rfl, rfl, vc, hA, rfl⟩)
      ⟨(0, vc), by simp, by simpa [runs] using hA⟩ rfl (vals := vals) (h := hh) hv ho hle
def LA11 : Code → Nat → List Value → Option AObj → Option AObj → List Value → List Value → List Value → (List Value → Prop) → Prop := fun c N vals oa ob va vb vc K =>
  ∃ (l : List Ac) (sv : Value) (A : Ps), SlOf 101 sv ob l ∧ PR A vc ∧ c = loopIn Try.prog 7 11 ∧ N = 83 ∧ vals = [sv, p102, p103, p104, i64 0] ∧ ∀ v', PR (runs A l) v' → K v'
theorem loopOkA11 : LoopOk Try.prog 100 [1, 5, 6, 8, 9] (sLoopA11 LA11) := by
  intro c N vals h Q hS
  unfold sLoopA11 at hS
  split at hS
  · rename_i oa ob va vb vc ho
    obtain ⟨l, sv, A, hs, hA, hc, hN, hv, hk⟩ := hS
    obtain ⟨e, v, o, ⟨q1, q2, v', q3, q4⟩, h2⟩ := loopA11 hs hA c hc hN hv ho (next_of ho)
    subst q1; subst q2; subst q4; subst hv
    exact ⟨_, h2, hk v' q3⟩
  · exact hS.elim
theorem loopA18 {l : List Ac} {sv : Value} {oa ob : Option AObj} (hs : SlOf 101 sv ob l) {A : Ps} {va vb vc vd : List Value} (hA : PR A va) (c : Code) (hc : c = loopIn Try.prog 7 18) {N : Nat} (hN : N = 83) {vals : List Value} {hh : Heap}
    (hv : vals = [sv, p102, p104, p105, i64 0]) (ho : objsOf 100 hh = [oa, ob, some (pob va), some (pob vb), some (pob vc), some (pob vd)]) (hle : 100 ≤ hh.next) :
    ∃ e v o, (e = .exit 4 ∧ v = [p102, p104, p105] ∧ ∃ v', PR (runs A l) v' ∧ o = [oa, ob, some (pob v'), some (pob vb), some (pob vc), some (pob vd)]) ∧ ∀ B, Holds Try.prog 100 B (.loop false c ⟨tmOf N [1, 5, 8, 10, 11] vals, [], hh, .run⟩) (.ex e (stOf 100 N [5, 8, 10] (v, o))) := by
  subst hc; subst hN
  rcases hs with ⟨rfl, hl⟩ | ⟨sp, rfl, hl⟩ | ⟨cp, rfl, hoa, hw, hlen⟩
  · subst hl
    exact lp_rule (P := Try.prog) (G := 100) (W := WR realP) (fuel := 300) (N := 83) (k0 := 6) (live := [1, 5, 8, 10, 11]) (live2 := [5, 8, 10]) (c := loopIn Try.prog 7 18) okp kn_R lp_none (α := Unit) (fun _ => 0)
      (fun _ => ([.slice none 0 0, p102, p104, p105, i64 0], [oa, ob, some (pob va), some (pob vb), some (pob vc), some (pob vd)])) (fun e v o => e = .exit 4 ∧ v = [p102, p104, p105] ∧ ∃ v', PR (runs A []) v' ∧ o = [oa, ob, some (pob v'), some (pob vb), some (pob vc), some (pob vd)]) (by
        intro _
        have hg := gA180_eq (real Try.prog) realP oa ob va vb vc vd
        unfold gA180 at hg
        refine ⟨?_⟩
        rw [hg]
        exact n_lss (fun h => absurd h (by omega)) (fun _ => ⟨[], _, _, names_id' rfl rfl rfl, rfl, rfl, va, hA, rfl⟩))
      () rfl (vals := vals) (h := hh) hv ho hle
  · subst hl
    exact lp_rule (P := Try.prog) (G := 100) (W := WR realP) (fuel := 300) (N := 83) (k0 := 6) (live := [1, 5, 8, 10, 11]) (live2 := [5, 8, 10]) (c := loopIn Try.prog 7 18) okp kn_R lp_none (α := Unit) (fun _ => 0)
      (fun _ => ([.slice (some ⟨101, 0, sp⟩) 0 0, p102, p104, p105, i64 0], [oa, ob, some (pob va), some (pob vb), some (pob vc), some (pob vd)])) (fun e v o => e = .exit 4 ∧ v = [p102, p104, p105] ∧ ∃ v', PR (runs A []) v' ∧ o = [oa, ob, some (pob v'), some (pob vb), some (pob vc), some (pob vd)]) (by
        intro _
        have hg := gA18Z_eq (real Try.prog) realP sp oa ob va vb vc vd
        unfold gA18Z at hg
        refine ⟨?_⟩
        rw [hg]
        exact n_lss (fun h => absurd h (by omega)) (fun _ => ⟨[], _, _, names_id' rfl rfl rfl, rfl, rfl, va, hA, rfl⟩))
      () rfl (vals := vals) (h := hh) hv ho hle
  · subst hoa
    exact lp_rule (P := Try.prog) (G := 100) (W := WB realP) (fuel := 300) (N := 83) (k0 := 6) (live := [1, 5, 8, 10, 11]) (live2 := [5, 8, 10]) (c := loopIn Try.prog 7 18) okp kn_B lp_none (α := { y : Nat × List Value // y.1 ≤ l.length ∧ PR (runs A (l.take y.1)) y.2 }) (fun y => l.length - y.1.1)
      (fun y => ([bsl l.length cp, p102, p104, p105, i64 y.1.1], [oa, some (acs (acsV l)), some (pob y.1.2), some (pob vb), some (pob vc), some (pob vd)])) (fun e v o => e = .exit 4 ∧ v = [p102, p104, p105] ∧ ∃ v', PR (runs A l) v' ∧ o = [oa, some (acs (acsV l)), some (pob v'), some (pob vb), some (pob vc), some (pob vd)]) (by
        rintro ⟨⟨i, va⟩, hi, hA⟩
        have hg := gA18_eq (real Try.prog) realP oa (acsV l) l.length cp va vb vc vd i
        unfold gA18 at hg
        refine ⟨?_⟩
        show wpe _ _ _ _ _ _
        generalize hst : stOf 100 83 [1, 5, 8, 10, 11] _ = st
        have e : st = stOf 100 83 [1, 5, 8, 10, 11] ([bsl l.length cp, p102, p104, p105, i64 i], [oa, some (acs (acsV l)), some (pob va), some (pob vb), some (pob vc), some (pob vd)]) := hst.symm
        rw [e, hg]
        refine n_lss (fun h1 => ?_) (fun h1 => ?_)
        · have h1' : i < l.length := by have : (Int.ofNat l.length) = (l.length : Int) := rfl; omega
          obtain ⟨a0, a1, a2, a3⟩ := acsV_at h1'
          refine n_idx i rfl h1' ?_
          rw [Nat.zero_add]
          refine n_rdI a0 (n_rdI a1 (n_rdI a2 (n_rdS a3 ⟨_, hA, fun v' hA' => n_add (by omega) (by omega) ?_⟩)))
          refine ⟨⟨(i + 1, v'), by show i + 1 ≤ l.length; omega, ?_⟩, [], by simp; omega, names_id' rfl rfl rfl⟩
          show PR (runs A (l.take (i + 1))) v'; rw [runs_take h1']; exact hA'
        · have : l.take i = l := List.take_of_length_le (by have : (Int.ofNat l.length) = (l.length : Int) := rfl; omega)
          simp only [this] at hA
          exact ⟨[], _, _, names_id' rfl rfl rfl, rfl, rfl, va, hA, rfl⟩)
      ⟨(0, va), by simp, by simpa [runs] using hA⟩ rfl (vals := vals) (h := hh) hv ho hle
def LA18 : Code → Nat → List Value → Option AObj → Option AObj → List Value → List Value → List Value → List Value → (List Value → Prop) → Prop := fun c N vals oa ob va vb vc vd K =>
  ∃ (l : List Ac) (sv : Value) (A : Ps), SlOf 101 sv ob l ∧ PR A va ∧ c = loopIn Try.prog 7 18 ∧ N = 83 ∧ vals = [sv, p102, p104, p105, i64 0] ∧ ∀ v', PR (runs A l) v' → K v'
theorem loopOkA18 : LoopOk Try.prog 100 [1, 5, 8, 10, 11] (sLoopA18 LA18) := by
  intro c N vals h Q hS
  unfold sLoopA18 at hS
  split at hS
  · rename_i oa ob va vb vc vd ho
    obtain ⟨l, sv, A, hs, hA, hc, hN, hv, hk⟩ := hS
    obtain ⟨e, v, o, ⟨q1, q2, v', q3, q4⟩, h2⟩ := loopA18 hs hA c hc hN hv ho (next_of ho)
    subst q1; subst q2; subst q4; subst hv
    exact ⟨_, h2, hk v' q3⟩
  · exact hS.elim
theorem alike_self (A : Ps) : Alike A A := fun n _ _ => ⟨rfl, rfl⟩
theorem apart_ok {l more : List Ac} {sl sm : Value} {oa ob : Option AObj} (hs : SlOf 100 sl oa l) (hm : SlOf 101 sm ob more) : Is (gApart (real Try.prog) realP realLV realE LA5 LA11 LA18 sl sm oa ob okK) := by
  refine ⟨?_⟩
  rw [gApart_eq]
  refine ⟨⟨100, oa, l, Nat.le_refl _, rfl, hs⟩, rfl, ⟨101, ob, more, by omega, rfl, hm⟩, rfl, ?_⟩
  intro va hA vb hB
  refine ⟨l, sl, sm, _, hs, hA, hB, rfl, rfl, rfl, fun va vb hA hB => ⟨_, hA, ⟨more, sm, _, hm, hA, rfl, rfl, rfl, fun vc hC => ?_⟩⟩⟩
  refine ⟨_, _, hA, hB, fun _ => ⟨_, hC, ⟨more, sm, _, hm, hA, rfl, rfl, rfl, fun va' hA' => ?_⟩⟩, fun h => absurd (alike_self _) h⟩
  exact ⟨_, _, hC, hC, fun _ => ⟨_, _, hA', hC, fun _ => rfl, fun h => absurd (alike_self _) h⟩, fun h => absurd (alike_self _) h⟩
theorem all_okA : ∀ x ∈ (22, sEqp realE) :: knV realLV realP, SumOk Try.prog 100 x.1 x.2 := by
  intro x hx
  rcases List.mem_cons.1 hx with rfl | hx
  · exact sum_eqp
  · exact all_okV x hx
theorem lps_apart : LpOk Try.prog 100 ⟨fun _ => false, false, lookN ((22, sEqp realE) :: knV realLV realP), lookN [(5, ([0, 1, 5, 6, 7], sLoopA5 LA5)), (11, ([1, 5, 6, 8, 9], sLoopA11 LA11)), (18, ([1, 5, 8, 10, 11], sLoopA18 LA18))]⟩ := lp_ok (by
  intro y hy; simp only [List.mem_cons, List.not_mem_nil, or_false] at hy
  rcases hy with rfl | rfl | rfl
  · exact loopOkA5
  · exact loopOkA11
  · exact loopOkA18)
theorem apart_call {l more : List Ac} {sl sm : Value} {oa ob : Option AObj} (hs : SlOf 100 sl oa l) (hm : SlOf 101 sm ob more) (B : Base) : ∃ H', CallH Try.prog 100 B 7 [sl, sm] (hOf 100 [] [oa, ob]) (.returned (.bool true)) H' := by
  obtain ⟨v, objs, h2, h4⟩ := callW (kn_ok all_okA) lps_apart (f := 7) (args := [sl, sm]) (apart_ok hs hm)
  cases h2
  exact ⟨_, h4 B⟩
end
end Go.Proofs.Ytknplaghilagfaa.Po
