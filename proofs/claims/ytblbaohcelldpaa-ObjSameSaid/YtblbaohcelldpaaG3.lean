/- slices.Equal, at each type of elements: are the lists the same? -/
import Derived.Test.YtblbaohcelldpaaG1
namespace Go.Proofs.Ytblbaohcelldpaa.Ob
open Go Go.Abs
set_option linter.unusedVariables false
set_option maxRecDepth 100000
noncomputable section
theorem callW {W : How} {n : Nat} (hkn : KnOk Try.prog 100 W) (hlp : LpOk Try.prog 100 W) {f : FuncId} {args : List Value} {H : Heap} {K : RK} (h : Is (wpe Try.prog (real Try.prog) W n (.call f args H) (retQ 100 K))) :
    ∃ v objs, K v objs ∧ ∀ B, CallH Try.prog 100 B f args H (.returned v) (hOf 100 [] objs) := call_ok okp hkn hlp h.out
theorem next_of {h : Heap} {o : Option AObj} {l : List (Option AObj)} (e : objsOf 100 h = o :: l) : 100 ≤ h.next := by
  have := congrArg List.length e
  rw [objsOf_len, List.length_cons] at this; omega
/-- Rows of integers of these kinds. -/
structure TyL (ks : List IntKind) (vs : List Value) (n : Nat) : Prop where
  len : vs.length = n * ks.length
  cell : ∀ i, i < n → ∀ (j : Nat) k, ks[j]? = some k → ∃ z, vs[i * ks.length + j]? = some (.int k z)
theorem TyL.plain {ks : List IntKind} {vs : List Value} {n : Nat} (h : TyL ks vs n) : plainL vs = true := by
  rw [plainL_iff]
  intro v hv
  obtain ⟨p, hp⟩ := List.getElem?_of_mem hv
  have hlt : p < n * ks.length := by rw [← h.len]; exact (List.getElem?_eq_some_iff.1 hp).1
  have hpos : 0 < ks.length := by
    rcases Nat.eq_zero_or_pos ks.length with e | e
    · rw [e] at hlt; omega
    · exact e
  have hi : p / ks.length < n := (Nat.div_lt_iff_lt_mul hpos).2 hlt
  have hj := Nat.mod_lt p hpos
  obtain ⟨z, hz⟩ := h.cell _ hi (p % ks.length) ks[p % ks.length] (by simp)
  rw [Nat.mul_comm, Nat.div_add_mod, hp] at hz
  simp only [Option.some.injEq] at hz; subst hz; rfl
/-- How a slice is told: nil; of no room; with elements. -/
def Sv (ks : List IntKind) (b : Nat) (x : Value) (o : Option AObj) (vs : List Value) (n : Nat) : Prop :=
  (vs = [] ∧ n = 0 ∧ o = none ∧ x = .slice none 0 0) ∨ (vs = [] ∧ n = 0 ∧ o = none ∧ ∃ sp, x = .slice (some ⟨b, 0, sp⟩) 0 0) ∨
    (TyL ks vs n ∧ n ≤ 9223372036854775807 ∧ ∃ c e q ka wa, o = some (.cells vs e q ka wa) ∧ x = .slice (some ⟨b, 0, none⟩) n c)
section
variable {ks : List IntKind} {b : Nat} {x : Value} {o : Option AObj} {vs : List Value} {n : Nat}
theorem Sv.sl (h : Sv ks b x o vs n) : ∃ a c, x = .slice a n c := by
  rcases h with ⟨_, h, _, e⟩ | ⟨_, h, _, sp, e⟩ | ⟨_, _, c, _, _, _, _, _, e⟩
  · subst h; exact ⟨_, _, e⟩
  · subst h; exact ⟨_, _, e⟩
  · exact ⟨_, _, e⟩
theorem Sv.len (h : Sv ks b x o vs n) : vs.length = n * ks.length := by
  rcases h with ⟨e, h, _, _⟩ | ⟨e, h, _, _⟩ | ⟨h, _⟩
  · subst h; subst e; simp
  · subst h; subst e; simp
  · exact h.len
theorem Sv.plain (h : Sv ks b x o vs n) {o' : AObj} (ho : o = some o') : plainO o' := by
  rcases h with ⟨_, _, e, _⟩ | ⟨_, _, e, _⟩ | ⟨h, _, c, e, q, ka, wa, e', _⟩
  · rw [e] at ho; cases ho
  · rw [e] at ho; cases ho
  · rw [e'] at ho; simp only [Option.some.injEq] at ho; subst ho; simpa [plainO] using h.plain
theorem Sv.pos (h : Sv ks b x o vs n) (hn : 0 < n) : TyL ks vs n ∧ n ≤ 9223372036854775807 ∧ ∃ c e q ka wa, o = some (.cells vs e q ka wa) ∧ x = .slice (some ⟨b, 0, none⟩) n c := by
  rcases h with ⟨_, h, _, _⟩ | ⟨_, h, _, _⟩ | h
  · omega
  · omega
  · exact h
end
theorem ext_row {vs ws : List Value} {i sz : Nat} (h1 : ∀ p, p < i * sz → vs[p]? = ws[p]?) (h2 : ∀ j, j < sz → vs[i * sz + j]? = ws[i * sz + j]?) (p : Nat) (hp : p < (i + 1) * sz) : vs[p]? = ws[p]? := by
  rcases Nat.lt_or_ge p (i * sz) with h | h
  · exact h1 p h
  · have := h2 (p - i * sz) (by rw [Nat.succ_mul] at hp; omega)
    rwa [show i * sz + (p - i * sz) = p by omega] at this
theorem all_row {vs ws : List Value} {n sz : Nat} (hv : vs.length = n * sz) (hw : ws.length = n * sz) (h : ∀ p, p < n * sz → vs[p]? = ws[p]?) : vs = ws := by
  apply List.ext_getElem?
  intro p
  rcases Nat.lt_or_ge p (n * sz) with h' | h'
  · exact h p h'
  · rw [List.getElem?_eq_none (by omega), List.getElem?_eq_none (by omega)]
theorem len_ne {vs ws : List Value} {n m sz : Nat} (hs : 0 < sz) (hv : vs.length = n * sz) (hw : ws.length = m * sz) (h : n ≠ m) : vs ≠ ws := by
  intro e; subst e
  exact h (Nat.eq_of_mul_eq_mul_right hs (hv.symm.trans hw))
theorem len_nil {vs : List Value} {sz : Nat} (hv : vs.length = 0 * sz) : vs = [] := by
  rw [Nat.zero_mul] at hv; exact List.eq_nil_of_length_eq_zero hv
/-- How a loop that holds lists against each other ends. -/
def RE (objs : List (Option AObj)) (P : Prop) (va vb : List Value) (e : Exit) (v : List Value) (o : List (Option AObj)) : Prop := o = objs ∧ ((e = .exit 0 ∧ v = va ∧ P) ∨ (e = .ret ∧ v = vb ∧ ¬ P))
theorem n_lenV {x : Value} {a : Option Addr} {n c : Nat} {K : Nat → Prop} (h : x = .slice a n c) (hk : K n) : (real Try.prog).lenV x K := ⟨a, n, c, h, hk⟩
-- Arm
theorem loopEArm {vs ws : List Value} {ea qa eb qb : Nat} {ka wa kb wb : Bool} {n ca cb : Nat} (hv : TyL [.u32, .i64] vs n) (hw : TyL [.u32, .i64] ws n) (hn : n ≤ 9223372036854775807) {vals : List Value} {hh : Heap} (c : Code) (hc : c = loopIn Try.prog 32 4) {N : Nat} (hN : N = 26)
    (hvals : vals = [.slice (some ⟨100, 0, none⟩) n ca, .slice (some ⟨101, 0, none⟩) n cb, .int .i64 n, .int .i64 0]) (ho : objsOf 100 hh = [some (.cells vs ea qa ka wa), some (.cells ws eb qb kb wb)]) (hle : 100 ≤ hh.next) :
    ∃ e v o, RE [some (.cells vs ea qa ka wa), some (.cells ws eb qb kb wb)] (vs = ws) [top] [.bool false] e v o ∧ ∀ B, Holds Try.prog 100 B (.loop false c ⟨tmOf N [0, 1, 12, 13] vals, [], hh, .run⟩) (.ex e (stOf 100 N [4] (v, o))) := by
  subst hc; subst hN
  exact lp_rule (P := Try.prog) (G := 100) (W := WL) (fuel := 100) (N := 26) (k0 := 2) (live := [0, 1, 12, 13]) (live2 := [4]) (c := loopIn Try.prog 32 4) okp kn_none lp_none (α := { i : Nat // i ≤ n ∧ ∀ p, p < i * 2 → vs[p]? = ws[p]? }) (fun y => n - y.1)
    (fun y => ([.slice (some ⟨100, 0, none⟩) n ca, .slice (some ⟨101, 0, none⟩) n cb, .int .i64 n, .int .i64 y.1], [some (.cells vs ea qa ka wa), some (.cells ws eb qb kb wb)]))
    (RE [some (.cells vs ea qa ka wa), some (.cells ws eb qb kb wb)] (vs = ws) [top] [.bool false]) (by
      rintro ⟨i, hi, hp⟩
      have hg := gLoopEArm_eq (real Try.prog) vs ws ea qa eb qb ka wa kb wb n ca cb i
      unfold gLoopEArm at hg
      refine ⟨?_⟩
      show wpe _ _ _ _ _ _
      generalize hst : stOf 100 26 [0, 1, 12, 13] _ = st
      have e : st = stOf 100 26 [0, 1, 12, 13] ([.slice (some ⟨100, 0, none⟩) n ca, .slice (some ⟨101, 0, none⟩) n cb, .int .i64 n, .int .i64 i], [some (.cells vs ea qa ka wa), some (.cells ws eb qb kb wb)]) := hst.symm
      rw [e, hg]
      refine n_lss (fun h1 => ?_) (fun h1 => ?_)
      · have hi' : i < n := by
          have h2 : (i : Int) < (n : Int) := h1
          omega
        obtain ⟨x0, hx0⟩ := hv.cell i hi' 0 _ rfl
        have gx0 : vs[0 + i * 2]? = some (.int .u32 x0) := by rw [← hx0]; congr 1; simp only [List.length_cons, List.length_nil]; omega
        obtain ⟨x1, hx1⟩ := hv.cell i hi' 1 _ rfl
        have gx1 : vs[0 + i * 2 + 1]? = some (.int .i64 x1) := by rw [← hx1]; congr 1; simp only [List.length_cons, List.length_nil]; omega
        obtain ⟨y0, hy0⟩ := hw.cell i hi' 0 _ rfl
        have gy0 : ws[0 + i * 2]? = some (.int .u32 y0) := by rw [← hy0]; congr 1; simp only [List.length_cons, List.length_nil]; omega
        obtain ⟨y1, hy1⟩ := hw.cell i hi' 1 _ rfl
        have gy1 : ws[0 + i * 2 + 1]? = some (.int .i64 y1) := by rw [← hy1]; congr 1; simp only [List.length_cons, List.length_nil]; omega
        refine n_idx i rfl hi' (n_rdI gx0 (n_rdI gx1 (n_idx i rfl hi' (n_rdI gy0 (n_rdI gy1 ?_)))))
        refine n_agNeq (ps := [(x0, y0), (x1, y1)]) (by kernel_rfl) (by kernel_rfl) rfl rfl (fun hf => ?_) (fun ht => n_add (by omega) (by omega) ?_)
        · refine ⟨[], _, _, names_id' rfl rfl rfl, rfl, .inr ⟨rfl, rfl, fun hh => ?_⟩⟩
          subst hh
          have ex0 : x0 = y0 := by have := hx0.symm.trans hy0; simpa using this
          have ex1 : x1 = y1 := by have := hx1.symm.trans hy1; simpa using this
          rw [show allEq _ = true from by simp only [allEq, List.all_cons, List.all_nil, ex0, ex1, beq_self_eq_true, Bool.and_self]] at hf
          cases hf
        · refine ⟨⟨i + 1, by omega, ext_row (sz := 2) hp (fun j hj => ?_)⟩, [], by simp only; omega, names_id' rfl rfl rfl⟩
          simp only [allEq, List.all_cons, List.all_nil, Bool.and_eq_true, beq_iff_eq, and_true] at ht
          obtain ⟨ex0, ex1⟩ := ht
          match j, hj with
          | 0, _ => exact (show _ = _ from hx0).trans (by rw [ex0]; exact (show _ = _ from hy0).symm)
          | 1, _ => exact (show _ = _ from hx1).trans (by rw [ex1]; exact (show _ = _ from hy1).symm)
          | j + 2, hj => omega
      · have h2 : ¬ (i : Int) < (n : Int) := h1
        have : i = n := by omega
        subst this
        exact ⟨[], _, _, names_id' rfl rfl rfl, rfl, .inl ⟨rfl, rfl, all_row hv.len hw.len hp⟩⟩)
    ⟨0, Nat.zero_le _, fun p hp => absurd hp (by omega)⟩ rfl (vals := vals) (h := hh) hvals ho hle
def LEArm (vs ws : List Value) (ea qa eb qb : Nat) (ka wa kb wb : Bool) (n ca cb : Nat) : LT := fun c N vals objs T F => c = loopIn Try.prog 32 4 ∧ N = 26 ∧ vals = [.slice (some ⟨100, 0, none⟩) n ca, .slice (some ⟨101, 0, none⟩) n cb, .int .i64 n, .int .i64 0] ∧ objs = [some (.cells vs ea qa ka wa), some (.cells ws eb qb kb wb)] ∧ (vs = ws → T) ∧ (vs ≠ ws → F)
theorem loopOkEArm {vs ws : List Value} {ea qa eb qb : Nat} {ka wa kb wb : Bool} {n ca cb : Nat} (hv : TyL [.u32, .i64] vs n) (hw : TyL [.u32, .i64] ws n) (hn : n ≤ 9223372036854775807) : LoopOk Try.prog 100 [0, 1, 12, 13] (sLoopE (LEArm vs ws ea qa eb qb ka wa kb wb n ca cb)) := by
  intro c N vals h Q hS
  obtain ⟨h1, h2, h3, h4, hT, hF⟩ := hS
  obtain ⟨e, v, o, ⟨q1, q2⟩, q3⟩ := loopEArm hv hw hn c h1 h2 h3 h4 (next_of h4)
  rw [h4] at hT hF
  subst q1
  rcases q2 with ⟨r1, r2, r3⟩ | ⟨r1, r2, r3⟩
  · subst r1; subst r2; exact ⟨_, q3, hT r3⟩
  · subst r1; subst r2; exact ⟨_, q3, hF r3⟩
theorem eqCArm {vs ws : List Value} {ea qa eb qb : Nat} {ka wa kb wb : Bool} {n ca cb : Nat} (hv : TyL [.u32, .i64] vs n) (hw : TyL [.u32, .i64] ws n) (hn : n ≤ 9223372036854775807) :
    ∃ t, (t = true ↔ vs = ws) ∧ ∀ B, CallH Try.prog 100 B 32 [.slice (some ⟨100, 0, none⟩) n ca, .slice (some ⟨101, 0, none⟩) n cb] (hOf 100 [] [some (.cells vs ea qa ka wa), some (.cells ws eb qb kb wb)]) (.returned (.bool t)) (hOf 100 [] [some (.cells vs ea qa ka wa), some (.cells ws eb qb kb wb)]) := by
  have h0 : Is (gEqArm (real Try.prog) (LEArm vs ws ea qa eb qb ka wa kb wb n ca cb) vs ws ea qa eb qb ka wa kb wb n ca cb (fun v objs => ∃ t, (t = true ↔ vs = ws) ∧ v = .bool t ∧ objs = [some (.cells vs ea qa ka wa), some (.cells ws eb qb kb wb)])) := by
    refine ⟨?_⟩
    rw [gEqArm_eq]
    exact n_neq (fun h => absurd rfl h) (fun _ => ⟨rfl, rfl, rfl, rfl, fun h => ⟨true, by simp [h], rfl, rfl⟩, fun h => ⟨false, by simp [h], rfl, rfl⟩⟩)
  obtain ⟨v, objs, ⟨t, h1, h2, h3⟩, h4⟩ := callW kn_none (lp_ok (l := [(4, ([0, 1, 12, 13], sLoopE (LEArm vs ws ea qa eb qb ka wa kb wb n ca cb)))]) (by
    intro y hy; simp only [List.mem_cons, List.not_mem_nil, or_false] at hy; subst hy; exact loopOkEArm hv hw hn)) (f := 32) (args := [.slice (some ⟨100, 0, none⟩) n ca, .slice (some ⟨101, 0, none⟩) n cb]) h0
  subst h2; subst h3
  exact ⟨t, h1, h4⟩
theorem eqArm {x y : Value} {oa ob : Option AObj} {vs ws : List Value} {n m : Nat} (hx : Sv [.u32, .i64] 100 x oa vs n) (hy : Sv [.u32, .i64] 101 y ob ws m) :
    ∃ t, (t = true ↔ vs = ws) ∧ ∀ B, CallH Try.prog 100 B 32 [x, y] (hOf 100 [] [oa, ob]) (.returned (.bool t)) (hOf 100 [] [oa, ob]) := by
  by_cases h : n = m ∧ 0 < n
  · obtain ⟨e, hp⟩ := h
    subst e
    obtain ⟨hv, hn, ca, ea, qa, ka, wa, e1, e2⟩ := hx.pos hp
    obtain ⟨hw, _, cb, eb, qb, kb, wb, e3, e4⟩ := hy.pos hp
    subst e1; subst e2; subst e3; subst e4
    exact eqCArm hv hw hn
  · obtain ⟨a1, c1, ex⟩ := hx.sl
    obtain ⟨a2, c2, ey⟩ := hy.sl
    have h0 : Is (gEqoArm (real Try.prog) x y oa ob (fun v objs => ∃ t, (t = true ↔ vs = ws) ∧ v = .bool t ∧ objs = [oa, ob])) := by
      refine ⟨?_⟩
      rw [gEqoArm_eq]
      refine n_lenV ex (n_lenV ey (n_neq (fun hne => ?_) (fun he => n_lenV ex (n_lss (fun hl => ?_) (fun hl => ?_)))))
      · exact ⟨false, by simp only [Bool.false_eq_true, false_iff]; exact len_ne (sz := 2) (by omega) hx.len hy.len (fun e => hne (by rw [e])), rfl, rfl⟩
      · have e1 : n = m := Int.ofNat_inj.1 he
        have e2 : 0 < n := Int.ofNat_lt.1 hl
        exact h ⟨e1, e2⟩
      · have e1 : n = m := Int.ofNat_inj.1 he
        have e2 : n = 0 := by
          rcases Nat.eq_zero_or_pos n with e | e
          · exact e
          · exact absurd (Int.ofNat_lt.2 e) hl
        subst e1; subst e2
        exact ⟨true, by simp only [true_iff]; rw [len_nil hx.len, len_nil hy.len], rfl, rfl⟩
    obtain ⟨v, objs, ⟨t, h1, h2, h3⟩, h4⟩ := callW kn_none lp_none (f := 32) (args := [x, y]) h0
    subst h2; subst h3
    exact ⟨t, h1, h4⟩
-- Int
theorem loopEInt {vs ws : List Value} {ea qa eb qb : Nat} {ka wa kb wb : Bool} {n ca cb : Nat} (hv : TyL [.i64] vs n) (hw : TyL [.i64] ws n) (hn : n ≤ 9223372036854775807) {vals : List Value} {hh : Heap} (c : Code) (hc : c = loopIn Try.prog 33 4) {N : Nat} (hN : N = 26)
    (hvals : vals = [.slice (some ⟨100, 0, none⟩) n ca, .slice (some ⟨101, 0, none⟩) n cb, .int .i64 n, .int .i64 0]) (ho : objsOf 100 hh = [some (.cells vs ea qa ka wa), some (.cells ws eb qb kb wb)]) (hle : 100 ≤ hh.next) :
    ∃ e v o, RE [some (.cells vs ea qa ka wa), some (.cells ws eb qb kb wb)] (vs = ws) [top] [.bool false] e v o ∧ ∀ B, Holds Try.prog 100 B (.loop false c ⟨tmOf N [0, 1, 12, 13] vals, [], hh, .run⟩) (.ex e (stOf 100 N [4] (v, o))) := by
  subst hc; subst hN
  exact lp_rule (P := Try.prog) (G := 100) (W := WL) (fuel := 100) (N := 26) (k0 := 2) (live := [0, 1, 12, 13]) (live2 := [4]) (c := loopIn Try.prog 33 4) okp kn_none lp_none (α := { i : Nat // i ≤ n ∧ ∀ p, p < i * 1 → vs[p]? = ws[p]? }) (fun y => n - y.1)
    (fun y => ([.slice (some ⟨100, 0, none⟩) n ca, .slice (some ⟨101, 0, none⟩) n cb, .int .i64 n, .int .i64 y.1], [some (.cells vs ea qa ka wa), some (.cells ws eb qb kb wb)]))
    (RE [some (.cells vs ea qa ka wa), some (.cells ws eb qb kb wb)] (vs = ws) [top] [.bool false]) (by
      rintro ⟨i, hi, hp⟩
      have hg := gLoopEInt_eq (real Try.prog) vs ws ea qa eb qb ka wa kb wb n ca cb i
      unfold gLoopEInt at hg
      refine ⟨?_⟩
      show wpe _ _ _ _ _ _
      generalize hst : stOf 100 26 [0, 1, 12, 13] _ = st
      have e : st = stOf 100 26 [0, 1, 12, 13] ([.slice (some ⟨100, 0, none⟩) n ca, .slice (some ⟨101, 0, none⟩) n cb, .int .i64 n, .int .i64 i], [some (.cells vs ea qa ka wa), some (.cells ws eb qb kb wb)]) := hst.symm
      rw [e, hg]
      refine n_lss (fun h1 => ?_) (fun h1 => ?_)
      · have hi' : i < n := by
          have h2 : (i : Int) < (n : Int) := h1
          omega
        obtain ⟨x0, hx0⟩ := hv.cell i hi' 0 _ rfl
        have gx0 : vs[0 + i * 1]? = some (.int .i64 x0) := by rw [← hx0]; congr 1; simp only [List.length_cons, List.length_nil]; omega
        obtain ⟨y0, hy0⟩ := hw.cell i hi' 0 _ rfl
        have gy0 : ws[0 + i * 1]? = some (.int .i64 y0) := by rw [← hy0]; congr 1; simp only [List.length_cons, List.length_nil]; omega
        refine n_idx i rfl hi' (n_rdI gx0 (n_idx i rfl hi' (n_rdI gy0 ?_)))
        refine n_neq (fun hf => ?_) (fun ht => n_add (by omega) (by omega) ?_)
        · refine ⟨[], _, _, names_id' rfl rfl rfl, rfl, .inr ⟨rfl, rfl, fun hh => ?_⟩⟩
          subst hh
          have ex0 : x0 = y0 := by have := hx0.symm.trans hy0; simpa using this
          exact hf ex0
        · refine ⟨⟨i + 1, by omega, ext_row (sz := 1) hp (fun j hj => ?_)⟩, [], by simp only; omega, names_id' rfl rfl rfl⟩
          have ex0 := ht
          match j, hj with
          | 0, _ => exact (show _ = _ from hx0).trans (by rw [ex0]; exact (show _ = _ from hy0).symm)
          | j + 1, hj => omega
      · have h2 : ¬ (i : Int) < (n : Int) := h1
        have : i = n := by omega
        subst this
        exact ⟨[], _, _, names_id' rfl rfl rfl, rfl, .inl ⟨rfl, rfl, all_row hv.len hw.len hp⟩⟩)
    ⟨0, Nat.zero_le _, fun p hp => absurd hp (by omega)⟩ rfl (vals := vals) (h := hh) hvals ho hle
def LEInt (vs ws : List Value) (ea qa eb qb : Nat) (ka wa kb wb : Bool) (n ca cb : Nat) : LT := fun c N vals objs T F => c = loopIn Try.prog 33 4 ∧ N = 26 ∧ vals = [.slice (some ⟨100, 0, none⟩) n ca, .slice (some ⟨101, 0, none⟩) n cb, .int .i64 n, .int .i64 0] ∧ objs = [some (.cells vs ea qa ka wa), some (.cells ws eb qb kb wb)] ∧ (vs = ws → T) ∧ (vs ≠ ws → F)
theorem loopOkEInt {vs ws : List Value} {ea qa eb qb : Nat} {ka wa kb wb : Bool} {n ca cb : Nat} (hv : TyL [.i64] vs n) (hw : TyL [.i64] ws n) (hn : n ≤ 9223372036854775807) : LoopOk Try.prog 100 [0, 1, 12, 13] (sLoopE (LEInt vs ws ea qa eb qb ka wa kb wb n ca cb)) := by
  intro c N vals h Q hS
  obtain ⟨h1, h2, h3, h4, hT, hF⟩ := hS
  obtain ⟨e, v, o, ⟨q1, q2⟩, q3⟩ := loopEInt hv hw hn c h1 h2 h3 h4 (next_of h4)
  rw [h4] at hT hF
  subst q1
  rcases q2 with ⟨r1, r2, r3⟩ | ⟨r1, r2, r3⟩
  · subst r1; subst r2; exact ⟨_, q3, hT r3⟩
  · subst r1; subst r2; exact ⟨_, q3, hF r3⟩
theorem eqCInt {vs ws : List Value} {ea qa eb qb : Nat} {ka wa kb wb : Bool} {n ca cb : Nat} (hv : TyL [.i64] vs n) (hw : TyL [.i64] ws n) (hn : n ≤ 9223372036854775807) :
    ∃ t, (t = true ↔ vs = ws) ∧ ∀ B, CallH Try.prog 100 B 33 [.slice (some ⟨100, 0, none⟩) n ca, .slice (some ⟨101, 0, none⟩) n cb] (hOf 100 [] [some (.cells vs ea qa ka wa), some (.cells ws eb qb kb wb)]) (.returned (.bool t)) (hOf 100 [] [some (.cells vs ea qa ka wa), some (.cells ws eb qb kb wb)]) := by
  have h0 : Is (gEqInt (real Try.prog) (LEInt vs ws ea qa eb qb ka wa kb wb n ca cb) vs ws ea qa eb qb ka wa kb wb n ca cb (fun v objs => ∃ t, (t = true ↔ vs = ws) ∧ v = .bool t ∧ objs = [some (.cells vs ea qa ka wa), some (.cells ws eb qb kb wb)])) := by
    refine ⟨?_⟩
    rw [gEqInt_eq]
    exact n_neq (fun h => absurd rfl h) (fun _ => ⟨rfl, rfl, rfl, rfl, fun h => ⟨true, by simp [h], rfl, rfl⟩, fun h => ⟨false, by simp [h], rfl, rfl⟩⟩)
  obtain ⟨v, objs, ⟨t, h1, h2, h3⟩, h4⟩ := callW kn_none (lp_ok (l := [(4, ([0, 1, 12, 13], sLoopE (LEInt vs ws ea qa eb qb ka wa kb wb n ca cb)))]) (by
    intro y hy; simp only [List.mem_cons, List.not_mem_nil, or_false] at hy; subst hy; exact loopOkEInt hv hw hn)) (f := 33) (args := [.slice (some ⟨100, 0, none⟩) n ca, .slice (some ⟨101, 0, none⟩) n cb]) h0
  subst h2; subst h3
  exact ⟨t, h1, h4⟩
theorem eqInt {x y : Value} {oa ob : Option AObj} {vs ws : List Value} {n m : Nat} (hx : Sv [.i64] 100 x oa vs n) (hy : Sv [.i64] 101 y ob ws m) :
    ∃ t, (t = true ↔ vs = ws) ∧ ∀ B, CallH Try.prog 100 B 33 [x, y] (hOf 100 [] [oa, ob]) (.returned (.bool t)) (hOf 100 [] [oa, ob]) := by
  by_cases h : n = m ∧ 0 < n
  · obtain ⟨e, hp⟩ := h
    subst e
    obtain ⟨hv, hn, ca, ea, qa, ka, wa, e1, e2⟩ := hx.pos hp
    obtain ⟨hw, _, cb, eb, qb, kb, wb, e3, e4⟩ := hy.pos hp
    subst e1; subst e2; subst e3; subst e4
    exact eqCInt hv hw hn
  · obtain ⟨a1, c1, ex⟩ := hx.sl
    obtain ⟨a2, c2, ey⟩ := hy.sl
    have h0 : Is (gEqoInt (real Try.prog) x y oa ob (fun v objs => ∃ t, (t = true ↔ vs = ws) ∧ v = .bool t ∧ objs = [oa, ob])) := by
      refine ⟨?_⟩
      rw [gEqoInt_eq]
      refine n_lenV ex (n_lenV ey (n_neq (fun hne => ?_) (fun he => n_lenV ex (n_lss (fun hl => ?_) (fun hl => ?_)))))
      · exact ⟨false, by simp only [Bool.false_eq_true, false_iff]; exact len_ne (sz := 1) (by omega) hx.len hy.len (fun e => hne (by rw [e])), rfl, rfl⟩
      · have e1 : n = m := Int.ofNat_inj.1 he
        have e2 : 0 < n := Int.ofNat_lt.1 hl
        exact h ⟨e1, e2⟩
      · have e1 : n = m := Int.ofNat_inj.1 he
        have e2 : n = 0 := by
          rcases Nat.eq_zero_or_pos n with e | e
          · exact e
          · exact absurd (Int.ofNat_lt.2 e) hl
        subst e1; subst e2
        exact ⟨true, by simp only [true_iff]; rw [len_nil hx.len, len_nil hy.len], rfl, rfl⟩
    obtain ⟨v, objs, ⟨t, h1, h2, h3⟩, h4⟩ := callW kn_none lp_none (f := 33) (args := [x, y]) h0
    subst h2; subst h3
    exact ⟨t, h1, h4⟩
-- U64
theorem loopEU64 {vs ws : List Value} {ea qa eb qb : Nat} {ka wa kb wb : Bool} {n ca cb : Nat} (hv : TyL [.u64] vs n) (hw : TyL [.u64] ws n) (hn : n ≤ 9223372036854775807) {vals : List Value} {hh : Heap} (c : Code) (hc : c = loopIn Try.prog 34 4) {N : Nat} (hN : N = 26)
    (hvals : vals = [.slice (some ⟨100, 0, none⟩) n ca, .slice (some ⟨101, 0, none⟩) n cb, .int .i64 n, .int .i64 0]) (ho : objsOf 100 hh = [some (.cells vs ea qa ka wa), some (.cells ws eb qb kb wb)]) (hle : 100 ≤ hh.next) :
    ∃ e v o, RE [some (.cells vs ea qa ka wa), some (.cells ws eb qb kb wb)] (vs = ws) [top] [.bool false] e v o ∧ ∀ B, Holds Try.prog 100 B (.loop false c ⟨tmOf N [0, 1, 12, 13] vals, [], hh, .run⟩) (.ex e (stOf 100 N [4] (v, o))) := by
  subst hc; subst hN
  exact lp_rule (P := Try.prog) (G := 100) (W := WL) (fuel := 100) (N := 26) (k0 := 2) (live := [0, 1, 12, 13]) (live2 := [4]) (c := loopIn Try.prog 34 4) okp kn_none lp_none (α := { i : Nat // i ≤ n ∧ ∀ p, p < i * 1 → vs[p]? = ws[p]? }) (fun y => n - y.1)
    (fun y => ([.slice (some ⟨100, 0, none⟩) n ca, .slice (some ⟨101, 0, none⟩) n cb, .int .i64 n, .int .i64 y.1], [some (.cells vs ea qa ka wa), some (.cells ws eb qb kb wb)]))
    (RE [some (.cells vs ea qa ka wa), some (.cells ws eb qb kb wb)] (vs = ws) [top] [.bool false]) (by
      rintro ⟨i, hi, hp⟩
      have hg := gLoopEU64_eq (real Try.prog) vs ws ea qa eb qb ka wa kb wb n ca cb i
      unfold gLoopEU64 at hg
      refine ⟨?_⟩
      show wpe _ _ _ _ _ _
      generalize hst : stOf 100 26 [0, 1, 12, 13] _ = st
      have e : st = stOf 100 26 [0, 1, 12, 13] ([.slice (some ⟨100, 0, none⟩) n ca, .slice (some ⟨101, 0, none⟩) n cb, .int .i64 n, .int .i64 i], [some (.cells vs ea qa ka wa), some (.cells ws eb qb kb wb)]) := hst.symm
      rw [e, hg]
      refine n_lss (fun h1 => ?_) (fun h1 => ?_)
      · have hi' : i < n := by
          have h2 : (i : Int) < (n : Int) := h1
          omega
        obtain ⟨x0, hx0⟩ := hv.cell i hi' 0 _ rfl
        have gx0 : vs[0 + i * 1]? = some (.int .u64 x0) := by rw [← hx0]; congr 1; simp only [List.length_cons, List.length_nil]; omega
        obtain ⟨y0, hy0⟩ := hw.cell i hi' 0 _ rfl
        have gy0 : ws[0 + i * 1]? = some (.int .u64 y0) := by rw [← hy0]; congr 1; simp only [List.length_cons, List.length_nil]; omega
        refine n_idx i rfl hi' (n_rdI gx0 (n_idx i rfl hi' (n_rdI gy0 ?_)))
        refine n_neq (fun hf => ?_) (fun ht => n_add (by omega) (by omega) ?_)
        · refine ⟨[], _, _, names_id' rfl rfl rfl, rfl, .inr ⟨rfl, rfl, fun hh => ?_⟩⟩
          subst hh
          have ex0 : x0 = y0 := by have := hx0.symm.trans hy0; simpa using this
          exact hf ex0
        · refine ⟨⟨i + 1, by omega, ext_row (sz := 1) hp (fun j hj => ?_)⟩, [], by simp only; omega, names_id' rfl rfl rfl⟩
          have ex0 := ht
          match j, hj with
          | 0, _ => exact (show _ = _ from hx0).trans (by rw [ex0]; exact (show _ = _ from hy0).symm)
          | j + 1, hj => omega
      · have h2 : ¬ (i : Int) < (n : Int) := h1
        have : i = n := by omega
        subst this
        exact ⟨[], _, _, names_id' rfl rfl rfl, rfl, .inl ⟨rfl, rfl, all_row hv.len hw.len hp⟩⟩)
    ⟨0, Nat.zero_le _, fun p hp => absurd hp (by omega)⟩ rfl (vals := vals) (h := hh) hvals ho hle
def LEU64 (vs ws : List Value) (ea qa eb qb : Nat) (ka wa kb wb : Bool) (n ca cb : Nat) : LT := fun c N vals objs T F => c = loopIn Try.prog 34 4 ∧ N = 26 ∧ vals = [.slice (some ⟨100, 0, none⟩) n ca, .slice (some ⟨101, 0, none⟩) n cb, .int .i64 n, .int .i64 0] ∧ objs = [some (.cells vs ea qa ka wa), some (.cells ws eb qb kb wb)] ∧ (vs = ws → T) ∧ (vs ≠ ws → F)
theorem loopOkEU64 {vs ws : List Value} {ea qa eb qb : Nat} {ka wa kb wb : Bool} {n ca cb : Nat} (hv : TyL [.u64] vs n) (hw : TyL [.u64] ws n) (hn : n ≤ 9223372036854775807) : LoopOk Try.prog 100 [0, 1, 12, 13] (sLoopE (LEU64 vs ws ea qa eb qb ka wa kb wb n ca cb)) := by
  intro c N vals h Q hS
  obtain ⟨h1, h2, h3, h4, hT, hF⟩ := hS
  obtain ⟨e, v, o, ⟨q1, q2⟩, q3⟩ := loopEU64 hv hw hn c h1 h2 h3 h4 (next_of h4)
  rw [h4] at hT hF
  subst q1
  rcases q2 with ⟨r1, r2, r3⟩ | ⟨r1, r2, r3⟩
  · subst r1; subst r2; exact ⟨_, q3, hT r3⟩
  · subst r1; subst r2; exact ⟨_, q3, hF r3⟩
theorem eqCU64 {vs ws : List Value} {ea qa eb qb : Nat} {ka wa kb wb : Bool} {n ca cb : Nat} (hv : TyL [.u64] vs n) (hw : TyL [.u64] ws n) (hn : n ≤ 9223372036854775807) :
    ∃ t, (t = true ↔ vs = ws) ∧ ∀ B, CallH Try.prog 100 B 34 [.slice (some ⟨100, 0, none⟩) n ca, .slice (some ⟨101, 0, none⟩) n cb] (hOf 100 [] [some (.cells vs ea qa ka wa), some (.cells ws eb qb kb wb)]) (.returned (.bool t)) (hOf 100 [] [some (.cells vs ea qa ka wa), some (.cells ws eb qb kb wb)]) := by
  have h0 : Is (gEqU64 (real Try.prog) (LEU64 vs ws ea qa eb qb ka wa kb wb n ca cb) vs ws ea qa eb qb ka wa kb wb n ca cb (fun v objs => ∃ t, (t = true ↔ vs = ws) ∧ v = .bool t ∧ objs = [some (.cells vs ea qa ka wa), some (.cells ws eb qb kb wb)])) := by
    refine ⟨?_⟩
    rw [gEqU64_eq]
    exact n_neq (fun h => absurd rfl h) (fun _ => ⟨rfl, rfl, rfl, rfl, fun h => ⟨true, by simp [h], rfl, rfl⟩, fun h => ⟨false, by simp [h], rfl, rfl⟩⟩)
  obtain ⟨v, objs, ⟨t, h1, h2, h3⟩, h4⟩ := callW kn_none (lp_ok (l := [(4, ([0, 1, 12, 13], sLoopE (LEU64 vs ws ea qa eb qb ka wa kb wb n ca cb)))]) (by
    intro y hy; simp only [List.mem_cons, List.not_mem_nil, or_false] at hy; subst hy; exact loopOkEU64 hv hw hn)) (f := 34) (args := [.slice (some ⟨100, 0, none⟩) n ca, .slice (some ⟨101, 0, none⟩) n cb]) h0
  subst h2; subst h3
  exact ⟨t, h1, h4⟩
theorem eqU64 {x y : Value} {oa ob : Option AObj} {vs ws : List Value} {n m : Nat} (hx : Sv [.u64] 100 x oa vs n) (hy : Sv [.u64] 101 y ob ws m) :
    ∃ t, (t = true ↔ vs = ws) ∧ ∀ B, CallH Try.prog 100 B 34 [x, y] (hOf 100 [] [oa, ob]) (.returned (.bool t)) (hOf 100 [] [oa, ob]) := by
  by_cases h : n = m ∧ 0 < n
  · obtain ⟨e, hp⟩ := h
    subst e
    obtain ⟨hv, hn, ca, ea, qa, ka, wa, e1, e2⟩ := hx.pos hp
    obtain ⟨hw, _, cb, eb, qb, kb, wb, e3, e4⟩ := hy.pos hp
    subst e1; subst e2; subst e3; subst e4
    exact eqCU64 hv hw hn
  · obtain ⟨a1, c1, ex⟩ := hx.sl
    obtain ⟨a2, c2, ey⟩ := hy.sl
    have h0 : Is (gEqoU64 (real Try.prog) x y oa ob (fun v objs => ∃ t, (t = true ↔ vs = ws) ∧ v = .bool t ∧ objs = [oa, ob])) := by
      refine ⟨?_⟩
      rw [gEqoU64_eq]
      refine n_lenV ex (n_lenV ey (n_neq (fun hne => ?_) (fun he => n_lenV ex (n_lss (fun hl => ?_) (fun hl => ?_)))))
      · exact ⟨false, by simp only [Bool.false_eq_true, false_iff]; exact len_ne (sz := 1) (by omega) hx.len hy.len (fun e => hne (by rw [e])), rfl, rfl⟩
      · have e1 : n = m := Int.ofNat_inj.1 he
        have e2 : 0 < n := Int.ofNat_lt.1 hl
        exact h ⟨e1, e2⟩
      · have e1 : n = m := Int.ofNat_inj.1 he
        have e2 : n = 0 := by
          rcases Nat.eq_zero_or_pos n with e | e
          · exact e
          · exact absurd (Int.ofNat_lt.2 e) hl
        subst e1; subst e2
        exact ⟨true, by simp only [true_iff]; rw [len_nil hx.len, len_nil hy.len], rfl, rfl⟩
    obtain ⟨v, objs, ⟨t, h1, h2, h3⟩, h4⟩ := callW kn_none lp_none (f := 34) (args := [x, y]) h0
    subst h2; subst h3
    exact ⟨t, h1, h4⟩
-- Ins
theorem loopEIns {vs ws : List Value} {ea qa eb qb : Nat} {ka wa kb wb : Bool} {n ca cb : Nat} (hv : TyL [.u8, .i64, .u8, .u64, .u8, .u64, .i64] vs n) (hw : TyL [.u8, .i64, .u8, .u64, .u8, .u64, .i64] ws n) (hn : n ≤ 9223372036854775807) {vals : List Value} {hh : Heap} (c : Code) (hc : c = loopIn Try.prog 35 4) {N : Nat} (hN : N = 26)
    (hvals : vals = [.slice (some ⟨100, 0, none⟩) n ca, .slice (some ⟨101, 0, none⟩) n cb, .int .i64 n, .int .i64 0]) (ho : objsOf 100 hh = [some (.cells vs ea qa ka wa), some (.cells ws eb qb kb wb)]) (hle : 100 ≤ hh.next) :
    ∃ e v o, RE [some (.cells vs ea qa ka wa), some (.cells ws eb qb kb wb)] (vs = ws) [top] [.bool false] e v o ∧ ∀ B, Holds Try.prog 100 B (.loop false c ⟨tmOf N [0, 1, 12, 13] vals, [], hh, .run⟩) (.ex e (stOf 100 N [4] (v, o))) := by
  subst hc; subst hN
  exact lp_rule (P := Try.prog) (G := 100) (W := WL) (fuel := 100) (N := 26) (k0 := 2) (live := [0, 1, 12, 13]) (live2 := [4]) (c := loopIn Try.prog 35 4) okp kn_none lp_none (α := { i : Nat // i ≤ n ∧ ∀ p, p < i * 7 → vs[p]? = ws[p]? }) (fun y => n - y.1)
    (fun y => ([.slice (some ⟨100, 0, none⟩) n ca, .slice (some ⟨101, 0, none⟩) n cb, .int .i64 n, .int .i64 y.1], [some (.cells vs ea qa ka wa), some (.cells ws eb qb kb wb)]))
    (RE [some (.cells vs ea qa ka wa), some (.cells ws eb qb kb wb)] (vs = ws) [top] [.bool false]) (by
      rintro ⟨i, hi, hp⟩
      have hg := gLoopEIns_eq (real Try.prog) vs ws ea qa eb qb ka wa kb wb n ca cb i
      unfold gLoopEIns at hg
      refine ⟨?_⟩
      show wpe _ _ _ _ _ _
      generalize hst : stOf 100 26 [0, 1, 12, 13] _ = st
      have e : st = stOf 100 26 [0, 1, 12, 13] ([.slice (some ⟨100, 0, none⟩) n ca, .slice (some ⟨101, 0, none⟩) n cb, .int .i64 n, .int .i64 i], [some (.cells vs ea qa ka wa), some (.cells ws eb qb kb wb)]) := hst.symm
      rw [e, hg]
      refine n_lss (fun h1 => ?_) (fun h1 => ?_)
      · have hi' : i < n := by
          have h2 : (i : Int) < (n : Int) := h1
          omega
        obtain ⟨x0, hx0⟩ := hv.cell i hi' 0 _ rfl
        have gx0 : vs[0 + i * 7]? = some (.int .u8 x0) := by rw [← hx0]; congr 1; simp only [List.length_cons, List.length_nil]; omega
        obtain ⟨x1, hx1⟩ := hv.cell i hi' 1 _ rfl
        have gx1 : vs[0 + i * 7 + 1]? = some (.int .i64 x1) := by rw [← hx1]; congr 1; simp only [List.length_cons, List.length_nil]; omega
        obtain ⟨x2, hx2⟩ := hv.cell i hi' 2 _ rfl
        have gx2 : vs[0 + i * 7 + 2]? = some (.int .u8 x2) := by rw [← hx2]; congr 1; simp only [List.length_cons, List.length_nil]; omega
        obtain ⟨x3, hx3⟩ := hv.cell i hi' 3 _ rfl
        have gx3 : vs[0 + i * 7 + 3]? = some (.int .u64 x3) := by rw [← hx3]; congr 1; simp only [List.length_cons, List.length_nil]; omega
        obtain ⟨x4, hx4⟩ := hv.cell i hi' 4 _ rfl
        have gx4 : vs[0 + i * 7 + 4]? = some (.int .u8 x4) := by rw [← hx4]; congr 1; simp only [List.length_cons, List.length_nil]; omega
        obtain ⟨x5, hx5⟩ := hv.cell i hi' 5 _ rfl
        have gx5 : vs[0 + i * 7 + 5]? = some (.int .u64 x5) := by rw [← hx5]; congr 1; simp only [List.length_cons, List.length_nil]; omega
        obtain ⟨x6, hx6⟩ := hv.cell i hi' 6 _ rfl
        have gx6 : vs[0 + i * 7 + 6]? = some (.int .i64 x6) := by rw [← hx6]; congr 1; simp only [List.length_cons, List.length_nil]; omega
        obtain ⟨y0, hy0⟩ := hw.cell i hi' 0 _ rfl
        have gy0 : ws[0 + i * 7]? = some (.int .u8 y0) := by rw [← hy0]; congr 1; simp only [List.length_cons, List.length_nil]; omega
        obtain ⟨y1, hy1⟩ := hw.cell i hi' 1 _ rfl
        have gy1 : ws[0 + i * 7 + 1]? = some (.int .i64 y1) := by rw [← hy1]; congr 1; simp only [List.length_cons, List.length_nil]; omega
        obtain ⟨y2, hy2⟩ := hw.cell i hi' 2 _ rfl
        have gy2 : ws[0 + i * 7 + 2]? = some (.int .u8 y2) := by rw [← hy2]; congr 1; simp only [List.length_cons, List.length_nil]; omega
        obtain ⟨y3, hy3⟩ := hw.cell i hi' 3 _ rfl
        have gy3 : ws[0 + i * 7 + 3]? = some (.int .u64 y3) := by rw [← hy3]; congr 1; simp only [List.length_cons, List.length_nil]; omega
        obtain ⟨y4, hy4⟩ := hw.cell i hi' 4 _ rfl
        have gy4 : ws[0 + i * 7 + 4]? = some (.int .u8 y4) := by rw [← hy4]; congr 1; simp only [List.length_cons, List.length_nil]; omega
        obtain ⟨y5, hy5⟩ := hw.cell i hi' 5 _ rfl
        have gy5 : ws[0 + i * 7 + 5]? = some (.int .u64 y5) := by rw [← hy5]; congr 1; simp only [List.length_cons, List.length_nil]; omega
        obtain ⟨y6, hy6⟩ := hw.cell i hi' 6 _ rfl
        have gy6 : ws[0 + i * 7 + 6]? = some (.int .i64 y6) := by rw [← hy6]; congr 1; simp only [List.length_cons, List.length_nil]; omega
        refine n_idx i rfl hi' (n_rdI gx0 (n_rdI gx1 (n_rdI gx2 (n_rdI gx3 (n_rdI gx4 (n_rdI gx5 (n_rdI gx6 (n_idx i rfl hi' (n_rdI gy0 (n_rdI gy1 (n_rdI gy2 (n_rdI gy3 (n_rdI gy4 (n_rdI gy5 (n_rdI gy6 ?_)))))))))))))))
        refine n_agNeq (ps := [(x0, y0), (x1, y1), (x2, y2), (x3, y3), (x4, y4), (x5, y5), (x6, y6)]) (by kernel_rfl) (by kernel_rfl) rfl rfl (fun hf => ?_) (fun ht => n_add (by omega) (by omega) ?_)
        · refine ⟨[], _, _, names_id' rfl rfl rfl, rfl, .inr ⟨rfl, rfl, fun hh => ?_⟩⟩
          subst hh
          have ex0 : x0 = y0 := by have := hx0.symm.trans hy0; simpa using this
          have ex1 : x1 = y1 := by have := hx1.symm.trans hy1; simpa using this
          have ex2 : x2 = y2 := by have := hx2.symm.trans hy2; simpa using this
          have ex3 : x3 = y3 := by have := hx3.symm.trans hy3; simpa using this
          have ex4 : x4 = y4 := by have := hx4.symm.trans hy4; simpa using this
          have ex5 : x5 = y5 := by have := hx5.symm.trans hy5; simpa using this
          have ex6 : x6 = y6 := by have := hx6.symm.trans hy6; simpa using this
          rw [show allEq _ = true from by simp only [allEq, List.all_cons, List.all_nil, ex0, ex1, ex2, ex3, ex4, ex5, ex6, beq_self_eq_true, Bool.and_self]] at hf
          cases hf
        · refine ⟨⟨i + 1, by omega, ext_row (sz := 7) hp (fun j hj => ?_)⟩, [], by simp only; omega, names_id' rfl rfl rfl⟩
          simp only [allEq, List.all_cons, List.all_nil, Bool.and_eq_true, beq_iff_eq, and_true] at ht
          obtain ⟨ex0, ex1, ex2, ex3, ex4, ex5, ex6⟩ := ht
          match j, hj with
          | 0, _ => exact (show _ = _ from hx0).trans (by rw [ex0]; exact (show _ = _ from hy0).symm)
          | 1, _ => exact (show _ = _ from hx1).trans (by rw [ex1]; exact (show _ = _ from hy1).symm)
          | 2, _ => exact (show _ = _ from hx2).trans (by rw [ex2]; exact (show _ = _ from hy2).symm)
          | 3, _ => exact (show _ = _ from hx3).trans (by rw [ex3]; exact (show _ = _ from hy3).symm)
          | 4, _ => exact (show _ = _ from hx4).trans (by rw [ex4]; exact (show _ = _ from hy4).symm)
          | 5, _ => exact (show _ = _ from hx5).trans (by rw [ex5]; exact (show _ = _ from hy5).symm)
          | 6, _ => exact (show _ = _ from hx6).trans (by rw [ex6]; exact (show _ = _ from hy6).symm)
          | j + 7, hj => omega
      · have h2 : ¬ (i : Int) < (n : Int) := h1
        have : i = n := by omega
        subst this
        exact ⟨[], _, _, names_id' rfl rfl rfl, rfl, .inl ⟨rfl, rfl, all_row hv.len hw.len hp⟩⟩)
    ⟨0, Nat.zero_le _, fun p hp => absurd hp (by omega)⟩ rfl (vals := vals) (h := hh) hvals ho hle
def LEIns (vs ws : List Value) (ea qa eb qb : Nat) (ka wa kb wb : Bool) (n ca cb : Nat) : LT := fun c N vals objs T F => c = loopIn Try.prog 35 4 ∧ N = 26 ∧ vals = [.slice (some ⟨100, 0, none⟩) n ca, .slice (some ⟨101, 0, none⟩) n cb, .int .i64 n, .int .i64 0] ∧ objs = [some (.cells vs ea qa ka wa), some (.cells ws eb qb kb wb)] ∧ (vs = ws → T) ∧ (vs ≠ ws → F)
theorem loopOkEIns {vs ws : List Value} {ea qa eb qb : Nat} {ka wa kb wb : Bool} {n ca cb : Nat} (hv : TyL [.u8, .i64, .u8, .u64, .u8, .u64, .i64] vs n) (hw : TyL [.u8, .i64, .u8, .u64, .u8, .u64, .i64] ws n) (hn : n ≤ 9223372036854775807) : LoopOk Try.prog 100 [0, 1, 12, 13] (sLoopE (LEIns vs ws ea qa eb qb ka wa kb wb n ca cb)) := by
  intro c N vals h Q hS
  obtain ⟨h1, h2, h3, h4, hT, hF⟩ := hS
  obtain ⟨e, v, o, ⟨q1, q2⟩, q3⟩ := loopEIns hv hw hn c h1 h2 h3 h4 (next_of h4)
  rw [h4] at hT hF
  subst q1
  rcases q2 with ⟨r1, r2, r3⟩ | ⟨r1, r2, r3⟩
  · subst r1; subst r2; exact ⟨_, q3, hT r3⟩
  · subst r1; subst r2; exact ⟨_, q3, hF r3⟩
theorem eqCIns {vs ws : List Value} {ea qa eb qb : Nat} {ka wa kb wb : Bool} {n ca cb : Nat} (hv : TyL [.u8, .i64, .u8, .u64, .u8, .u64, .i64] vs n) (hw : TyL [.u8, .i64, .u8, .u64, .u8, .u64, .i64] ws n) (hn : n ≤ 9223372036854775807) :
    ∃ t, (t = true ↔ vs = ws) ∧ ∀ B, CallH Try.prog 100 B 35 [.slice (some ⟨100, 0, none⟩) n ca, .slice (some ⟨101, 0, none⟩) n cb] (hOf 100 [] [some (.cells vs ea qa ka wa), some (.cells ws eb qb kb wb)]) (.returned (.bool t)) (hOf 100 [] [some (.cells vs ea qa ka wa), some (.cells ws eb qb kb wb)]) := by
  have h0 : Is (gEqIns (real Try.prog) (LEIns vs ws ea qa eb qb ka wa kb wb n ca cb) vs ws ea qa eb qb ka wa kb wb n ca cb (fun v objs => ∃ t, (t = true ↔ vs = ws) ∧ v = .bool t ∧ objs = [some (.cells vs ea qa ka wa), some (.cells ws eb qb kb wb)])) := by
    refine ⟨?_⟩
    rw [gEqIns_eq]
    exact n_neq (fun h => absurd rfl h) (fun _ => ⟨rfl, rfl, rfl, rfl, fun h => ⟨true, by simp [h], rfl, rfl⟩, fun h => ⟨false, by simp [h], rfl, rfl⟩⟩)
  obtain ⟨v, objs, ⟨t, h1, h2, h3⟩, h4⟩ := callW kn_none (lp_ok (l := [(4, ([0, 1, 12, 13], sLoopE (LEIns vs ws ea qa eb qb ka wa kb wb n ca cb)))]) (by
    intro y hy; simp only [List.mem_cons, List.not_mem_nil, or_false] at hy; subst hy; exact loopOkEIns hv hw hn)) (f := 35) (args := [.slice (some ⟨100, 0, none⟩) n ca, .slice (some ⟨101, 0, none⟩) n cb]) h0
  subst h2; subst h3
  exact ⟨t, h1, h4⟩
theorem eqIns {x y : Value} {oa ob : Option AObj} {vs ws : List Value} {n m : Nat} (hx : Sv [.u8, .i64, .u8, .u64, .u8, .u64, .i64] 100 x oa vs n) (hy : Sv [.u8, .i64, .u8, .u64, .u8, .u64, .i64] 101 y ob ws m) :
    ∃ t, (t = true ↔ vs = ws) ∧ ∀ B, CallH Try.prog 100 B 35 [x, y] (hOf 100 [] [oa, ob]) (.returned (.bool t)) (hOf 100 [] [oa, ob]) := by
  by_cases h : n = m ∧ 0 < n
  · obtain ⟨e, hp⟩ := h
    subst e
    obtain ⟨hv, hn, ca, ea, qa, ka, wa, e1, e2⟩ := hx.pos hp
    obtain ⟨hw, _, cb, eb, qb, kb, wb, e3, e4⟩ := hy.pos hp
    subst e1; subst e2; subst e3; subst e4
    exact eqCIns hv hw hn
  · obtain ⟨a1, c1, ex⟩ := hx.sl
    obtain ⟨a2, c2, ey⟩ := hy.sl
    have h0 : Is (gEqoIns (real Try.prog) x y oa ob (fun v objs => ∃ t, (t = true ↔ vs = ws) ∧ v = .bool t ∧ objs = [oa, ob])) := by
      refine ⟨?_⟩
      rw [gEqoIns_eq]
      refine n_lenV ex (n_lenV ey (n_neq (fun hne => ?_) (fun he => n_lenV ex (n_lss (fun hl => ?_) (fun hl => ?_)))))
      · exact ⟨false, by simp only [Bool.false_eq_true, false_iff]; exact len_ne (sz := 7) (by omega) hx.len hy.len (fun e => hne (by rw [e])), rfl, rfl⟩
      · have e1 : n = m := Int.ofNat_inj.1 he
        have e2 : 0 < n := Int.ofNat_lt.1 hl
        exact h ⟨e1, e2⟩
      · have e1 : n = m := Int.ofNat_inj.1 he
        have e2 : n = 0 := by
          rcases Nat.eq_zero_or_pos n with e | e
          · exact e
          · exact absurd (Int.ofNat_lt.2 e) hl
        subst e1; subst e2
        exact ⟨true, by simp only [true_iff]; rw [len_nil hx.len, len_nil hy.len], rfl, rfl⟩
    obtain ⟨v, objs, ⟨t, h1, h2, h3⟩, h4⟩ := callW kn_none lp_none (f := 35) (args := [x, y]) h0
    subst h2; subst h3
    exact ⟨t, h1, h4⟩
-- Buc
theorem loopEBuc {vs ws : List Value} {ea qa eb qb : Nat} {ka wa kb wb : Bool} {n ca cb : Nat} (hv : TyL [.u64, .i64] vs n) (hw : TyL [.u64, .i64] ws n) (hn : n ≤ 9223372036854775807) {vals : List Value} {hh : Heap} (c : Code) (hc : c = loopIn Try.prog 36 4) {N : Nat} (hN : N = 26)
    (hvals : vals = [.slice (some ⟨100, 0, none⟩) n ca, .slice (some ⟨101, 0, none⟩) n cb, .int .i64 n, .int .i64 0]) (ho : objsOf 100 hh = [some (.cells vs ea qa ka wa), some (.cells ws eb qb kb wb)]) (hle : 100 ≤ hh.next) :
    ∃ e v o, RE [some (.cells vs ea qa ka wa), some (.cells ws eb qb kb wb)] (vs = ws) [top] [.bool false] e v o ∧ ∀ B, Holds Try.prog 100 B (.loop false c ⟨tmOf N [0, 1, 12, 13] vals, [], hh, .run⟩) (.ex e (stOf 100 N [4] (v, o))) := by
  subst hc; subst hN
  exact lp_rule (P := Try.prog) (G := 100) (W := WL) (fuel := 100) (N := 26) (k0 := 2) (live := [0, 1, 12, 13]) (live2 := [4]) (c := loopIn Try.prog 36 4) okp kn_none lp_none (α := { i : Nat // i ≤ n ∧ ∀ p, p < i * 2 → vs[p]? = ws[p]? }) (fun y => n - y.1)
    (fun y => ([.slice (some ⟨100, 0, none⟩) n ca, .slice (some ⟨101, 0, none⟩) n cb, .int .i64 n, .int .i64 y.1], [some (.cells vs ea qa ka wa), some (.cells ws eb qb kb wb)]))
    (RE [some (.cells vs ea qa ka wa), some (.cells ws eb qb kb wb)] (vs = ws) [top] [.bool false]) (by
      rintro ⟨i, hi, hp⟩
      have hg := gLoopEBuc_eq (real Try.prog) vs ws ea qa eb qb ka wa kb wb n ca cb i
      unfold gLoopEBuc at hg
      refine ⟨?_⟩
      show wpe _ _ _ _ _ _
      generalize hst : stOf 100 26 [0, 1, 12, 13] _ = st
      have e : st = stOf 100 26 [0, 1, 12, 13] ([.slice (some ⟨100, 0, none⟩) n ca, .slice (some ⟨101, 0, none⟩) n cb, .int .i64 n, .int .i64 i], [some (.cells vs ea qa ka wa), some (.cells ws eb qb kb wb)]) := hst.symm
      rw [e, hg]
      refine n_lss (fun h1 => ?_) (fun h1 => ?_)
      · have hi' : i < n := by
          have h2 : (i : Int) < (n : Int) := h1
          omega
        obtain ⟨x0, hx0⟩ := hv.cell i hi' 0 _ rfl
        have gx0 : vs[0 + i * 2]? = some (.int .u64 x0) := by rw [← hx0]; congr 1; simp only [List.length_cons, List.length_nil]; omega
        obtain ⟨x1, hx1⟩ := hv.cell i hi' 1 _ rfl
        have gx1 : vs[0 + i * 2 + 1]? = some (.int .i64 x1) := by rw [← hx1]; congr 1; simp only [List.length_cons, List.length_nil]; omega
        obtain ⟨y0, hy0⟩ := hw.cell i hi' 0 _ rfl
        have gy0 : ws[0 + i * 2]? = some (.int .u64 y0) := by rw [← hy0]; congr 1; simp only [List.length_cons, List.length_nil]; omega
        obtain ⟨y1, hy1⟩ := hw.cell i hi' 1 _ rfl
        have gy1 : ws[0 + i * 2 + 1]? = some (.int .i64 y1) := by rw [← hy1]; congr 1; simp only [List.length_cons, List.length_nil]; omega
        refine n_idx i rfl hi' (n_rdI gx0 (n_rdI gx1 (n_idx i rfl hi' (n_rdI gy0 (n_rdI gy1 ?_)))))
        refine n_agNeq (ps := [(x0, y0), (x1, y1)]) (by kernel_rfl) (by kernel_rfl) rfl rfl (fun hf => ?_) (fun ht => n_add (by omega) (by omega) ?_)
        · refine ⟨[], _, _, names_id' rfl rfl rfl, rfl, .inr ⟨rfl, rfl, fun hh => ?_⟩⟩
          subst hh
          have ex0 : x0 = y0 := by have := hx0.symm.trans hy0; simpa using this
          have ex1 : x1 = y1 := by have := hx1.symm.trans hy1; simpa using this
          rw [show allEq _ = true from by simp only [allEq, List.all_cons, List.all_nil, ex0, ex1, beq_self_eq_true, Bool.and_self]] at hf
          cases hf
        · refine ⟨⟨i + 1, by omega, ext_row (sz := 2) hp (fun j hj => ?_)⟩, [], by simp only; omega, names_id' rfl rfl rfl⟩
          simp only [allEq, List.all_cons, List.all_nil, Bool.and_eq_true, beq_iff_eq, and_true] at ht
          obtain ⟨ex0, ex1⟩ := ht
          match j, hj with
          | 0, _ => exact (show _ = _ from hx0).trans (by rw [ex0]; exact (show _ = _ from hy0).symm)
          | 1, _ => exact (show _ = _ from hx1).trans (by rw [ex1]; exact (show _ = _ from hy1).symm)
          | j + 2, hj => omega
      · have h2 : ¬ (i : Int) < (n : Int) := h1
        have : i = n := by omega
        subst this
        exact ⟨[], _, _, names_id' rfl rfl rfl, rfl, .inl ⟨rfl, rfl, all_row hv.len hw.len hp⟩⟩)
    ⟨0, Nat.zero_le _, fun p hp => absurd hp (by omega)⟩ rfl (vals := vals) (h := hh) hvals ho hle
def LEBuc (vs ws : List Value) (ea qa eb qb : Nat) (ka wa kb wb : Bool) (n ca cb : Nat) : LT := fun c N vals objs T F => c = loopIn Try.prog 36 4 ∧ N = 26 ∧ vals = [.slice (some ⟨100, 0, none⟩) n ca, .slice (some ⟨101, 0, none⟩) n cb, .int .i64 n, .int .i64 0] ∧ objs = [some (.cells vs ea qa ka wa), some (.cells ws eb qb kb wb)] ∧ (vs = ws → T) ∧ (vs ≠ ws → F)
theorem loopOkEBuc {vs ws : List Value} {ea qa eb qb : Nat} {ka wa kb wb : Bool} {n ca cb : Nat} (hv : TyL [.u64, .i64] vs n) (hw : TyL [.u64, .i64] ws n) (hn : n ≤ 9223372036854775807) : LoopOk Try.prog 100 [0, 1, 12, 13] (sLoopE (LEBuc vs ws ea qa eb qb ka wa kb wb n ca cb)) := by
  intro c N vals h Q hS
  obtain ⟨h1, h2, h3, h4, hT, hF⟩ := hS
  obtain ⟨e, v, o, ⟨q1, q2⟩, q3⟩ := loopEBuc hv hw hn c h1 h2 h3 h4 (next_of h4)
  rw [h4] at hT hF
  subst q1
  rcases q2 with ⟨r1, r2, r3⟩ | ⟨r1, r2, r3⟩
  · subst r1; subst r2; exact ⟨_, q3, hT r3⟩
  · subst r1; subst r2; exact ⟨_, q3, hF r3⟩
theorem eqCBuc {vs ws : List Value} {ea qa eb qb : Nat} {ka wa kb wb : Bool} {n ca cb : Nat} (hv : TyL [.u64, .i64] vs n) (hw : TyL [.u64, .i64] ws n) (hn : n ≤ 9223372036854775807) :
    ∃ t, (t = true ↔ vs = ws) ∧ ∀ B, CallH Try.prog 100 B 36 [.slice (some ⟨100, 0, none⟩) n ca, .slice (some ⟨101, 0, none⟩) n cb] (hOf 100 [] [some (.cells vs ea qa ka wa), some (.cells ws eb qb kb wb)]) (.returned (.bool t)) (hOf 100 [] [some (.cells vs ea qa ka wa), some (.cells ws eb qb kb wb)]) := by
  have h0 : Is (gEqBuc (real Try.prog) (LEBuc vs ws ea qa eb qb ka wa kb wb n ca cb) vs ws ea qa eb qb ka wa kb wb n ca cb (fun v objs => ∃ t, (t = true ↔ vs = ws) ∧ v = .bool t ∧ objs = [some (.cells vs ea qa ka wa), some (.cells ws eb qb kb wb)])) := by
    refine ⟨?_⟩
    rw [gEqBuc_eq]
    exact n_neq (fun h => absurd rfl h) (fun _ => ⟨rfl, rfl, rfl, rfl, fun h => ⟨true, by simp [h], rfl, rfl⟩, fun h => ⟨false, by simp [h], rfl, rfl⟩⟩)
  obtain ⟨v, objs, ⟨t, h1, h2, h3⟩, h4⟩ := callW kn_none (lp_ok (l := [(4, ([0, 1, 12, 13], sLoopE (LEBuc vs ws ea qa eb qb ka wa kb wb n ca cb)))]) (by
    intro y hy; simp only [List.mem_cons, List.not_mem_nil, or_false] at hy; subst hy; exact loopOkEBuc hv hw hn)) (f := 36) (args := [.slice (some ⟨100, 0, none⟩) n ca, .slice (some ⟨101, 0, none⟩) n cb]) h0
  subst h2; subst h3
  exact ⟨t, h1, h4⟩
theorem eqBuc {x y : Value} {oa ob : Option AObj} {vs ws : List Value} {n m : Nat} (hx : Sv [.u64, .i64] 100 x oa vs n) (hy : Sv [.u64, .i64] 101 y ob ws m) :
    ∃ t, (t = true ↔ vs = ws) ∧ ∀ B, CallH Try.prog 100 B 36 [x, y] (hOf 100 [] [oa, ob]) (.returned (.bool t)) (hOf 100 [] [oa, ob]) := by
  by_cases h : n = m ∧ 0 < n
  · obtain ⟨e, hp⟩ := h
    subst e
    obtain ⟨hv, hn, ca, ea, qa, ka, wa, e1, e2⟩ := hx.pos hp
    obtain ⟨hw, _, cb, eb, qb, kb, wb, e3, e4⟩ := hy.pos hp
    subst e1; subst e2; subst e3; subst e4
    exact eqCBuc hv hw hn
  · obtain ⟨a1, c1, ex⟩ := hx.sl
    obtain ⟨a2, c2, ey⟩ := hy.sl
    have h0 : Is (gEqoBuc (real Try.prog) x y oa ob (fun v objs => ∃ t, (t = true ↔ vs = ws) ∧ v = .bool t ∧ objs = [oa, ob])) := by
      refine ⟨?_⟩
      rw [gEqoBuc_eq]
      refine n_lenV ex (n_lenV ey (n_neq (fun hne => ?_) (fun he => n_lenV ex (n_lss (fun hl => ?_) (fun hl => ?_)))))
      · exact ⟨false, by simp only [Bool.false_eq_true, false_iff]; exact len_ne (sz := 2) (by omega) hx.len hy.len (fun e => hne (by rw [e])), rfl, rfl⟩
      · have e1 : n = m := Int.ofNat_inj.1 he
        have e2 : 0 < n := Int.ofNat_lt.1 hl
        exact h ⟨e1, e2⟩
      · have e1 : n = m := Int.ofNat_inj.1 he
        have e2 : n = 0 := by
          rcases Nat.eq_zero_or_pos n with e | e
          · exact e
          · exact absurd (Int.ofNat_lt.2 e) hl
        subst e1; subst e2
        exact ⟨true, by simp only [true_iff]; rw [len_nil hx.len, len_nil hy.len], rfl, rfl⟩
    obtain ⟨v, objs, ⟨t, h1, h2, h3⟩, h4⟩ := callW kn_none lp_none (f := 36) (args := [x, y]) h0
    subst h2; subst h3
    exact ⟨t, h1, h4⟩
end
end Go.Proofs.Ytblbaohcelldpaa.Ob
