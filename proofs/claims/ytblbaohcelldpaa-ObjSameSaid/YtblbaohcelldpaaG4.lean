/- Are two objects the same? The program's functions and the document's answer alike. -/
import Derived.Test.YtblbaohcelldpaaG3
import Derived.Test.YtblbaohcelldpaaGA
namespace Go.Proofs.Ytblbaohcelldpaa.Ob
open Go Go.Abs
set_option linter.unusedVariables false
set_option maxRecDepth 100000
noncomputable section
theorem names_drop {objs ex : List (Option AObj)} {v : Value} (hv : plain v = true) (hp : ∀ o, some o ∈ objs → plainO o = true) : Names 100 objs.length [] (100 + (objs ++ ex).length) [v] (objs ++ ex) [v] objs := by
  refine ⟨by simp [vren_plain v hv], by simp, List.nodup_nil, (fun x hx => by cases hx), by simp, fun i o hi => ?_⟩
  have hlt : i < objs.length := (List.getElem?_eq_some_iff.1 hi).1
  rw [tau_lt (by omega), oren_plain (hp o (List.mem_of_getElem? hi)), Nat.add_sub_cancel_left, List.getElem?_append_left hlt]
  exact hi
theorem Sv.at {ks : List IntKind} {b : Nat} {x : Value} {o : Option AObj} {vs : List Value} {n : Nat} (h : Sv ks b x o vs n) (c : Nat) : ∃ x0, Sv ks c x0 o vs n ∧ ∀ τ : Nat → Nat, τ c = b → vren τ x0 = x := by
  rcases h with ⟨h1, h2, h3, e⟩ | ⟨h1, h2, h3, sp, e⟩ | ⟨h1, h2, cp, ea, q, ka, wa, h3, e⟩
  · exact ⟨_, .inl ⟨h1, h2, h3, rfl⟩, fun τ ht => by rw [e]; rfl⟩
  · exact ⟨_, .inr (.inl ⟨h1, h2, h3, sp, rfl⟩), fun τ ht => by rw [e]; simp only [vren, ht]⟩
  · exact ⟨_, .inr (.inr ⟨h1, h2, cp, ea, q, ka, wa, h3, rfl⟩), fun τ ht => by rw [e]; simp only [vren, ht]⟩
/-- A slice, in a heap. -/
def Sh (ks : List IntKind) (H : Heap) (b : Nat) (x : Value) (vs : List Value) (n : Nat) : Prop := ∃ o, Sv ks b x o vs n ∧ 100 ≤ b ∧ b < H.next ∧ H.get b = o
theorem at_objs {H : Heap} {objs : List (Option AObj)} (h : objsOf 100 H = objs) {i : Nat} {o : Option AObj} (hi : objs[i]? = some o) : 100 + i < H.next ∧ H.get (100 + i) = o := by
  rw [← h, objsOf_get] at hi
  split at hi
  · rename_i hl; simp only [Option.some.injEq] at hi; exact ⟨hl, hi⟩
  · cases hi
theorem call_same {f : FuncId} {args : List Value} {H H1 H2 : Heap} {e : Ending} {B : Base} (h : CallH Try.prog 100 B f args H e H2) (hg : ∀ n, H1.get n = H2.get n) (hn : H1.next = H2.next) : CallH Try.prog 100 B f args H e H1 := by
  intro F w args' R ha
  exact (h F w args' R ha).mono fun e' w' ⟨F', k1, k2, R'⟩ => ⟨F', k1, k2, R'.congr hg hn⟩
theorem call_le {f : FuncId} {args : List Value} {H H1 : Heap} {e : Ending} {B : Base} (h : 100 ≤ H.next → CallH Try.prog 100 B f args H e H1) : CallH Try.prog 100 B f args H e H1 := by
  intro F w args' R ha
  exact h R.next_le F w args' R ha
/-- From two slices alone to a heap that holds them. -/
theorem lift2 {ks : List IntKind} {f : FuncId} {args : Value → Value → List Value} {C : Prop} {vs ws : List Value} {n m : Nat} (hargs : ∀ τ x y, vrenL τ (args x y) = args (vren τ x) (vren τ y))
    (hc : ∀ {x y oa ob}, Sv ks 100 x oa vs n → Sv ks 101 y ob ws m → ∃ t, (t = true ↔ C) ∧ ∀ B, CallH Try.prog 100 B f (args x y) (hOf 100 [] [oa, ob]) (.returned (.bool t)) (hOf 100 [] [oa, ob]))
    {H : Heap} {a b : Nat} {x y : Value} (hx : Sh ks H a x vs n) (hy : Sh ks H b y ws m) (hne : a ≠ b) : ∃ t, (t = true ↔ C) ∧ ∀ B, CallH Try.prog 100 B f (args x y) H (.returned (.bool t)) H := by
  obtain ⟨oa, hx1, ha1, ha2, ha3⟩ := hx
  obtain ⟨ob, hy1, hb1, hb2, hb3⟩ := hy
  obtain ⟨x0, hx0, ex⟩ := hx1.at 100
  obtain ⟨y0, hy0, ey⟩ := hy1.at 101
  obtain ⟨t, h1, h4⟩ := hc hx0 hy0
  refine ⟨t, h1, fun B => ?_⟩
  have hpa : ∀ o, oa = some o → oren (tau 100 [a, b] H.next) o = o := fun o ho => oren_plain (hx1.plain ho)
  have hpb : ∀ o, ob = some o → oren (tau 100 [a, b] H.next) o = o := fun o ho => oren_plain (hy1.plain ho)
  have := liftO (ins := [oa, ob]) (upd := [oa, ob]) (new := []) rfl (fun i h => h) rfl h4 (H := H) (ns := [a, b]) rfl (by simp [hne]) (by
    intro k hk
    simp only [List.mem_cons, List.not_mem_nil, or_false] at hk
    rcases hk with rfl | rfl
    · exact ⟨ha1, ha2⟩
    · exact ⟨hb1, hb2⟩) (fun i o hi => by
      match i, hi with
      | 0, hi =>
        simp only [List.getElem?_cons_zero, Option.some.injEq] at hi
        exact ⟨a, rfl, by rw [ha3, hi, hpa o hi]⟩
      | 1, hi =>
        simp only [List.getElem?_cons_succ, List.getElem?_cons_zero, Option.some.injEq] at hi
        exact ⟨b, rfl, by rw [hb3, hi, hpb o hi]⟩
      | i + 2, hi => simp at hi) B
  rw [hargs, ex _ (tau_in (Nat.le_refl _) rfl), ey _ (tau_in (by omega) rfl)] at this
  have ea : oa.map (oren (tau 100 [a, b] H.next)) = oa := by
    cases h : oa with
    | none => rfl
    | some o => simp only [Option.map_some, hpa o h]
  have eb : ob.map (oren (tau 100 [a, b] H.next)) = ob := by
    cases h : ob with
    | none => rfl
    | some o => simp only [Option.map_some, hpb o h]
  simp only [List.map_cons, List.map_nil, ea, eb, pushAll, putAll] at this
  refine call_same this (fun k => ?_) rfl
  simp only [Heap.get_put]
  by_cases e1 : k = b
  · subst e1; rw [if_pos rfl, hb3]
  · rw [if_neg e1]
    by_cases e2 : k = a
    · subst e2; rw [if_pos rfl, ha3]
    · rw [if_neg e2]
/-- What a function says in each heap of these objects. -/
def realM : MT := fun f args objs K => ∃ t, (∀ H, objsOf 100 H = objs → ∀ B, CallH Try.prog 100 B f args H (.returned (.bool t)) H) ∧ K t
theorem pure_M (f : Nat) : PureOk Try.prog 100 f (sPu realM f) := by
  intro args H K h
  obtain ⟨t, h1, h2⟩ := h
  exact ⟨.bool t, h1 H rfl, h2⟩
theorem kn_M : KnOk Try.prog 100 (WM realM) := pu_ok (by
  intro x hx
  simp only [List.mem_cons, List.not_mem_nil, or_false] at hx
  rcases hx with rfl | rfl | rfl | rfl | rfl <;> exact pure_M _)
theorem n_beq {P : Program} {a b : Bool} {X Y : Prop} (h1 : (a == b) = true → X) (h2 : (a == b) = false → Y) : (real P).bcmp .eql a b X Y := .inl ⟨rfl, h1, h2⟩
theorem awake_call (B : Base) : CallH Try.prog 100 B 6 [] (hOf 100 [] []) (.returned (.bool true)) (hOf 100 [] []) := by
  have h := awake_ran
  unfold retTrue at h
  split at h
  · rename_i u h' he
    have h1 : CallH Try.prog 100 B 6 [] (hOf 100 [] []) (.returned (.bool true)) h' := ev_ok okp (fun f g args h e h' hh => by cases hh) _ _ _ he
    have hle : 100 ≤ h'.next ∨ h'.next < 100 := by omega
    rcases hle with hle | hle
    · exact call_gc (ins := []) (l := []) (call_objs hle h1) (names_mk rfl rfl rfl (Nat.ble_eq_true_of_le (by simp)) trivial)
    · intro F w args' R ha
      exact (h1 F w args' R ha).mono fun e' w' ⟨F', k1, k2, R'⟩ => by have := R'.next_le; omega
  · cases h
theorem awake_in (H : Heap) (B : Base) : CallH Try.prog 100 B 6 [] H (.returned (.bool true)) H :=
  lift (ins := []) (upd := []) (new := []) rfl rfl awake_call (H := H) (ns := []) rfl (by simp) (by simp) (by simp) (by simp) (fun i o hi => by simp at hi) B
-- Arm
def LRArm (vs ws : List Value) (ea qa eb qb : Nat) (ka wa kb wb : Bool) (n ca cb : Nat) (p0 p1 p2 p3 p4 p5 p6 p8 : Int) (q0 q1 q2 q3 q4 q5 q6 q8 : Int) : LT := fun c N vals objs T F => c = loopIn Try.prog 9 4 ∧ N = 85 ∧ vals = [.pointer (some ⟨102, 0, none⟩), .pointer (some ⟨103, 0, none⟩), .int .i64 0] ∧ objs = [some (.cells vs ea qa ka wa), some (.cells ws eb qb kb wb), some (.cells [.int .i64 p0, .int .i64 p1, .int .i64 p2, .int .i64 p3, .int .i64 p4, .int .i64 p5, .int .i64 p6, (.slice (some ⟨100, 0, none⟩) n ca), .int .i64 p8] 27 9 false true), some (.cells [.int .i64 q0, .int .i64 q1, .int .i64 q2, .int .i64 q3, .int .i64 q4, .int .i64 q5, .int .i64 q6, (.slice (some ⟨101, 0, none⟩) n cb), .int .i64 q8] 27 9 false true)] ∧ (vs = ws → T) ∧ (vs ≠ ws → F)
theorem loopRArm {vs ws : List Value} {ea qa eb qb : Nat} {ka wa kb wb : Bool} {n ca cb : Nat} {p0 p1 p2 p3 p4 p5 p6 p8 : Int} {q0 q1 q2 q3 q4 q5 q6 q8 : Int} (hv : TyL [.u32, .i64] vs n) (hw : TyL [.u32, .i64] ws n) (hn : n ≤ 9223372036854775807) {vals : List Value} {hh : Heap} (c : Code) (hc : c = loopIn Try.prog 9 4) {N : Nat} (hN : N = 85)
    (hvals : vals = [.pointer (some ⟨102, 0, none⟩), .pointer (some ⟨103, 0, none⟩), .int .i64 0]) (ho : objsOf 100 hh = [some (.cells vs ea qa ka wa), some (.cells ws eb qb kb wb), some (.cells [.int .i64 p0, .int .i64 p1, .int .i64 p2, .int .i64 p3, .int .i64 p4, .int .i64 p5, .int .i64 p6, (.slice (some ⟨100, 0, none⟩) n ca), .int .i64 p8] 27 9 false true), some (.cells [.int .i64 q0, .int .i64 q1, .int .i64 q2, .int .i64 q3, .int .i64 q4, .int .i64 q5, .int .i64 q6, (.slice (some ⟨101, 0, none⟩) n cb), .int .i64 q8] 27 9 false true)]) (hle : 100 ≤ hh.next) :
    ∃ e v o, RE [some (.cells vs ea qa ka wa), some (.cells ws eb qb kb wb), some (.cells [.int .i64 p0, .int .i64 p1, .int .i64 p2, .int .i64 p3, .int .i64 p4, .int .i64 p5, .int .i64 p6, (.slice (some ⟨100, 0, none⟩) n ca), .int .i64 p8] 27 9 false true), some (.cells [.int .i64 q0, .int .i64 q1, .int .i64 q2, .int .i64 q3, .int .i64 q4, .int .i64 q5, .int .i64 q6, (.slice (some ⟨101, 0, none⟩) n cb), .int .i64 q8] 27 9 false true)] (vs = ws) [.pointer (some ⟨102, 0, none⟩), .pointer (some ⟨103, 0, none⟩), top] [.pointer (some ⟨102, 0, none⟩), .pointer (some ⟨103, 0, none⟩), .bool false] e v o ∧ ∀ B, Holds Try.prog 100 B (.loop false c ⟨tmOf N [2, 3, 5] vals, [], hh, .run⟩) (.ex e (stOf 100 N [2, 3, 4] (v, o))) := by
  subst hc; subst hN
  exact lp_rule (P := Try.prog) (G := 100) (W := WL) (fuel := 200) (N := 85) (k0 := 4) (live := [2, 3, 5]) (live2 := [2, 3, 4]) (c := loopIn Try.prog 9 4) okp kn_none lp_none (α := { i : Nat // i ≤ n ∧ ∀ p, p < i * 2 → vs[p]? = ws[p]? }) (fun y => n - y.1)
    (fun y => ([.pointer (some ⟨102, 0, none⟩), .pointer (some ⟨103, 0, none⟩), .int .i64 y.1], [some (.cells vs ea qa ka wa), some (.cells ws eb qb kb wb), some (.cells [.int .i64 p0, .int .i64 p1, .int .i64 p2, .int .i64 p3, .int .i64 p4, .int .i64 p5, .int .i64 p6, (.slice (some ⟨100, 0, none⟩) n ca), .int .i64 p8] 27 9 false true), some (.cells [.int .i64 q0, .int .i64 q1, .int .i64 q2, .int .i64 q3, .int .i64 q4, .int .i64 q5, .int .i64 q6, (.slice (some ⟨101, 0, none⟩) n cb), .int .i64 q8] 27 9 false true)]))
    (RE [some (.cells vs ea qa ka wa), some (.cells ws eb qb kb wb), some (.cells [.int .i64 p0, .int .i64 p1, .int .i64 p2, .int .i64 p3, .int .i64 p4, .int .i64 p5, .int .i64 p6, (.slice (some ⟨100, 0, none⟩) n ca), .int .i64 p8] 27 9 false true), some (.cells [.int .i64 q0, .int .i64 q1, .int .i64 q2, .int .i64 q3, .int .i64 q4, .int .i64 q5, .int .i64 q6, (.slice (some ⟨101, 0, none⟩) n cb), .int .i64 q8] 27 9 false true)] (vs = ws) [.pointer (some ⟨102, 0, none⟩), .pointer (some ⟨103, 0, none⟩), top] [.pointer (some ⟨102, 0, none⟩), .pointer (some ⟨103, 0, none⟩), .bool false]) (by
      rintro ⟨i, hi, hp⟩
      have hg := gLoopRArm_eq (real Try.prog) vs ws ea qa eb qb ka wa kb wb n ca cb p0 p1 p2 p3 p4 p5 p6 p8 q0 q1 q2 q3 q4 q5 q6 q8 i
      unfold gLoopRArm at hg
      refine ⟨?_⟩
      show wpe _ _ _ _ _ _
      generalize hst : stOf 100 85 [2, 3, 5] _ = st
      have e : st = stOf 100 85 [2, 3, 5] ([.pointer (some ⟨102, 0, none⟩), .pointer (some ⟨103, 0, none⟩), .int .i64 i], [some (.cells vs ea qa ka wa), some (.cells ws eb qb kb wb), some (.cells [.int .i64 p0, .int .i64 p1, .int .i64 p2, .int .i64 p3, .int .i64 p4, .int .i64 p5, .int .i64 p6, (.slice (some ⟨100, 0, none⟩) n ca), .int .i64 p8] 27 9 false true), some (.cells [.int .i64 q0, .int .i64 q1, .int .i64 q2, .int .i64 q3, .int .i64 q4, .int .i64 q5, .int .i64 q6, (.slice (some ⟨101, 0, none⟩) n cb), .int .i64 q8] 27 9 false true)]) := hst.symm
      rw [e, hg]
      refine n_lss (fun h1 => ?_) (fun h1 => ?_)
      · have hi' : i < n := by
          have h2 : (i : Int) < (n : Int) := h1
          omega
        obtain ⟨x0, hx0⟩ := hv.cell i hi' 0 _ rfl
        have gx0 : vs[0 + i * 2]? = some (.int .u32 x0) := by rw [← hx0]; congr 1; simp only [List.length_cons, List.length_nil]; omega
        obtain ⟨x1, hx1⟩ := hv.cell i hi' 1 _ rfl
        have gx1 : vs[0 + i * 2 + 1]? = some (.int .i64 x1) := by rw [← hx1]; congr 1; simp only [List.length_cons, List.length_nil]; omega
        obtain ⟨y0, hy0⟩ := hw.cell i hi' 0 _ rfl
        have gy0 : ws[0 + i * 2]? = some (.int .u32 y0) := by rw [← hy0]; congr 1; simp only [List.length_cons, List.length_nil]; omega
        obtain ⟨y1, hy1⟩ := hw.cell i hi' 1 _ rfl
        have gy1 : ws[0 + i * 2 + 1]? = some (.int .i64 y1) := by rw [← hy1]; congr 1; simp only [List.length_cons, List.length_nil]; omega
        refine n_idx i rfl hi' (n_rdI gx0 (n_rdI gx1 (n_idx i rfl hi' (n_rdI gy0 (n_rdI gy1 ?_)))))
        refine n_agNeq (ps := [(x0, y0), (x1, y1)]) (by kernel_rfl) (by kernel_rfl) rfl rfl (fun hf => ?_) (fun ht => n_add (by omega) (by omega) ?_)
        · refine ⟨[], _, _, names_id' rfl rfl rfl, rfl, .inr ⟨rfl, rfl, fun hh => ?_⟩⟩
          subst hh
          have ex0 : x0 = y0 := by have := hx0.symm.trans hy0; simpa using this
          have ex1 : x1 = y1 := by have := hx1.symm.trans hy1; simpa using this
          rw [show allEq _ = true from by simp only [allEq, List.all_cons, List.all_nil, ex0, ex1, beq_self_eq_true, Bool.and_self]] at hf
          cases hf
        · refine ⟨⟨i + 1, by omega, ext_row (sz := 2) hp (fun j hj => ?_)⟩, [], by simp only; omega, names_id' rfl rfl rfl⟩
          simp only [allEq, List.all_cons, List.all_nil, Bool.and_eq_true, beq_iff_eq, and_true] at ht
          obtain ⟨ex0, ex1⟩ := ht
          match j, hj with
          | 0, _ => exact (show _ = _ from hx0).trans (by rw [ex0]; exact (show _ = _ from hy0).symm)
          | 1, _ => exact (show _ = _ from hx1).trans (by rw [ex1]; exact (show _ = _ from hy1).symm)
          | j + 2, hj => omega
      · have h2 : ¬ (i : Int) < (n : Int) := h1
        have : i = n := by omega
        subst this
        exact ⟨[], _, _, names_id' rfl rfl rfl, rfl, .inl ⟨rfl, rfl, all_row hv.len hw.len hp⟩⟩)
    ⟨0, Nat.zero_le _, fun p hp => absurd hp (by omega)⟩ rfl (vals := vals) (h := hh) hvals ho hle
theorem loopOkRArm {vs ws : List Value} {ea qa eb qb : Nat} {ka wa kb wb : Bool} {n ca cb : Nat} {p0 p1 p2 p3 p4 p5 p6 p8 : Int} {q0 q1 q2 q3 q4 q5 q6 q8 : Int} (hv : TyL [.u32, .i64] vs n) (hw : TyL [.u32, .i64] ws n) (hn : n ≤ 9223372036854775807) : LoopOk Try.prog 100 [2, 3, 5] (sLoopR (LRArm vs ws ea qa eb qb ka wa kb wb n ca cb p0 p1 p2 p3 p4 p5 p6 p8 q0 q1 q2 q3 q4 q5 q6 q8)) := by
  intro c N vals h Q hS
  obtain ⟨h1, h2, h3, h4, hT, hF⟩ := hS
  obtain ⟨e, v, o, ⟨q1, q2⟩, q3⟩ := loopRArm hv hw hn c h1 h2 h3 h4 (next_of h4)
  rw [h4] at hT hF
  subst h3
  subst q1
  rcases q2 with ⟨r1, r2, r3⟩ | ⟨r1, r2, r3⟩
  · subst r1; subst r2; exact ⟨_, q3, hT r3⟩
  · subst r1; subst r2; exact ⟨_, q3, hF r3⟩
theorem refCArm {vs ws : List Value} {ea qa eb qb : Nat} {ka wa kb wb : Bool} {n ca cb : Nat} {p0 p1 p2 p3 p4 p5 p6 p8 : Int} {q0 q1 q2 q3 q4 q5 q6 q8 : Int} (hv : TyL [.u32, .i64] vs n) (hw : TyL [.u32, .i64] ws n) (hn : n ≤ 9223372036854775807) :
    ∃ t, (t = true ↔ p0 = q0 ∧ p1 = q1 ∧ p2 = q2 ∧ p3 = q3 ∧ p4 = q4 ∧ p5 = q5 ∧ p6 = q6 ∧ p8 = q8 ∧ vs = ws) ∧ ∀ B, CallH Try.prog 100 B 9 [.agg ⟨[.int .i64 p0, .int .i64 p1, .int .i64 p2, .int .i64 p3, .int .i64 p4, .int .i64 p5, .int .i64 p6, (.slice (some ⟨100, 0, none⟩) n ca), .int .i64 p8]⟩, .agg ⟨[.int .i64 q0, .int .i64 q1, .int .i64 q2, .int .i64 q3, .int .i64 q4, .int .i64 q5, .int .i64 q6, (.slice (some ⟨101, 0, none⟩) n cb), .int .i64 q8]⟩] (hOf 100 [] [some (.cells vs ea qa ka wa), some (.cells ws eb qb kb wb)]) (.returned (.bool t)) (hOf 100 [] [some (.cells vs ea qa ka wa), some (.cells ws eb qb kb wb)]) := by
  have h0 : Is (gRefArm (real Try.prog) (LRArm vs ws ea qa eb qb ka wa kb wb n ca cb p0 p1 p2 p3 p4 p5 p6 p8 q0 q1 q2 q3 q4 q5 q6 q8) vs ws ea qa eb qb ka wa kb wb n ca cb p0 p1 p2 p3 p4 p5 p6 p8 q0 q1 q2 q3 q4 q5 q6 q8 (fun v objs => ∃ t, (t = true ↔ p0 = q0 ∧ p1 = q1 ∧ p2 = q2 ∧ p3 = q3 ∧ p4 = q4 ∧ p5 = q5 ∧ p6 = q6 ∧ p8 = q8 ∧ vs = ws) ∧ v = .bool t ∧ objs = [some (.cells vs ea qa ka wa), some (.cells ws eb qb kb wb)] ++ [some (.cells [.int .i64 p0, .int .i64 p1, .int .i64 p2, .int .i64 p3, .int .i64 p4, .int .i64 p5, .int .i64 p6, (.slice (some ⟨100, 0, none⟩) n ca), .int .i64 p8] 27 9 false true), some (.cells [.int .i64 q0, .int .i64 q1, .int .i64 q2, .int .i64 q3, .int .i64 q4, .int .i64 q5, .int .i64 q6, (.slice (some ⟨101, 0, none⟩) n cb), .int .i64 q8] 27 9 false true)])) := by
    refine ⟨?_⟩
    rw [gRefArm_eq]
    refine n_lenV rfl (n_lenV rfl (n_neq (fun h => absurd rfl h) (fun _ => ⟨rfl, rfl, rfl, rfl, fun h8 => ?_, fun h8 => ?_⟩)))
    · exact n_eql (fun h0 => n_eql (fun h1 => n_eql (fun h2 => n_eql (fun h3 => n_eql (fun h4 => n_eql (fun h5 => n_eql (fun h6 => n_eql (fun h7 => ⟨true, ⟨fun _ => ⟨h0, h1, h2, h3, h4, h5, h6, h7, h8⟩, fun _ => rfl⟩, rfl, rfl⟩) (fun n7 => ⟨false, ⟨fun h => (by cases h), fun h => absurd h.2.2.2.2.2.2.2.1 n7⟩, rfl, rfl⟩)) (fun n6 => ⟨false, ⟨fun h => (by cases h), fun h => absurd h.2.2.2.2.2.2.1 n6⟩, rfl, rfl⟩)) (fun n5 => ⟨false, ⟨fun h => (by cases h), fun h => absurd h.2.2.2.2.2.1 n5⟩, rfl, rfl⟩)) (fun n4 => ⟨false, ⟨fun h => (by cases h), fun h => absurd h.2.2.2.2.1 n4⟩, rfl, rfl⟩)) (fun n3 => ⟨false, ⟨fun h => (by cases h), fun h => absurd h.2.2.2.1 n3⟩, rfl, rfl⟩)) (fun n2 => ⟨false, ⟨fun h => (by cases h), fun h => absurd h.2.2.1 n2⟩, rfl, rfl⟩)) (fun n1 => ⟨false, ⟨fun h => (by cases h), fun h => absurd h.2.1 n1⟩, rfl, rfl⟩)) (fun n0 => ⟨false, ⟨fun h => (by cases h), fun h => absurd h.1 n0⟩, rfl, rfl⟩)
    · exact ⟨false, ⟨fun h => (by cases h), fun h => absurd h.2.2.2.2.2.2.2.2 h8⟩, rfl, rfl⟩
  obtain ⟨v, objs, ⟨t, h1, h2, h3⟩, h4⟩ := callW kn_none (lp_ok (l := [(4, ([2, 3, 5], sLoopR (LRArm vs ws ea qa eb qb ka wa kb wb n ca cb p0 p1 p2 p3 p4 p5 p6 p8 q0 q1 q2 q3 q4 q5 q6 q8)))]) (by
    intro y hy; simp only [List.mem_cons, List.not_mem_nil, or_false] at hy; subst hy; exact loopOkRArm hv hw hn)) (f := 9) (args := [.agg ⟨[.int .i64 p0, .int .i64 p1, .int .i64 p2, .int .i64 p3, .int .i64 p4, .int .i64 p5, .int .i64 p6, (.slice (some ⟨100, 0, none⟩) n ca), .int .i64 p8]⟩, .agg ⟨[.int .i64 q0, .int .i64 q1, .int .i64 q2, .int .i64 q3, .int .i64 q4, .int .i64 q5, .int .i64 q6, (.slice (some ⟨101, 0, none⟩) n cb), .int .i64 q8]⟩]) h0
  subst h2; subst h3
  refine ⟨t, h1, fun B => call_gc (l := []) (h4 B) (names_drop rfl (fun o ho => ?_))⟩
  simp only [List.mem_cons, List.not_mem_nil, or_false, Option.some.injEq] at ho
  rcases ho with rfl | rfl
  · simpa [plainO] using hv.plain
  · simpa [plainO] using hw.plain
theorem refArm {x y : Value} {oa ob : Option AObj} {vs ws : List Value} {n m : Nat} {p0 p1 p2 p3 p4 p5 p6 p8 : Int} {q0 q1 q2 q3 q4 q5 q6 q8 : Int} (hx : Sv [.u32, .i64] 100 x oa vs n) (hy : Sv [.u32, .i64] 101 y ob ws m) :
    ∃ t, (t = true ↔ p0 = q0 ∧ p1 = q1 ∧ p2 = q2 ∧ p3 = q3 ∧ p4 = q4 ∧ p5 = q5 ∧ p6 = q6 ∧ p8 = q8 ∧ vs = ws) ∧ ∀ B, CallH Try.prog 100 B 9 [.agg ⟨[.int .i64 p0, .int .i64 p1, .int .i64 p2, .int .i64 p3, .int .i64 p4, .int .i64 p5, .int .i64 p6, x, .int .i64 p8]⟩, .agg ⟨[.int .i64 q0, .int .i64 q1, .int .i64 q2, .int .i64 q3, .int .i64 q4, .int .i64 q5, .int .i64 q6, y, .int .i64 q8]⟩] (hOf 100 [] [oa, ob]) (.returned (.bool t)) (hOf 100 [] [oa, ob]) := by
  by_cases h : n = m ∧ 0 < n
  · obtain ⟨e, hp⟩ := h
    subst e
    obtain ⟨hv, hn, ca, ea, qa, ka, wa, e1, e2⟩ := hx.pos hp
    obtain ⟨hw, _, cb, eb, qb, kb, wb, e3, e4⟩ := hy.pos hp
    subst e1; subst e2; subst e3; subst e4
    exact refCArm hv hw hn
  · obtain ⟨a1, c1, ex⟩ := hx.sl
    obtain ⟨a2, c2, ey⟩ := hy.sl
    have h0 : Is (gRefoArm (real Try.prog) x y oa ob p0 p1 p2 p3 p4 p5 p6 p8 q0 q1 q2 q3 q4 q5 q6 q8 (fun v objs => ∃ t, (t = true ↔ p0 = q0 ∧ p1 = q1 ∧ p2 = q2 ∧ p3 = q3 ∧ p4 = q4 ∧ p5 = q5 ∧ p6 = q6 ∧ p8 = q8 ∧ vs = ws) ∧ v = .bool t ∧ objs = [oa, ob] ++ [some (.cells [.int .i64 p0, .int .i64 p1, .int .i64 p2, .int .i64 p3, .int .i64 p4, .int .i64 p5, .int .i64 p6, x, .int .i64 p8] 27 9 false true), some (.cells [.int .i64 q0, .int .i64 q1, .int .i64 q2, .int .i64 q3, .int .i64 q4, .int .i64 q5, .int .i64 q6, y, .int .i64 q8] 27 9 false true)])) := by
      refine ⟨?_⟩
      rw [gRefoArm_eq]
      refine n_lenV ex (n_lenV ey (n_neq (fun hne => ?_) (fun he => n_lenV ex (n_lss (fun hl => ?_) (fun hl => ?_)))))
      · have hd : ¬ vs = ws := len_ne (sz := 2) (by omega) hx.len hy.len (fun e => hne (by rw [e]))
        exact ⟨false, ⟨fun h => (by cases h), fun h => absurd h.2.2.2.2.2.2.2.2 hd⟩, rfl, rfl⟩
      · have e1 : n = m := Int.ofNat_inj.1 he
        have e2 : 0 < n := Int.ofNat_lt.1 hl
        exact h ⟨e1, e2⟩
      · have e1 : n = m := Int.ofNat_inj.1 he
        have e2 : n = 0 := by
          rcases Nat.eq_zero_or_pos n with e | e
          · exact e
          · exact absurd (Int.ofNat_lt.2 e) hl
        subst e1; subst e2
        have h8 : vs = ws := by rw [len_nil hx.len, len_nil hy.len]
        exact n_eql (fun h0 => n_eql (fun h1 => n_eql (fun h2 => n_eql (fun h3 => n_eql (fun h4 => n_eql (fun h5 => n_eql (fun h6 => n_eql (fun h7 => ⟨true, ⟨fun _ => ⟨h0, h1, h2, h3, h4, h5, h6, h7, h8⟩, fun _ => rfl⟩, rfl, rfl⟩) (fun n7 => ⟨false, ⟨fun h => (by cases h), fun h => absurd h.2.2.2.2.2.2.2.1 n7⟩, rfl, rfl⟩)) (fun n6 => ⟨false, ⟨fun h => (by cases h), fun h => absurd h.2.2.2.2.2.2.1 n6⟩, rfl, rfl⟩)) (fun n5 => ⟨false, ⟨fun h => (by cases h), fun h => absurd h.2.2.2.2.2.1 n5⟩, rfl, rfl⟩)) (fun n4 => ⟨false, ⟨fun h => (by cases h), fun h => absurd h.2.2.2.2.1 n4⟩, rfl, rfl⟩)) (fun n3 => ⟨false, ⟨fun h => (by cases h), fun h => absurd h.2.2.2.1 n3⟩, rfl, rfl⟩)) (fun n2 => ⟨false, ⟨fun h => (by cases h), fun h => absurd h.2.2.1 n2⟩, rfl, rfl⟩)) (fun n1 => ⟨false, ⟨fun h => (by cases h), fun h => absurd h.2.1 n1⟩, rfl, rfl⟩)) (fun n0 => ⟨false, ⟨fun h => (by cases h), fun h => absurd h.1 n0⟩, rfl, rfl⟩)
    obtain ⟨v, objs, ⟨t, h1, h2, h3⟩, h4⟩ := callW kn_none lp_none (f := 9) (args := [.agg ⟨[.int .i64 p0, .int .i64 p1, .int .i64 p2, .int .i64 p3, .int .i64 p4, .int .i64 p5, .int .i64 p6, x, .int .i64 p8]⟩, .agg ⟨[.int .i64 q0, .int .i64 q1, .int .i64 q2, .int .i64 q3, .int .i64 q4, .int .i64 q5, .int .i64 q6, y, .int .i64 q8]⟩]) h0
    subst h2; subst h3
    refine ⟨t, h1, fun B => call_gc (l := []) (h4 B) (names_drop rfl (fun o ho => ?_))⟩
    simp only [List.mem_cons, List.not_mem_nil, or_false] at ho
    rcases ho with e | e
    · exact hx.plain e.symm
    · exact hy.plain e.symm
theorem objArm {x y : Value} {oa ob : Option AObj} {vs ws : List Value} {n m : Nat} {p0 p1 p2 p3 p4 p5 p6 p8 : Int} {q0 q1 q2 q3 q4 q5 q6 q8 : Int} (hx : Sv [.u32, .i64] 100 x oa vs n) (hy : Sv [.u32, .i64] 101 y ob ws m) :
    ∃ t, (t = true ↔ p0 = q0 ∧ p1 = q1 ∧ p2 = q2 ∧ p3 = q3 ∧ p4 = q4 ∧ p5 = q5 ∧ p6 = q6 ∧ p8 = q8 ∧ vs = ws) ∧ ∀ B, CallH Try.prog 100 B 8 [.agg ⟨[.int .i64 p0, .int .i64 p1, .int .i64 p2, .int .i64 p3, .int .i64 p4, .int .i64 p5, .int .i64 p6, x, .int .i64 p8]⟩, .agg ⟨[.int .i64 q0, .int .i64 q1, .int .i64 q2, .int .i64 q3, .int .i64 q4, .int .i64 q5, .int .i64 q6, y, .int .i64 q8]⟩] (hOf 100 [] [oa, ob]) (.returned (.bool t)) (hOf 100 [] [oa, ob]) := by
  have hM : ∃ t, (t = true ↔ vs = ws) ∧ ∀ H, objsOf 100 H = [oa, ob, some (.cells [.int .i64 p0, .int .i64 p1, .int .i64 p2, .int .i64 p3, .int .i64 p4, .int .i64 p5, .int .i64 p6, x, .int .i64 p8] 27 9 false true), some (.cells [.int .i64 q0, .int .i64 q1, .int .i64 q2, .int .i64 q3, .int .i64 q4, .int .i64 q5, .int .i64 q6, y, .int .i64 q8] 27 9 false true)] → ∀ B, CallH Try.prog 100 B 32 [x, y] H (.returned (.bool t)) H := by
    obtain ⟨t0, i0, _⟩ := eqArm hx hy
    refine ⟨t0, i0, fun H hH B => ?_⟩
    have g0 := at_objs hH (i := 0) rfl
    have g1 := at_objs hH (i := 1) rfl
    obtain ⟨t1, i1, c1⟩ := lift2 (f := 32) (args := fun x y => [x, y]) (fun τ x y => rfl) (fun hx hy => eqArm hx hy) (H := H) (a := 100) (b := 101) ⟨oa, hx, by omega, g0.1, g0.2⟩ ⟨ob, hy, by omega, g1.1, g1.2⟩ (by omega)
    have : t1 = t0 := by
      cases t0 <;> cases t1 <;> simp_all
    rw [← this]; exact c1 B
  have h0 : Is (gObjArm (real Try.prog) realM x y oa ob p0 p1 p2 p3 p4 p5 p6 p8 q0 q1 q2 q3 q4 q5 q6 q8 (fun v objs => ∃ t, (t = true ↔ p0 = q0 ∧ p1 = q1 ∧ p2 = q2 ∧ p3 = q3 ∧ p4 = q4 ∧ p5 = q5 ∧ p6 = q6 ∧ p8 = q8 ∧ vs = ws) ∧ v = .bool t ∧ objs = [oa, ob] ++ [some (.cells [.int .i64 p0, .int .i64 p1, .int .i64 p2, .int .i64 p3, .int .i64 p4, .int .i64 p5, .int .i64 p6, x, .int .i64 p8] 27 9 false true), some (.cells [.int .i64 q0, .int .i64 q1, .int .i64 q2, .int .i64 q3, .int .i64 q4, .int .i64 q5, .int .i64 q6, y, .int .i64 q8] 27 9 false true)])) := by
    refine ⟨?_⟩
    rw [gObjArm_eq]
    refine n_eql (fun h0 => n_eql (fun h1 => n_eql (fun h2 => n_eql (fun h3 => n_eql (fun h4 => n_eql (fun h5 => n_eql (fun h6 => n_eql (fun h7 => ?_) (fun n7 => ⟨false, ⟨fun h => (by cases h), fun h => absurd h.2.2.2.2.2.2.2.1 n7⟩, rfl, rfl⟩)) (fun n6 => ⟨false, ⟨fun h => (by cases h), fun h => absurd h.2.2.2.2.2.2.1 n6⟩, rfl, rfl⟩)) (fun n5 => ⟨false, ⟨fun h => (by cases h), fun h => absurd h.2.2.2.2.2.1 n5⟩, rfl, rfl⟩)) (fun n4 => ⟨false, ⟨fun h => (by cases h), fun h => absurd h.2.2.2.2.1 n4⟩, rfl, rfl⟩)) (fun n3 => ⟨false, ⟨fun h => (by cases h), fun h => absurd h.2.2.2.1 n3⟩, rfl, rfl⟩)) (fun n2 => ⟨false, ⟨fun h => (by cases h), fun h => absurd h.2.2.1 n2⟩, rfl, rfl⟩)) (fun n1 => ⟨false, ⟨fun h => (by cases h), fun h => absurd h.2.1 n1⟩, rfl, rfl⟩)) (fun n0 => ⟨false, ⟨fun h => (by cases h), fun h => absurd h.1 n0⟩, rfl, rfl⟩)
    obtain ⟨t, ht, hcall⟩ := hM
    refine ⟨t, hcall, ?_⟩
    exact ⟨t, ⟨fun h => ⟨h0, h1, h2, h3, h4, h5, h6, h7, ht.1 h⟩, fun h => ht.2 h.2.2.2.2.2.2.2.2⟩, rfl, rfl⟩
  obtain ⟨v, objs, ⟨t, h1, h2, h3⟩, h4⟩ := callW kn_M lp_none (f := 8) (args := [.agg ⟨[.int .i64 p0, .int .i64 p1, .int .i64 p2, .int .i64 p3, .int .i64 p4, .int .i64 p5, .int .i64 p6, x, .int .i64 p8]⟩, .agg ⟨[.int .i64 q0, .int .i64 q1, .int .i64 q2, .int .i64 q3, .int .i64 q4, .int .i64 q5, .int .i64 q6, y, .int .i64 q8]⟩]) h0
  subst h2; subst h3
  refine ⟨t, h1, fun B => call_gc (l := []) (h4 B) (names_drop rfl (fun o ho => ?_))⟩
  simp only [List.mem_cons, List.not_mem_nil, or_false] at ho
  rcases ho with e | e
  · exact hx.plain e.symm
  · exact hy.plain e.symm
theorem bothArm {H : Heap} {a b : Nat} {x y : Value} {vs ws : List Value} {n m : Nat} {p0 p1 p2 p3 p4 p5 p6 p8 : Int} {q0 q1 q2 q3 q4 q5 q6 q8 : Int} (hx : Sh [.u32, .i64] H a x vs n) (hy : Sh [.u32, .i64] H b y ws m) (hne : a ≠ b) :
    (∃ t, (t = true ↔ p0 = q0 ∧ p1 = q1 ∧ p2 = q2 ∧ p3 = q3 ∧ p4 = q4 ∧ p5 = q5 ∧ p6 = q6 ∧ p8 = q8 ∧ vs = ws) ∧ ∀ B, CallH Try.prog 100 B 8 [.agg ⟨[.int .i64 p0, .int .i64 p1, .int .i64 p2, .int .i64 p3, .int .i64 p4, .int .i64 p5, .int .i64 p6, x, .int .i64 p8]⟩, .agg ⟨[.int .i64 q0, .int .i64 q1, .int .i64 q2, .int .i64 q3, .int .i64 q4, .int .i64 q5, .int .i64 q6, y, .int .i64 q8]⟩] H (.returned (.bool t)) H) ∧
    (∃ t, (t = true ↔ p0 = q0 ∧ p1 = q1 ∧ p2 = q2 ∧ p3 = q3 ∧ p4 = q4 ∧ p5 = q5 ∧ p6 = q6 ∧ p8 = q8 ∧ vs = ws) ∧ ∀ B, CallH Try.prog 100 B 9 [.agg ⟨[.int .i64 p0, .int .i64 p1, .int .i64 p2, .int .i64 p3, .int .i64 p4, .int .i64 p5, .int .i64 p6, x, .int .i64 p8]⟩, .agg ⟨[.int .i64 q0, .int .i64 q1, .int .i64 q2, .int .i64 q3, .int .i64 q4, .int .i64 q5, .int .i64 q6, y, .int .i64 q8]⟩] H (.returned (.bool t)) H) :=
  ⟨lift2 (f := 8) (args := fun x y => [.agg ⟨[.int .i64 p0, .int .i64 p1, .int .i64 p2, .int .i64 p3, .int .i64 p4, .int .i64 p5, .int .i64 p6, x, .int .i64 p8]⟩, .agg ⟨[.int .i64 q0, .int .i64 q1, .int .i64 q2, .int .i64 q3, .int .i64 q4, .int .i64 q5, .int .i64 q6, y, .int .i64 q8]⟩]) (fun τ x y => by simp only [vrenL, vren, vrenA]) (fun hx hy => objArm hx hy) hx hy hne,
   lift2 (f := 9) (args := fun x y => [.agg ⟨[.int .i64 p0, .int .i64 p1, .int .i64 p2, .int .i64 p3, .int .i64 p4, .int .i64 p5, .int .i64 p6, x, .int .i64 p8]⟩, .agg ⟨[.int .i64 q0, .int .i64 q1, .int .i64 q2, .int .i64 q3, .int .i64 q4, .int .i64 q5, .int .i64 q6, y, .int .i64 q8]⟩]) (fun τ x y => by simp only [vrenL, vren, vrenA]) (fun hx hy => refArm hx hy) hx hy hne⟩
-- Int
def LRInt (vs ws : List Value) (ea qa eb qb : Nat) (ka wa kb wb : Bool) (n ca cb : Nat) (p0 p1 p3 p4 : Int) (q0 q1 q3 q4 : Int) : LT := fun c N vals objs T F => c = loopIn Try.prog 13 4 ∧ N = 57 ∧ vals = [.pointer (some ⟨102, 0, none⟩), .pointer (some ⟨103, 0, none⟩), .int .i64 0] ∧ objs = [some (.cells vs ea qa ka wa), some (.cells ws eb qb kb wb), some (.cells [.int .i64 p0, .int .u8 p1, (.slice (some ⟨100, 0, none⟩) n ca), .int .i64 p3, .int .i64 p4] 32 5 false true), some (.cells [.int .i64 q0, .int .u8 q1, (.slice (some ⟨101, 0, none⟩) n cb), .int .i64 q3, .int .i64 q4] 32 5 false true)] ∧ (vs = ws → T) ∧ (vs ≠ ws → F)
theorem loopRInt {vs ws : List Value} {ea qa eb qb : Nat} {ka wa kb wb : Bool} {n ca cb : Nat} {p0 p1 p3 p4 : Int} {q0 q1 q3 q4 : Int} (hv : TyL [.i64] vs n) (hw : TyL [.i64] ws n) (hn : n ≤ 9223372036854775807) {vals : List Value} {hh : Heap} (c : Code) (hc : c = loopIn Try.prog 13 4) {N : Nat} (hN : N = 57)
    (hvals : vals = [.pointer (some ⟨102, 0, none⟩), .pointer (some ⟨103, 0, none⟩), .int .i64 0]) (ho : objsOf 100 hh = [some (.cells vs ea qa ka wa), some (.cells ws eb qb kb wb), some (.cells [.int .i64 p0, .int .u8 p1, (.slice (some ⟨100, 0, none⟩) n ca), .int .i64 p3, .int .i64 p4] 32 5 false true), some (.cells [.int .i64 q0, .int .u8 q1, (.slice (some ⟨101, 0, none⟩) n cb), .int .i64 q3, .int .i64 q4] 32 5 false true)]) (hle : 100 ≤ hh.next) :
    ∃ e v o, RE [some (.cells vs ea qa ka wa), some (.cells ws eb qb kb wb), some (.cells [.int .i64 p0, .int .u8 p1, (.slice (some ⟨100, 0, none⟩) n ca), .int .i64 p3, .int .i64 p4] 32 5 false true), some (.cells [.int .i64 q0, .int .u8 q1, (.slice (some ⟨101, 0, none⟩) n cb), .int .i64 q3, .int .i64 q4] 32 5 false true)] (vs = ws) [.pointer (some ⟨102, 0, none⟩), .pointer (some ⟨103, 0, none⟩), top] [.pointer (some ⟨102, 0, none⟩), .pointer (some ⟨103, 0, none⟩), .bool false] e v o ∧ ∀ B, Holds Try.prog 100 B (.loop false c ⟨tmOf N [2, 3, 5] vals, [], hh, .run⟩) (.ex e (stOf 100 N [2, 3, 4] (v, o))) := by
  subst hc; subst hN
  exact lp_rule (P := Try.prog) (G := 100) (W := WL) (fuel := 200) (N := 57) (k0 := 4) (live := [2, 3, 5]) (live2 := [2, 3, 4]) (c := loopIn Try.prog 13 4) okp kn_none lp_none (α := { i : Nat // i ≤ n ∧ ∀ p, p < i * 1 → vs[p]? = ws[p]? }) (fun y => n - y.1)
    (fun y => ([.pointer (some ⟨102, 0, none⟩), .pointer (some ⟨103, 0, none⟩), .int .i64 y.1], [some (.cells vs ea qa ka wa), some (.cells ws eb qb kb wb), some (.cells [.int .i64 p0, .int .u8 p1, (.slice (some ⟨100, 0, none⟩) n ca), .int .i64 p3, .int .i64 p4] 32 5 false true), some (.cells [.int .i64 q0, .int .u8 q1, (.slice (some ⟨101, 0, none⟩) n cb), .int .i64 q3, .int .i64 q4] 32 5 false true)]))
    (RE [some (.cells vs ea qa ka wa), some (.cells ws eb qb kb wb), some (.cells [.int .i64 p0, .int .u8 p1, (.slice (some ⟨100, 0, none⟩) n ca), .int .i64 p3, .int .i64 p4] 32 5 false true), some (.cells [.int .i64 q0, .int .u8 q1, (.slice (some ⟨101, 0, none⟩) n cb), .int .i64 q3, .int .i64 q4] 32 5 false true)] (vs = ws) [.pointer (some ⟨102, 0, none⟩), .pointer (some ⟨103, 0, none⟩), top] [.pointer (some ⟨102, 0, none⟩), .pointer (some ⟨103, 0, none⟩), .bool false]) (by
      rintro ⟨i, hi, hp⟩
      have hg := gLoopRInt_eq (real Try.prog) vs ws ea qa eb qb ka wa kb wb n ca cb p0 p1 p3 p4 q0 q1 q3 q4 i
      unfold gLoopRInt at hg
      refine ⟨?_⟩
      show wpe _ _ _ _ _ _
      generalize hst : stOf 100 57 [2, 3, 5] _ = st
      have e : st = stOf 100 57 [2, 3, 5] ([.pointer (some ⟨102, 0, none⟩), .pointer (some ⟨103, 0, none⟩), .int .i64 i], [some (.cells vs ea qa ka wa), some (.cells ws eb qb kb wb), some (.cells [.int .i64 p0, .int .u8 p1, (.slice (some ⟨100, 0, none⟩) n ca), .int .i64 p3, .int .i64 p4] 32 5 false true), some (.cells [.int .i64 q0, .int .u8 q1, (.slice (some ⟨101, 0, none⟩) n cb), .int .i64 q3, .int .i64 q4] 32 5 false true)]) := hst.symm
      rw [e, hg]
      refine n_lss (fun h1 => ?_) (fun h1 => ?_)
      · have hi' : i < n := by
          have h2 : (i : Int) < (n : Int) := h1
          omega
        obtain ⟨x0, hx0⟩ := hv.cell i hi' 0 _ rfl
        have gx0 : vs[0 + i * 1]? = some (.int .i64 x0) := by rw [← hx0]; congr 1; simp only [List.length_cons, List.length_nil]; omega
        obtain ⟨y0, hy0⟩ := hw.cell i hi' 0 _ rfl
        have gy0 : ws[0 + i * 1]? = some (.int .i64 y0) := by rw [← hy0]; congr 1; simp only [List.length_cons, List.length_nil]; omega
        refine n_idx i rfl hi' (n_rdI gx0 (n_idx i rfl hi' (n_rdI gy0 ?_)))
        refine n_neq (fun hf => ?_) (fun ht => n_add (by omega) (by omega) ?_)
        · refine ⟨[], _, _, names_id' rfl rfl rfl, rfl, .inr ⟨rfl, rfl, fun hh => ?_⟩⟩
          subst hh
          have ex0 : x0 = y0 := by have := hx0.symm.trans hy0; simpa using this
          exact hf ex0
        · refine ⟨⟨i + 1, by omega, ext_row (sz := 1) hp (fun j hj => ?_)⟩, [], by simp only; omega, names_id' rfl rfl rfl⟩
          have ex0 := ht
          match j, hj with
          | 0, _ => exact (show _ = _ from hx0).trans (by rw [ex0]; exact (show _ = _ from hy0).symm)
          | j + 1, hj => omega
      · have h2 : ¬ (i : Int) < (n : Int) := h1
        have : i = n := by omega
        subst this
        exact ⟨[], _, _, names_id' rfl rfl rfl, rfl, .inl ⟨rfl, rfl, all_row hv.len hw.len hp⟩⟩)
    ⟨0, Nat.zero_le _, fun p hp => absurd hp (by omega)⟩ rfl (vals := vals) (h := hh) hvals ho hle
theorem loopOkRInt {vs ws : List Value} {ea qa eb qb : Nat} {ka wa kb wb : Bool} {n ca cb : Nat} {p0 p1 p3 p4 : Int} {q0 q1 q3 q4 : Int} (hv : TyL [.i64] vs n) (hw : TyL [.i64] ws n) (hn : n ≤ 9223372036854775807) : LoopOk Try.prog 100 [2, 3, 5] (sLoopR (LRInt vs ws ea qa eb qb ka wa kb wb n ca cb p0 p1 p3 p4 q0 q1 q3 q4)) := by
  intro c N vals h Q hS
  obtain ⟨h1, h2, h3, h4, hT, hF⟩ := hS
  obtain ⟨e, v, o, ⟨q1, q2⟩, q3⟩ := loopRInt hv hw hn c h1 h2 h3 h4 (next_of h4)
  rw [h4] at hT hF
  subst h3
  subst q1
  rcases q2 with ⟨r1, r2, r3⟩ | ⟨r1, r2, r3⟩
  · subst r1; subst r2; exact ⟨_, q3, hT r3⟩
  · subst r1; subst r2; exact ⟨_, q3, hF r3⟩
theorem refCInt {vs ws : List Value} {ea qa eb qb : Nat} {ka wa kb wb : Bool} {n ca cb : Nat} {p0 p1 p3 p4 : Int} {q0 q1 q3 q4 : Int} (hv : TyL [.i64] vs n) (hw : TyL [.i64] ws n) (hn : n ≤ 9223372036854775807) :
    ∃ t, (t = true ↔ p0 = q0 ∧ p1 = q1 ∧ p3 = q3 ∧ p4 = q4 ∧ vs = ws) ∧ ∀ B, CallH Try.prog 100 B 13 [.agg ⟨[.int .i64 p0, .int .u8 p1, (.slice (some ⟨100, 0, none⟩) n ca), .int .i64 p3, .int .i64 p4]⟩, .agg ⟨[.int .i64 q0, .int .u8 q1, (.slice (some ⟨101, 0, none⟩) n cb), .int .i64 q3, .int .i64 q4]⟩] (hOf 100 [] [some (.cells vs ea qa ka wa), some (.cells ws eb qb kb wb)]) (.returned (.bool t)) (hOf 100 [] [some (.cells vs ea qa ka wa), some (.cells ws eb qb kb wb)]) := by
  have h0 : Is (gRefInt (real Try.prog) (LRInt vs ws ea qa eb qb ka wa kb wb n ca cb p0 p1 p3 p4 q0 q1 q3 q4) vs ws ea qa eb qb ka wa kb wb n ca cb p0 p1 p3 p4 q0 q1 q3 q4 (fun v objs => ∃ t, (t = true ↔ p0 = q0 ∧ p1 = q1 ∧ p3 = q3 ∧ p4 = q4 ∧ vs = ws) ∧ v = .bool t ∧ objs = [some (.cells vs ea qa ka wa), some (.cells ws eb qb kb wb)] ++ [some (.cells [.int .i64 p0, .int .u8 p1, (.slice (some ⟨100, 0, none⟩) n ca), .int .i64 p3, .int .i64 p4] 32 5 false true), some (.cells [.int .i64 q0, .int .u8 q1, (.slice (some ⟨101, 0, none⟩) n cb), .int .i64 q3, .int .i64 q4] 32 5 false true)])) := by
    refine ⟨?_⟩
    rw [gRefInt_eq]
    refine n_lenV rfl (n_lenV rfl (n_neq (fun h => absurd rfl h) (fun _ => ⟨rfl, rfl, rfl, rfl, fun h4 => ?_, fun h4 => ?_⟩)))
    · exact n_eql (fun h0 => n_eql (fun h1 => n_eql (fun h2 => n_eql (fun h3 => ⟨true, ⟨fun _ => ⟨h0, h1, h2, h3, h4⟩, fun _ => rfl⟩, rfl, rfl⟩) (fun n3 => ⟨false, ⟨fun h => (by cases h), fun h => absurd h.2.2.2.1 n3⟩, rfl, rfl⟩)) (fun n2 => ⟨false, ⟨fun h => (by cases h), fun h => absurd h.2.2.1 n2⟩, rfl, rfl⟩)) (fun n1 => ⟨false, ⟨fun h => (by cases h), fun h => absurd h.2.1 n1⟩, rfl, rfl⟩)) (fun n0 => ⟨false, ⟨fun h => (by cases h), fun h => absurd h.1 n0⟩, rfl, rfl⟩)
    · exact ⟨false, ⟨fun h => (by cases h), fun h => absurd h.2.2.2.2 h4⟩, rfl, rfl⟩
  obtain ⟨v, objs, ⟨t, h1, h2, h3⟩, h4⟩ := callW kn_none (lp_ok (l := [(4, ([2, 3, 5], sLoopR (LRInt vs ws ea qa eb qb ka wa kb wb n ca cb p0 p1 p3 p4 q0 q1 q3 q4)))]) (by
    intro y hy; simp only [List.mem_cons, List.not_mem_nil, or_false] at hy; subst hy; exact loopOkRInt hv hw hn)) (f := 13) (args := [.agg ⟨[.int .i64 p0, .int .u8 p1, (.slice (some ⟨100, 0, none⟩) n ca), .int .i64 p3, .int .i64 p4]⟩, .agg ⟨[.int .i64 q0, .int .u8 q1, (.slice (some ⟨101, 0, none⟩) n cb), .int .i64 q3, .int .i64 q4]⟩]) h0
  subst h2; subst h3
  refine ⟨t, h1, fun B => call_gc (l := []) (h4 B) (names_drop rfl (fun o ho => ?_))⟩
  simp only [List.mem_cons, List.not_mem_nil, or_false, Option.some.injEq] at ho
  rcases ho with rfl | rfl
  · simpa [plainO] using hv.plain
  · simpa [plainO] using hw.plain
theorem refInt {x y : Value} {oa ob : Option AObj} {vs ws : List Value} {n m : Nat} {p0 p1 p3 p4 : Int} {q0 q1 q3 q4 : Int} (hx : Sv [.i64] 100 x oa vs n) (hy : Sv [.i64] 101 y ob ws m) :
    ∃ t, (t = true ↔ p0 = q0 ∧ p1 = q1 ∧ p3 = q3 ∧ p4 = q4 ∧ vs = ws) ∧ ∀ B, CallH Try.prog 100 B 13 [.agg ⟨[.int .i64 p0, .int .u8 p1, x, .int .i64 p3, .int .i64 p4]⟩, .agg ⟨[.int .i64 q0, .int .u8 q1, y, .int .i64 q3, .int .i64 q4]⟩] (hOf 100 [] [oa, ob]) (.returned (.bool t)) (hOf 100 [] [oa, ob]) := by
  by_cases h : n = m ∧ 0 < n
  · obtain ⟨e, hp⟩ := h
    subst e
    obtain ⟨hv, hn, ca, ea, qa, ka, wa, e1, e2⟩ := hx.pos hp
    obtain ⟨hw, _, cb, eb, qb, kb, wb, e3, e4⟩ := hy.pos hp
    subst e1; subst e2; subst e3; subst e4
    exact refCInt hv hw hn
  · obtain ⟨a1, c1, ex⟩ := hx.sl
    obtain ⟨a2, c2, ey⟩ := hy.sl
    have h0 : Is (gRefoInt (real Try.prog) x y oa ob p0 p1 p3 p4 q0 q1 q3 q4 (fun v objs => ∃ t, (t = true ↔ p0 = q0 ∧ p1 = q1 ∧ p3 = q3 ∧ p4 = q4 ∧ vs = ws) ∧ v = .bool t ∧ objs = [oa, ob] ++ [some (.cells [.int .i64 p0, .int .u8 p1, x, .int .i64 p3, .int .i64 p4] 32 5 false true), some (.cells [.int .i64 q0, .int .u8 q1, y, .int .i64 q3, .int .i64 q4] 32 5 false true)])) := by
      refine ⟨?_⟩
      rw [gRefoInt_eq]
      refine n_lenV ex (n_lenV ey (n_neq (fun hne => ?_) (fun he => n_lenV ex (n_lss (fun hl => ?_) (fun hl => ?_)))))
      · have hd : ¬ vs = ws := len_ne (sz := 1) (by omega) hx.len hy.len (fun e => hne (by rw [e]))
        exact ⟨false, ⟨fun h => (by cases h), fun h => absurd h.2.2.2.2 hd⟩, rfl, rfl⟩
      · have e1 : n = m := Int.ofNat_inj.1 he
        have e2 : 0 < n := Int.ofNat_lt.1 hl
        exact h ⟨e1, e2⟩
      · have e1 : n = m := Int.ofNat_inj.1 he
        have e2 : n = 0 := by
          rcases Nat.eq_zero_or_pos n with e | e
          · exact e
          · exact absurd (Int.ofNat_lt.2 e) hl
        subst e1; subst e2
        have h4 : vs = ws := by rw [len_nil hx.len, len_nil hy.len]
        exact n_eql (fun h0 => n_eql (fun h1 => n_eql (fun h2 => n_eql (fun h3 => ⟨true, ⟨fun _ => ⟨h0, h1, h2, h3, h4⟩, fun _ => rfl⟩, rfl, rfl⟩) (fun n3 => ⟨false, ⟨fun h => (by cases h), fun h => absurd h.2.2.2.1 n3⟩, rfl, rfl⟩)) (fun n2 => ⟨false, ⟨fun h => (by cases h), fun h => absurd h.2.2.1 n2⟩, rfl, rfl⟩)) (fun n1 => ⟨false, ⟨fun h => (by cases h), fun h => absurd h.2.1 n1⟩, rfl, rfl⟩)) (fun n0 => ⟨false, ⟨fun h => (by cases h), fun h => absurd h.1 n0⟩, rfl, rfl⟩)
    obtain ⟨v, objs, ⟨t, h1, h2, h3⟩, h4⟩ := callW kn_none lp_none (f := 13) (args := [.agg ⟨[.int .i64 p0, .int .u8 p1, x, .int .i64 p3, .int .i64 p4]⟩, .agg ⟨[.int .i64 q0, .int .u8 q1, y, .int .i64 q3, .int .i64 q4]⟩]) h0
    subst h2; subst h3
    refine ⟨t, h1, fun B => call_gc (l := []) (h4 B) (names_drop rfl (fun o ho => ?_))⟩
    simp only [List.mem_cons, List.not_mem_nil, or_false] at ho
    rcases ho with e | e
    · exact hx.plain e.symm
    · exact hy.plain e.symm
theorem objInt {x y : Value} {oa ob : Option AObj} {vs ws : List Value} {n m : Nat} {p0 p1 p3 p4 : Int} {q0 q1 q3 q4 : Int} (hx : Sv [.i64] 100 x oa vs n) (hy : Sv [.i64] 101 y ob ws m) :
    ∃ t, (t = true ↔ p0 = q0 ∧ p1 = q1 ∧ p3 = q3 ∧ p4 = q4 ∧ vs = ws) ∧ ∀ B, CallH Try.prog 100 B 12 [.agg ⟨[.int .i64 p0, .int .u8 p1, x, .int .i64 p3, .int .i64 p4]⟩, .agg ⟨[.int .i64 q0, .int .u8 q1, y, .int .i64 q3, .int .i64 q4]⟩] (hOf 100 [] [oa, ob]) (.returned (.bool t)) (hOf 100 [] [oa, ob]) := by
  have hM : ∃ t, (t = true ↔ vs = ws) ∧ ∀ H, objsOf 100 H = [oa, ob, some (.cells [.int .i64 p0, .int .u8 p1, x, .int .i64 p3, .int .i64 p4] 32 5 false true), some (.cells [.int .i64 q0, .int .u8 q1, y, .int .i64 q3, .int .i64 q4] 32 5 false true)] → ∀ B, CallH Try.prog 100 B 33 [x, y] H (.returned (.bool t)) H := by
    obtain ⟨t0, i0, _⟩ := eqInt hx hy
    refine ⟨t0, i0, fun H hH B => ?_⟩
    have g0 := at_objs hH (i := 0) rfl
    have g1 := at_objs hH (i := 1) rfl
    obtain ⟨t1, i1, c1⟩ := lift2 (f := 33) (args := fun x y => [x, y]) (fun τ x y => rfl) (fun hx hy => eqInt hx hy) (H := H) (a := 100) (b := 101) ⟨oa, hx, by omega, g0.1, g0.2⟩ ⟨ob, hy, by omega, g1.1, g1.2⟩ (by omega)
    have : t1 = t0 := by
      cases t0 <;> cases t1 <;> simp_all
    rw [← this]; exact c1 B
  have h0 : Is (gObjInt (real Try.prog) realM x y oa ob p0 p1 p3 p4 q0 q1 q3 q4 (fun v objs => ∃ t, (t = true ↔ p0 = q0 ∧ p1 = q1 ∧ p3 = q3 ∧ p4 = q4 ∧ vs = ws) ∧ v = .bool t ∧ objs = [oa, ob] ++ [some (.cells [.int .i64 p0, .int .u8 p1, x, .int .i64 p3, .int .i64 p4] 32 5 false true), some (.cells [.int .i64 q0, .int .u8 q1, y, .int .i64 q3, .int .i64 q4] 32 5 false true)])) := by
    refine ⟨?_⟩
    rw [gObjInt_eq]
    refine n_eql (fun h0 => n_eql (fun h1 => ?_) (fun n1 => ⟨false, ⟨fun h => (by cases h), fun h => absurd h.2.1 n1⟩, rfl, rfl⟩)) (fun n0 => ⟨false, ⟨fun h => (by cases h), fun h => absurd h.1 n0⟩, rfl, rfl⟩)
    obtain ⟨t, ht, hcall⟩ := hM
    refine ⟨t, hcall, ?_⟩
    cases t with
    | true =>
      have h4 : vs = ws := ht.1 rfl
      exact n_eql (fun h2 => n_eql (fun h3 => ⟨true, ⟨fun _ => ⟨h0, h1, h2, h3, h4⟩, fun _ => rfl⟩, rfl, rfl⟩) (fun n3 => ⟨false, ⟨fun h => (by cases h), fun h => absurd h.2.2.2.1 n3⟩, rfl, rfl⟩)) (fun n2 => ⟨false, ⟨fun h => (by cases h), fun h => absurd h.2.2.1 n2⟩, rfl, rfl⟩)
    | false =>
      have hd : ¬ vs = ws := fun e => (by cases ht.2 e)
      exact ⟨false, ⟨fun h => (by cases h), fun h => absurd h.2.2.2.2 hd⟩, rfl, rfl⟩
  obtain ⟨v, objs, ⟨t, h1, h2, h3⟩, h4⟩ := callW kn_M lp_none (f := 12) (args := [.agg ⟨[.int .i64 p0, .int .u8 p1, x, .int .i64 p3, .int .i64 p4]⟩, .agg ⟨[.int .i64 q0, .int .u8 q1, y, .int .i64 q3, .int .i64 q4]⟩]) h0
  subst h2; subst h3
  refine ⟨t, h1, fun B => call_gc (l := []) (h4 B) (names_drop rfl (fun o ho => ?_))⟩
  simp only [List.mem_cons, List.not_mem_nil, or_false] at ho
  rcases ho with e | e
  · exact hx.plain e.symm
  · exact hy.plain e.symm
theorem bothInt {H : Heap} {a b : Nat} {x y : Value} {vs ws : List Value} {n m : Nat} {p0 p1 p3 p4 : Int} {q0 q1 q3 q4 : Int} (hx : Sh [.i64] H a x vs n) (hy : Sh [.i64] H b y ws m) (hne : a ≠ b) :
    (∃ t, (t = true ↔ p0 = q0 ∧ p1 = q1 ∧ p3 = q3 ∧ p4 = q4 ∧ vs = ws) ∧ ∀ B, CallH Try.prog 100 B 12 [.agg ⟨[.int .i64 p0, .int .u8 p1, x, .int .i64 p3, .int .i64 p4]⟩, .agg ⟨[.int .i64 q0, .int .u8 q1, y, .int .i64 q3, .int .i64 q4]⟩] H (.returned (.bool t)) H) ∧
    (∃ t, (t = true ↔ p0 = q0 ∧ p1 = q1 ∧ p3 = q3 ∧ p4 = q4 ∧ vs = ws) ∧ ∀ B, CallH Try.prog 100 B 13 [.agg ⟨[.int .i64 p0, .int .u8 p1, x, .int .i64 p3, .int .i64 p4]⟩, .agg ⟨[.int .i64 q0, .int .u8 q1, y, .int .i64 q3, .int .i64 q4]⟩] H (.returned (.bool t)) H) :=
  ⟨lift2 (f := 12) (args := fun x y => [.agg ⟨[.int .i64 p0, .int .u8 p1, x, .int .i64 p3, .int .i64 p4]⟩, .agg ⟨[.int .i64 q0, .int .u8 q1, y, .int .i64 q3, .int .i64 q4]⟩]) (fun τ x y => by simp only [vrenL, vren, vrenA]) (fun hx hy => objInt hx hy) hx hy hne,
   lift2 (f := 13) (args := fun x y => [.agg ⟨[.int .i64 p0, .int .u8 p1, x, .int .i64 p3, .int .i64 p4]⟩, .agg ⟨[.int .i64 q0, .int .u8 q1, y, .int .i64 q3, .int .i64 q4]⟩]) (fun τ x y => by simp only [vrenL, vren, vrenA]) (fun hx hy => refInt hx hy) hx hy hne⟩
-- U64
def LRU64 (vs ws : List Value) (ea qa eb qb : Nat) (ka wa kb wb : Bool) (n ca cb : Nat) (p0 p3 p4 p5 p7 p8 p9 : Int) (p1 p2 : ByteArray) (p10 : Bool) (q0 q3 q4 q5 q7 q8 q9 : Int) (q1 q2 : ByteArray) (q10 : Bool) : LT := fun c N vals objs T F => c = loopIn Try.prog 15 4 ∧ N = 99 ∧ vals = [.pointer (some ⟨102, 0, none⟩), .pointer (some ⟨103, 0, none⟩), .int .i64 0] ∧ objs = [some (.cells vs ea qa ka wa), some (.cells ws eb qb kb wb), some (.cells [.int .i64 p0, .string p1, .string p2, .int .i64 p3, .int .i64 p4, .int .i64 p5, (.slice (some ⟨100, 0, none⟩) n ca), .int .i64 p7, .int .i64 p8, .int .u64 p9, .bool p10] 34 11 false true), some (.cells [.int .i64 q0, .string q1, .string q2, .int .i64 q3, .int .i64 q4, .int .i64 q5, (.slice (some ⟨101, 0, none⟩) n cb), .int .i64 q7, .int .i64 q8, .int .u64 q9, .bool q10] 34 11 false true)] ∧ (vs = ws → T) ∧ (vs ≠ ws → F)
theorem loopRU64 {vs ws : List Value} {ea qa eb qb : Nat} {ka wa kb wb : Bool} {n ca cb : Nat} {p0 p3 p4 p5 p7 p8 p9 : Int} {p1 p2 : ByteArray} {p10 : Bool} {q0 q3 q4 q5 q7 q8 q9 : Int} {q1 q2 : ByteArray} {q10 : Bool} (hv : TyL [.u64] vs n) (hw : TyL [.u64] ws n) (hn : n ≤ 9223372036854775807) {vals : List Value} {hh : Heap} (c : Code) (hc : c = loopIn Try.prog 15 4) {N : Nat} (hN : N = 99)
    (hvals : vals = [.pointer (some ⟨102, 0, none⟩), .pointer (some ⟨103, 0, none⟩), .int .i64 0]) (ho : objsOf 100 hh = [some (.cells vs ea qa ka wa), some (.cells ws eb qb kb wb), some (.cells [.int .i64 p0, .string p1, .string p2, .int .i64 p3, .int .i64 p4, .int .i64 p5, (.slice (some ⟨100, 0, none⟩) n ca), .int .i64 p7, .int .i64 p8, .int .u64 p9, .bool p10] 34 11 false true), some (.cells [.int .i64 q0, .string q1, .string q2, .int .i64 q3, .int .i64 q4, .int .i64 q5, (.slice (some ⟨101, 0, none⟩) n cb), .int .i64 q7, .int .i64 q8, .int .u64 q9, .bool q10] 34 11 false true)]) (hle : 100 ≤ hh.next) :
    ∃ e v o, RE [some (.cells vs ea qa ka wa), some (.cells ws eb qb kb wb), some (.cells [.int .i64 p0, .string p1, .string p2, .int .i64 p3, .int .i64 p4, .int .i64 p5, (.slice (some ⟨100, 0, none⟩) n ca), .int .i64 p7, .int .i64 p8, .int .u64 p9, .bool p10] 34 11 false true), some (.cells [.int .i64 q0, .string q1, .string q2, .int .i64 q3, .int .i64 q4, .int .i64 q5, (.slice (some ⟨101, 0, none⟩) n cb), .int .i64 q7, .int .i64 q8, .int .u64 q9, .bool q10] 34 11 false true)] (vs = ws) [.pointer (some ⟨102, 0, none⟩), .pointer (some ⟨103, 0, none⟩), top] [.pointer (some ⟨102, 0, none⟩), .pointer (some ⟨103, 0, none⟩), .bool false] e v o ∧ ∀ B, Holds Try.prog 100 B (.loop false c ⟨tmOf N [2, 3, 5] vals, [], hh, .run⟩) (.ex e (stOf 100 N [2, 3, 4] (v, o))) := by
  subst hc; subst hN
  exact lp_rule (P := Try.prog) (G := 100) (W := WL) (fuel := 200) (N := 99) (k0 := 4) (live := [2, 3, 5]) (live2 := [2, 3, 4]) (c := loopIn Try.prog 15 4) okp kn_none lp_none (α := { i : Nat // i ≤ n ∧ ∀ p, p < i * 1 → vs[p]? = ws[p]? }) (fun y => n - y.1)
    (fun y => ([.pointer (some ⟨102, 0, none⟩), .pointer (some ⟨103, 0, none⟩), .int .i64 y.1], [some (.cells vs ea qa ka wa), some (.cells ws eb qb kb wb), some (.cells [.int .i64 p0, .string p1, .string p2, .int .i64 p3, .int .i64 p4, .int .i64 p5, (.slice (some ⟨100, 0, none⟩) n ca), .int .i64 p7, .int .i64 p8, .int .u64 p9, .bool p10] 34 11 false true), some (.cells [.int .i64 q0, .string q1, .string q2, .int .i64 q3, .int .i64 q4, .int .i64 q5, (.slice (some ⟨101, 0, none⟩) n cb), .int .i64 q7, .int .i64 q8, .int .u64 q9, .bool q10] 34 11 false true)]))
    (RE [some (.cells vs ea qa ka wa), some (.cells ws eb qb kb wb), some (.cells [.int .i64 p0, .string p1, .string p2, .int .i64 p3, .int .i64 p4, .int .i64 p5, (.slice (some ⟨100, 0, none⟩) n ca), .int .i64 p7, .int .i64 p8, .int .u64 p9, .bool p10] 34 11 false true), some (.cells [.int .i64 q0, .string q1, .string q2, .int .i64 q3, .int .i64 q4, .int .i64 q5, (.slice (some ⟨101, 0, none⟩) n cb), .int .i64 q7, .int .i64 q8, .int .u64 q9, .bool q10] 34 11 false true)] (vs = ws) [.pointer (some ⟨102, 0, none⟩), .pointer (some ⟨103, 0, none⟩), top] [.pointer (some ⟨102, 0, none⟩), .pointer (some ⟨103, 0, none⟩), .bool false]) (by
      rintro ⟨i, hi, hp⟩
      have hg := gLoopRU64_eq (real Try.prog) vs ws ea qa eb qb ka wa kb wb n ca cb p0 p3 p4 p5 p7 p8 p9 p1 p2 p10 q0 q3 q4 q5 q7 q8 q9 q1 q2 q10 i
      unfold gLoopRU64 at hg
      refine ⟨?_⟩
      show wpe _ _ _ _ _ _
      generalize hst : stOf 100 99 [2, 3, 5] _ = st
      have e : st = stOf 100 99 [2, 3, 5] ([.pointer (some ⟨102, 0, none⟩), .pointer (some ⟨103, 0, none⟩), .int .i64 i], [some (.cells vs ea qa ka wa), some (.cells ws eb qb kb wb), some (.cells [.int .i64 p0, .string p1, .string p2, .int .i64 p3, .int .i64 p4, .int .i64 p5, (.slice (some ⟨100, 0, none⟩) n ca), .int .i64 p7, .int .i64 p8, .int .u64 p9, .bool p10] 34 11 false true), some (.cells [.int .i64 q0, .string q1, .string q2, .int .i64 q3, .int .i64 q4, .int .i64 q5, (.slice (some ⟨101, 0, none⟩) n cb), .int .i64 q7, .int .i64 q8, .int .u64 q9, .bool q10] 34 11 false true)]) := hst.symm
      rw [e, hg]
      refine n_lss (fun h1 => ?_) (fun h1 => ?_)
      · have hi' : i < n := by
          have h2 : (i : Int) < (n : Int) := h1
          omega
        obtain ⟨x0, hx0⟩ := hv.cell i hi' 0 _ rfl
        have gx0 : vs[0 + i * 1]? = some (.int .u64 x0) := by rw [← hx0]; congr 1; simp only [List.length_cons, List.length_nil]; omega
        obtain ⟨y0, hy0⟩ := hw.cell i hi' 0 _ rfl
        have gy0 : ws[0 + i * 1]? = some (.int .u64 y0) := by rw [← hy0]; congr 1; simp only [List.length_cons, List.length_nil]; omega
        refine n_idx i rfl hi' (n_rdI gx0 (n_idx i rfl hi' (n_rdI gy0 ?_)))
        refine n_neq (fun hf => ?_) (fun ht => n_add (by omega) (by omega) ?_)
        · refine ⟨[], _, _, names_id' rfl rfl rfl, rfl, .inr ⟨rfl, rfl, fun hh => ?_⟩⟩
          subst hh
          have ex0 : x0 = y0 := by have := hx0.symm.trans hy0; simpa using this
          exact hf ex0
        · refine ⟨⟨i + 1, by omega, ext_row (sz := 1) hp (fun j hj => ?_)⟩, [], by simp only; omega, names_id' rfl rfl rfl⟩
          have ex0 := ht
          match j, hj with
          | 0, _ => exact (show _ = _ from hx0).trans (by rw [ex0]; exact (show _ = _ from hy0).symm)
          | j + 1, hj => omega
      · have h2 : ¬ (i : Int) < (n : Int) := h1
        have : i = n := by omega
        subst this
        exact ⟨[], _, _, names_id' rfl rfl rfl, rfl, .inl ⟨rfl, rfl, all_row hv.len hw.len hp⟩⟩)
    ⟨0, Nat.zero_le _, fun p hp => absurd hp (by omega)⟩ rfl (vals := vals) (h := hh) hvals ho hle
theorem loopOkRU64 {vs ws : List Value} {ea qa eb qb : Nat} {ka wa kb wb : Bool} {n ca cb : Nat} {p0 p3 p4 p5 p7 p8 p9 : Int} {p1 p2 : ByteArray} {p10 : Bool} {q0 q3 q4 q5 q7 q8 q9 : Int} {q1 q2 : ByteArray} {q10 : Bool} (hv : TyL [.u64] vs n) (hw : TyL [.u64] ws n) (hn : n ≤ 9223372036854775807) : LoopOk Try.prog 100 [2, 3, 5] (sLoopR (LRU64 vs ws ea qa eb qb ka wa kb wb n ca cb p0 p3 p4 p5 p7 p8 p9 p1 p2 p10 q0 q3 q4 q5 q7 q8 q9 q1 q2 q10)) := by
  intro c N vals h Q hS
  obtain ⟨h1, h2, h3, h4, hT, hF⟩ := hS
  obtain ⟨e, v, o, ⟨q1, q2⟩, q3⟩ := loopRU64 hv hw hn c h1 h2 h3 h4 (next_of h4)
  rw [h4] at hT hF
  subst h3
  subst q1
  rcases q2 with ⟨r1, r2, r3⟩ | ⟨r1, r2, r3⟩
  · subst r1; subst r2; exact ⟨_, q3, hT r3⟩
  · subst r1; subst r2; exact ⟨_, q3, hF r3⟩
theorem refCU64 {vs ws : List Value} {ea qa eb qb : Nat} {ka wa kb wb : Bool} {n ca cb : Nat} {p0 p3 p4 p5 p7 p8 p9 : Int} {p1 p2 : ByteArray} {p10 : Bool} {q0 q3 q4 q5 q7 q8 q9 : Int} {q1 q2 : ByteArray} {q10 : Bool} (hv : TyL [.u64] vs n) (hw : TyL [.u64] ws n) (hn : n ≤ 9223372036854775807) :
    ∃ t, (t = true ↔ p0 = q0 ∧ p1.data.toList = q1.data.toList ∧ p2.data.toList = q2.data.toList ∧ p3 = q3 ∧ p4 = q4 ∧ p5 = q5 ∧ p7 = q7 ∧ p8 = q8 ∧ p9 = q9 ∧ (p10 == q10) = true ∧ vs = ws) ∧ ∀ B, CallH Try.prog 100 B 15 [.agg ⟨[.int .i64 p0, .string p1, .string p2, .int .i64 p3, .int .i64 p4, .int .i64 p5, (.slice (some ⟨100, 0, none⟩) n ca), .int .i64 p7, .int .i64 p8, .int .u64 p9, .bool p10]⟩, .agg ⟨[.int .i64 q0, .string q1, .string q2, .int .i64 q3, .int .i64 q4, .int .i64 q5, (.slice (some ⟨101, 0, none⟩) n cb), .int .i64 q7, .int .i64 q8, .int .u64 q9, .bool q10]⟩] (hOf 100 [] [some (.cells vs ea qa ka wa), some (.cells ws eb qb kb wb)]) (.returned (.bool t)) (hOf 100 [] [some (.cells vs ea qa ka wa), some (.cells ws eb qb kb wb)]) := by
  have h0 : Is (gRefU64 (real Try.prog) (LRU64 vs ws ea qa eb qb ka wa kb wb n ca cb p0 p3 p4 p5 p7 p8 p9 p1 p2 p10 q0 q3 q4 q5 q7 q8 q9 q1 q2 q10) vs ws ea qa eb qb ka wa kb wb n ca cb p0 p3 p4 p5 p7 p8 p9 p1 p2 p10 q0 q3 q4 q5 q7 q8 q9 q1 q2 q10 (fun v objs => ∃ t, (t = true ↔ p0 = q0 ∧ p1.data.toList = q1.data.toList ∧ p2.data.toList = q2.data.toList ∧ p3 = q3 ∧ p4 = q4 ∧ p5 = q5 ∧ p7 = q7 ∧ p8 = q8 ∧ p9 = q9 ∧ (p10 == q10) = true ∧ vs = ws) ∧ v = .bool t ∧ objs = [some (.cells vs ea qa ka wa), some (.cells ws eb qb kb wb)] ++ [some (.cells [.int .i64 p0, .string p1, .string p2, .int .i64 p3, .int .i64 p4, .int .i64 p5, (.slice (some ⟨100, 0, none⟩) n ca), .int .i64 p7, .int .i64 p8, .int .u64 p9, .bool p10] 34 11 false true), some (.cells [.int .i64 q0, .string q1, .string q2, .int .i64 q3, .int .i64 q4, .int .i64 q5, (.slice (some ⟨101, 0, none⟩) n cb), .int .i64 q7, .int .i64 q8, .int .u64 q9, .bool q10] 34 11 false true)])) := by
    refine ⟨?_⟩
    rw [gRefU64_eq]
    refine n_lenV rfl (n_lenV rfl (n_neq (fun h => absurd rfl h) (fun _ => ⟨rfl, rfl, rfl, rfl, fun h10 => ?_, fun h10 => ?_⟩)))
    · exact n_eql (fun h0 => n_scmp_eq (fun h1 => n_scmp_eq (fun h2 => n_eql (fun h3 => n_eql (fun h4 => n_eql (fun h5 => n_eql (fun h6 => n_eql (fun h7 => n_eql (fun h8 => n_beq (fun h9 => ⟨true, ⟨fun _ => ⟨h0, h1, h2, h3, h4, h5, h6, h7, h8, h9, h10⟩, fun _ => rfl⟩, rfl, rfl⟩) (fun n9 => ⟨false, ⟨fun h => (by cases h), fun h => (by rw [n9] at h; cases h.2.2.2.2.2.2.2.2.2.1)⟩, rfl, rfl⟩)) (fun n8 => ⟨false, ⟨fun h => (by cases h), fun h => absurd h.2.2.2.2.2.2.2.2.1 n8⟩, rfl, rfl⟩)) (fun n7 => ⟨false, ⟨fun h => (by cases h), fun h => absurd h.2.2.2.2.2.2.2.1 n7⟩, rfl, rfl⟩)) (fun n6 => ⟨false, ⟨fun h => (by cases h), fun h => absurd h.2.2.2.2.2.2.1 n6⟩, rfl, rfl⟩)) (fun n5 => ⟨false, ⟨fun h => (by cases h), fun h => absurd h.2.2.2.2.2.1 n5⟩, rfl, rfl⟩)) (fun n4 => ⟨false, ⟨fun h => (by cases h), fun h => absurd h.2.2.2.2.1 n4⟩, rfl, rfl⟩)) (fun n3 => ⟨false, ⟨fun h => (by cases h), fun h => absurd h.2.2.2.1 n3⟩, rfl, rfl⟩)) (fun n2 => ⟨false, ⟨fun h => (by cases h), fun h => absurd h.2.2.1 n2⟩, rfl, rfl⟩)) (fun n1 => ⟨false, ⟨fun h => (by cases h), fun h => absurd h.2.1 n1⟩, rfl, rfl⟩)) (fun n0 => ⟨false, ⟨fun h => (by cases h), fun h => absurd h.1 n0⟩, rfl, rfl⟩)
    · exact ⟨false, ⟨fun h => (by cases h), fun h => absurd h.2.2.2.2.2.2.2.2.2.2 h10⟩, rfl, rfl⟩
  obtain ⟨v, objs, ⟨t, h1, h2, h3⟩, h4⟩ := callW kn_none (lp_ok (l := [(4, ([2, 3, 5], sLoopR (LRU64 vs ws ea qa eb qb ka wa kb wb n ca cb p0 p3 p4 p5 p7 p8 p9 p1 p2 p10 q0 q3 q4 q5 q7 q8 q9 q1 q2 q10)))]) (by
    intro y hy; simp only [List.mem_cons, List.not_mem_nil, or_false] at hy; subst hy; exact loopOkRU64 hv hw hn)) (f := 15) (args := [.agg ⟨[.int .i64 p0, .string p1, .string p2, .int .i64 p3, .int .i64 p4, .int .i64 p5, (.slice (some ⟨100, 0, none⟩) n ca), .int .i64 p7, .int .i64 p8, .int .u64 p9, .bool p10]⟩, .agg ⟨[.int .i64 q0, .string q1, .string q2, .int .i64 q3, .int .i64 q4, .int .i64 q5, (.slice (some ⟨101, 0, none⟩) n cb), .int .i64 q7, .int .i64 q8, .int .u64 q9, .bool q10]⟩]) h0
  subst h2; subst h3
  refine ⟨t, h1, fun B => call_gc (l := []) (h4 B) (names_drop rfl (fun o ho => ?_))⟩
  simp only [List.mem_cons, List.not_mem_nil, or_false, Option.some.injEq] at ho
  rcases ho with rfl | rfl
  · simpa [plainO] using hv.plain
  · simpa [plainO] using hw.plain
theorem refU64 {x y : Value} {oa ob : Option AObj} {vs ws : List Value} {n m : Nat} {p0 p3 p4 p5 p7 p8 p9 : Int} {p1 p2 : ByteArray} {p10 : Bool} {q0 q3 q4 q5 q7 q8 q9 : Int} {q1 q2 : ByteArray} {q10 : Bool} (hx : Sv [.u64] 100 x oa vs n) (hy : Sv [.u64] 101 y ob ws m) :
    ∃ t, (t = true ↔ p0 = q0 ∧ p1.data.toList = q1.data.toList ∧ p2.data.toList = q2.data.toList ∧ p3 = q3 ∧ p4 = q4 ∧ p5 = q5 ∧ p7 = q7 ∧ p8 = q8 ∧ p9 = q9 ∧ (p10 == q10) = true ∧ vs = ws) ∧ ∀ B, CallH Try.prog 100 B 15 [.agg ⟨[.int .i64 p0, .string p1, .string p2, .int .i64 p3, .int .i64 p4, .int .i64 p5, x, .int .i64 p7, .int .i64 p8, .int .u64 p9, .bool p10]⟩, .agg ⟨[.int .i64 q0, .string q1, .string q2, .int .i64 q3, .int .i64 q4, .int .i64 q5, y, .int .i64 q7, .int .i64 q8, .int .u64 q9, .bool q10]⟩] (hOf 100 [] [oa, ob]) (.returned (.bool t)) (hOf 100 [] [oa, ob]) := by
  by_cases h : n = m ∧ 0 < n
  · obtain ⟨e, hp⟩ := h
    subst e
    obtain ⟨hv, hn, ca, ea, qa, ka, wa, e1, e2⟩ := hx.pos hp
    obtain ⟨hw, _, cb, eb, qb, kb, wb, e3, e4⟩ := hy.pos hp
    subst e1; subst e2; subst e3; subst e4
    exact refCU64 hv hw hn
  · obtain ⟨a1, c1, ex⟩ := hx.sl
    obtain ⟨a2, c2, ey⟩ := hy.sl
    have h0 : Is (gRefoU64 (real Try.prog) x y oa ob p0 p3 p4 p5 p7 p8 p9 p1 p2 p10 q0 q3 q4 q5 q7 q8 q9 q1 q2 q10 (fun v objs => ∃ t, (t = true ↔ p0 = q0 ∧ p1.data.toList = q1.data.toList ∧ p2.data.toList = q2.data.toList ∧ p3 = q3 ∧ p4 = q4 ∧ p5 = q5 ∧ p7 = q7 ∧ p8 = q8 ∧ p9 = q9 ∧ (p10 == q10) = true ∧ vs = ws) ∧ v = .bool t ∧ objs = [oa, ob] ++ [some (.cells [.int .i64 p0, .string p1, .string p2, .int .i64 p3, .int .i64 p4, .int .i64 p5, x, .int .i64 p7, .int .i64 p8, .int .u64 p9, .bool p10] 34 11 false true), some (.cells [.int .i64 q0, .string q1, .string q2, .int .i64 q3, .int .i64 q4, .int .i64 q5, y, .int .i64 q7, .int .i64 q8, .int .u64 q9, .bool q10] 34 11 false true)])) := by
      refine ⟨?_⟩
      rw [gRefoU64_eq]
      refine n_lenV ex (n_lenV ey (n_neq (fun hne => ?_) (fun he => n_lenV ex (n_lss (fun hl => ?_) (fun hl => ?_)))))
      · have hd : ¬ vs = ws := len_ne (sz := 1) (by omega) hx.len hy.len (fun e => hne (by rw [e]))
        exact ⟨false, ⟨fun h => (by cases h), fun h => absurd h.2.2.2.2.2.2.2.2.2.2 hd⟩, rfl, rfl⟩
      · have e1 : n = m := Int.ofNat_inj.1 he
        have e2 : 0 < n := Int.ofNat_lt.1 hl
        exact h ⟨e1, e2⟩
      · have e1 : n = m := Int.ofNat_inj.1 he
        have e2 : n = 0 := by
          rcases Nat.eq_zero_or_pos n with e | e
          · exact e
          · exact absurd (Int.ofNat_lt.2 e) hl
        subst e1; subst e2
        have h10 : vs = ws := by rw [len_nil hx.len, len_nil hy.len]
        exact n_eql (fun h0 => n_scmp_eq (fun h1 => n_scmp_eq (fun h2 => n_eql (fun h3 => n_eql (fun h4 => n_eql (fun h5 => n_eql (fun h6 => n_eql (fun h7 => n_eql (fun h8 => n_beq (fun h9 => ⟨true, ⟨fun _ => ⟨h0, h1, h2, h3, h4, h5, h6, h7, h8, h9, h10⟩, fun _ => rfl⟩, rfl, rfl⟩) (fun n9 => ⟨false, ⟨fun h => (by cases h), fun h => (by rw [n9] at h; cases h.2.2.2.2.2.2.2.2.2.1)⟩, rfl, rfl⟩)) (fun n8 => ⟨false, ⟨fun h => (by cases h), fun h => absurd h.2.2.2.2.2.2.2.2.1 n8⟩, rfl, rfl⟩)) (fun n7 => ⟨false, ⟨fun h => (by cases h), fun h => absurd h.2.2.2.2.2.2.2.1 n7⟩, rfl, rfl⟩)) (fun n6 => ⟨false, ⟨fun h => (by cases h), fun h => absurd h.2.2.2.2.2.2.1 n6⟩, rfl, rfl⟩)) (fun n5 => ⟨false, ⟨fun h => (by cases h), fun h => absurd h.2.2.2.2.2.1 n5⟩, rfl, rfl⟩)) (fun n4 => ⟨false, ⟨fun h => (by cases h), fun h => absurd h.2.2.2.2.1 n4⟩, rfl, rfl⟩)) (fun n3 => ⟨false, ⟨fun h => (by cases h), fun h => absurd h.2.2.2.1 n3⟩, rfl, rfl⟩)) (fun n2 => ⟨false, ⟨fun h => (by cases h), fun h => absurd h.2.2.1 n2⟩, rfl, rfl⟩)) (fun n1 => ⟨false, ⟨fun h => (by cases h), fun h => absurd h.2.1 n1⟩, rfl, rfl⟩)) (fun n0 => ⟨false, ⟨fun h => (by cases h), fun h => absurd h.1 n0⟩, rfl, rfl⟩)
    obtain ⟨v, objs, ⟨t, h1, h2, h3⟩, h4⟩ := callW kn_none lp_none (f := 15) (args := [.agg ⟨[.int .i64 p0, .string p1, .string p2, .int .i64 p3, .int .i64 p4, .int .i64 p5, x, .int .i64 p7, .int .i64 p8, .int .u64 p9, .bool p10]⟩, .agg ⟨[.int .i64 q0, .string q1, .string q2, .int .i64 q3, .int .i64 q4, .int .i64 q5, y, .int .i64 q7, .int .i64 q8, .int .u64 q9, .bool q10]⟩]) h0
    subst h2; subst h3
    refine ⟨t, h1, fun B => call_gc (l := []) (h4 B) (names_drop rfl (fun o ho => ?_))⟩
    simp only [List.mem_cons, List.not_mem_nil, or_false] at ho
    rcases ho with e | e
    · exact hx.plain e.symm
    · exact hy.plain e.symm
theorem objU64 {x y : Value} {oa ob : Option AObj} {vs ws : List Value} {n m : Nat} {p0 p3 p4 p5 p7 p8 p9 : Int} {p1 p2 : ByteArray} {p10 : Bool} {q0 q3 q4 q5 q7 q8 q9 : Int} {q1 q2 : ByteArray} {q10 : Bool} (hx : Sv [.u64] 100 x oa vs n) (hy : Sv [.u64] 101 y ob ws m) :
    ∃ t, (t = true ↔ p0 = q0 ∧ p1.data.toList = q1.data.toList ∧ p2.data.toList = q2.data.toList ∧ p3 = q3 ∧ p4 = q4 ∧ p5 = q5 ∧ p7 = q7 ∧ p8 = q8 ∧ p9 = q9 ∧ (p10 == q10) = true ∧ vs = ws) ∧ ∀ B, CallH Try.prog 100 B 14 [.agg ⟨[.int .i64 p0, .string p1, .string p2, .int .i64 p3, .int .i64 p4, .int .i64 p5, x, .int .i64 p7, .int .i64 p8, .int .u64 p9, .bool p10]⟩, .agg ⟨[.int .i64 q0, .string q1, .string q2, .int .i64 q3, .int .i64 q4, .int .i64 q5, y, .int .i64 q7, .int .i64 q8, .int .u64 q9, .bool q10]⟩] (hOf 100 [] [oa, ob]) (.returned (.bool t)) (hOf 100 [] [oa, ob]) := by
  have hM : ∃ t, (t = true ↔ vs = ws) ∧ ∀ H, objsOf 100 H = [oa, ob, some (.cells [.int .i64 p0, .string p1, .string p2, .int .i64 p3, .int .i64 p4, .int .i64 p5, x, .int .i64 p7, .int .i64 p8, .int .u64 p9, .bool p10] 34 11 false true), some (.cells [.int .i64 q0, .string q1, .string q2, .int .i64 q3, .int .i64 q4, .int .i64 q5, y, .int .i64 q7, .int .i64 q8, .int .u64 q9, .bool q10] 34 11 false true)] → ∀ B, CallH Try.prog 100 B 34 [x, y] H (.returned (.bool t)) H := by
    obtain ⟨t0, i0, _⟩ := eqU64 hx hy
    refine ⟨t0, i0, fun H hH B => ?_⟩
    have g0 := at_objs hH (i := 0) rfl
    have g1 := at_objs hH (i := 1) rfl
    obtain ⟨t1, i1, c1⟩ := lift2 (f := 34) (args := fun x y => [x, y]) (fun τ x y => rfl) (fun hx hy => eqU64 hx hy) (H := H) (a := 100) (b := 101) ⟨oa, hx, by omega, g0.1, g0.2⟩ ⟨ob, hy, by omega, g1.1, g1.2⟩ (by omega)
    have : t1 = t0 := by
      cases t0 <;> cases t1 <;> simp_all
    rw [← this]; exact c1 B
  have h0 : Is (gObjU64 (real Try.prog) realM x y oa ob p0 p3 p4 p5 p7 p8 p9 p1 p2 p10 q0 q3 q4 q5 q7 q8 q9 q1 q2 q10 (fun v objs => ∃ t, (t = true ↔ p0 = q0 ∧ p1.data.toList = q1.data.toList ∧ p2.data.toList = q2.data.toList ∧ p3 = q3 ∧ p4 = q4 ∧ p5 = q5 ∧ p7 = q7 ∧ p8 = q8 ∧ p9 = q9 ∧ (p10 == q10) = true ∧ vs = ws) ∧ v = .bool t ∧ objs = [oa, ob] ++ [some (.cells [.int .i64 p0, .string p1, .string p2, .int .i64 p3, .int .i64 p4, .int .i64 p5, x, .int .i64 p7, .int .i64 p8, .int .u64 p9, .bool p10] 34 11 false true), some (.cells [.int .i64 q0, .string q1, .string q2, .int .i64 q3, .int .i64 q4, .int .i64 q5, y, .int .i64 q7, .int .i64 q8, .int .u64 q9, .bool q10] 34 11 false true)])) := by
    refine ⟨?_⟩
    rw [gObjU64_eq]
    refine n_eql (fun h0 => n_scmp_eq (fun h1 => n_scmp_eq (fun h2 => n_eql (fun h3 => n_eql (fun h4 => n_eql (fun h5 => ?_) (fun n5 => ⟨false, ⟨fun h => (by cases h), fun h => absurd h.2.2.2.2.2.1 n5⟩, rfl, rfl⟩)) (fun n4 => ⟨false, ⟨fun h => (by cases h), fun h => absurd h.2.2.2.2.1 n4⟩, rfl, rfl⟩)) (fun n3 => ⟨false, ⟨fun h => (by cases h), fun h => absurd h.2.2.2.1 n3⟩, rfl, rfl⟩)) (fun n2 => ⟨false, ⟨fun h => (by cases h), fun h => absurd h.2.2.1 n2⟩, rfl, rfl⟩)) (fun n1 => ⟨false, ⟨fun h => (by cases h), fun h => absurd h.2.1 n1⟩, rfl, rfl⟩)) (fun n0 => ⟨false, ⟨fun h => (by cases h), fun h => absurd h.1 n0⟩, rfl, rfl⟩)
    obtain ⟨t, ht, hcall⟩ := hM
    refine ⟨t, hcall, ?_⟩
    cases t with
    | true =>
      have h10 : vs = ws := ht.1 rfl
      exact n_eql (fun h6 => n_eql (fun h7 => n_eql (fun h8 => n_beq (fun h9 => ⟨true, ⟨fun _ => ⟨h0, h1, h2, h3, h4, h5, h6, h7, h8, h9, h10⟩, fun _ => rfl⟩, rfl, rfl⟩) (fun n9 => ⟨false, ⟨fun h => (by cases h), fun h => (by rw [n9] at h; cases h.2.2.2.2.2.2.2.2.2.1)⟩, rfl, rfl⟩)) (fun n8 => ⟨false, ⟨fun h => (by cases h), fun h => absurd h.2.2.2.2.2.2.2.2.1 n8⟩, rfl, rfl⟩)) (fun n7 => ⟨false, ⟨fun h => (by cases h), fun h => absurd h.2.2.2.2.2.2.2.1 n7⟩, rfl, rfl⟩)) (fun n6 => ⟨false, ⟨fun h => (by cases h), fun h => absurd h.2.2.2.2.2.2.1 n6⟩, rfl, rfl⟩)
    | false =>
      have hd : ¬ vs = ws := fun e => (by cases ht.2 e)
      exact ⟨false, ⟨fun h => (by cases h), fun h => absurd h.2.2.2.2.2.2.2.2.2.2 hd⟩, rfl, rfl⟩
  obtain ⟨v, objs, ⟨t, h1, h2, h3⟩, h4⟩ := callW kn_M lp_none (f := 14) (args := [.agg ⟨[.int .i64 p0, .string p1, .string p2, .int .i64 p3, .int .i64 p4, .int .i64 p5, x, .int .i64 p7, .int .i64 p8, .int .u64 p9, .bool p10]⟩, .agg ⟨[.int .i64 q0, .string q1, .string q2, .int .i64 q3, .int .i64 q4, .int .i64 q5, y, .int .i64 q7, .int .i64 q8, .int .u64 q9, .bool q10]⟩]) h0
  subst h2; subst h3
  refine ⟨t, h1, fun B => call_gc (l := []) (h4 B) (names_drop rfl (fun o ho => ?_))⟩
  simp only [List.mem_cons, List.not_mem_nil, or_false] at ho
  rcases ho with e | e
  · exact hx.plain e.symm
  · exact hy.plain e.symm
theorem bothU64 {H : Heap} {a b : Nat} {x y : Value} {vs ws : List Value} {n m : Nat} {p0 p3 p4 p5 p7 p8 p9 : Int} {p1 p2 : ByteArray} {p10 : Bool} {q0 q3 q4 q5 q7 q8 q9 : Int} {q1 q2 : ByteArray} {q10 : Bool} (hx : Sh [.u64] H a x vs n) (hy : Sh [.u64] H b y ws m) (hne : a ≠ b) :
    (∃ t, (t = true ↔ p0 = q0 ∧ p1.data.toList = q1.data.toList ∧ p2.data.toList = q2.data.toList ∧ p3 = q3 ∧ p4 = q4 ∧ p5 = q5 ∧ p7 = q7 ∧ p8 = q8 ∧ p9 = q9 ∧ (p10 == q10) = true ∧ vs = ws) ∧ ∀ B, CallH Try.prog 100 B 14 [.agg ⟨[.int .i64 p0, .string p1, .string p2, .int .i64 p3, .int .i64 p4, .int .i64 p5, x, .int .i64 p7, .int .i64 p8, .int .u64 p9, .bool p10]⟩, .agg ⟨[.int .i64 q0, .string q1, .string q2, .int .i64 q3, .int .i64 q4, .int .i64 q5, y, .int .i64 q7, .int .i64 q8, .int .u64 q9, .bool q10]⟩] H (.returned (.bool t)) H) ∧
    (∃ t, (t = true ↔ p0 = q0 ∧ p1.data.toList = q1.data.toList ∧ p2.data.toList = q2.data.toList ∧ p3 = q3 ∧ p4 = q4 ∧ p5 = q5 ∧ p7 = q7 ∧ p8 = q8 ∧ p9 = q9 ∧ (p10 == q10) = true ∧ vs = ws) ∧ ∀ B, CallH Try.prog 100 B 15 [.agg ⟨[.int .i64 p0, .string p1, .string p2, .int .i64 p3, .int .i64 p4, .int .i64 p5, x, .int .i64 p7, .int .i64 p8, .int .u64 p9, .bool p10]⟩, .agg ⟨[.int .i64 q0, .string q1, .string q2, .int .i64 q3, .int .i64 q4, .int .i64 q5, y, .int .i64 q7, .int .i64 q8, .int .u64 q9, .bool q10]⟩] H (.returned (.bool t)) H) :=
  ⟨lift2 (f := 14) (args := fun x y => [.agg ⟨[.int .i64 p0, .string p1, .string p2, .int .i64 p3, .int .i64 p4, .int .i64 p5, x, .int .i64 p7, .int .i64 p8, .int .u64 p9, .bool p10]⟩, .agg ⟨[.int .i64 q0, .string q1, .string q2, .int .i64 q3, .int .i64 q4, .int .i64 q5, y, .int .i64 q7, .int .i64 q8, .int .u64 q9, .bool q10]⟩]) (fun τ x y => by simp only [vrenL, vren, vrenA]) (fun hx hy => objU64 hx hy) hx hy hne,
   lift2 (f := 15) (args := fun x y => [.agg ⟨[.int .i64 p0, .string p1, .string p2, .int .i64 p3, .int .i64 p4, .int .i64 p5, x, .int .i64 p7, .int .i64 p8, .int .u64 p9, .bool p10]⟩, .agg ⟨[.int .i64 q0, .string q1, .string q2, .int .i64 q3, .int .i64 q4, .int .i64 q5, y, .int .i64 q7, .int .i64 q8, .int .u64 q9, .bool q10]⟩]) (fun τ x y => by simp only [vrenL, vren, vrenA]) (fun hx hy => refU64 hx hy) hx hy hne⟩
-- Ins
def LRIns (vs ws : List Value) (ea qa eb qb : Nat) (ka wa kb wb : Bool) (n ca cb : Nat) (p0 : Int) (q0 : Int) : LT := fun c N vals objs T F => c = loopIn Try.prog 17 4 ∧ N = 36 ∧ vals = [.pointer (some ⟨102, 0, none⟩), .pointer (some ⟨103, 0, none⟩), .int .i64 0] ∧ objs = [some (.cells vs ea qa ka wa), some (.cells ws eb qb kb wb), some (.cells [.int .i64 p0, (.slice (some ⟨100, 0, none⟩) n ca)] 37 2 false true), some (.cells [.int .i64 q0, (.slice (some ⟨101, 0, none⟩) n cb)] 37 2 false true)] ∧ (vs = ws → T) ∧ (vs ≠ ws → F)
theorem loopRIns {vs ws : List Value} {ea qa eb qb : Nat} {ka wa kb wb : Bool} {n ca cb : Nat} {p0 : Int} {q0 : Int} (hv : TyL [.u8, .i64, .u8, .u64, .u8, .u64, .i64] vs n) (hw : TyL [.u8, .i64, .u8, .u64, .u8, .u64, .i64] ws n) (hn : n ≤ 9223372036854775807) {vals : List Value} {hh : Heap} (c : Code) (hc : c = loopIn Try.prog 17 4) {N : Nat} (hN : N = 36)
    (hvals : vals = [.pointer (some ⟨102, 0, none⟩), .pointer (some ⟨103, 0, none⟩), .int .i64 0]) (ho : objsOf 100 hh = [some (.cells vs ea qa ka wa), some (.cells ws eb qb kb wb), some (.cells [.int .i64 p0, (.slice (some ⟨100, 0, none⟩) n ca)] 37 2 false true), some (.cells [.int .i64 q0, (.slice (some ⟨101, 0, none⟩) n cb)] 37 2 false true)]) (hle : 100 ≤ hh.next) :
    ∃ e v o, RE [some (.cells vs ea qa ka wa), some (.cells ws eb qb kb wb), some (.cells [.int .i64 p0, (.slice (some ⟨100, 0, none⟩) n ca)] 37 2 false true), some (.cells [.int .i64 q0, (.slice (some ⟨101, 0, none⟩) n cb)] 37 2 false true)] (vs = ws) [.pointer (some ⟨102, 0, none⟩), .pointer (some ⟨103, 0, none⟩), top] [.pointer (some ⟨102, 0, none⟩), .pointer (some ⟨103, 0, none⟩), .bool false] e v o ∧ ∀ B, Holds Try.prog 100 B (.loop false c ⟨tmOf N [2, 3, 5] vals, [], hh, .run⟩) (.ex e (stOf 100 N [2, 3, 4] (v, o))) := by
  subst hc; subst hN
  exact lp_rule (P := Try.prog) (G := 100) (W := WL) (fuel := 200) (N := 36) (k0 := 4) (live := [2, 3, 5]) (live2 := [2, 3, 4]) (c := loopIn Try.prog 17 4) okp kn_none lp_none (α := { i : Nat // i ≤ n ∧ ∀ p, p < i * 7 → vs[p]? = ws[p]? }) (fun y => n - y.1)
    (fun y => ([.pointer (some ⟨102, 0, none⟩), .pointer (some ⟨103, 0, none⟩), .int .i64 y.1], [some (.cells vs ea qa ka wa), some (.cells ws eb qb kb wb), some (.cells [.int .i64 p0, (.slice (some ⟨100, 0, none⟩) n ca)] 37 2 false true), some (.cells [.int .i64 q0, (.slice (some ⟨101, 0, none⟩) n cb)] 37 2 false true)]))
    (RE [some (.cells vs ea qa ka wa), some (.cells ws eb qb kb wb), some (.cells [.int .i64 p0, (.slice (some ⟨100, 0, none⟩) n ca)] 37 2 false true), some (.cells [.int .i64 q0, (.slice (some ⟨101, 0, none⟩) n cb)] 37 2 false true)] (vs = ws) [.pointer (some ⟨102, 0, none⟩), .pointer (some ⟨103, 0, none⟩), top] [.pointer (some ⟨102, 0, none⟩), .pointer (some ⟨103, 0, none⟩), .bool false]) (by
      rintro ⟨i, hi, hp⟩
      have hg := gLoopRIns_eq (real Try.prog) vs ws ea qa eb qb ka wa kb wb n ca cb p0 q0 i
      unfold gLoopRIns at hg
      refine ⟨?_⟩
      show wpe _ _ _ _ _ _
      generalize hst : stOf 100 36 [2, 3, 5] _ = st
      have e : st = stOf 100 36 [2, 3, 5] ([.pointer (some ⟨102, 0, none⟩), .pointer (some ⟨103, 0, none⟩), .int .i64 i], [some (.cells vs ea qa ka wa), some (.cells ws eb qb kb wb), some (.cells [.int .i64 p0, (.slice (some ⟨100, 0, none⟩) n ca)] 37 2 false true), some (.cells [.int .i64 q0, (.slice (some ⟨101, 0, none⟩) n cb)] 37 2 false true)]) := hst.symm
      rw [e, hg]
      refine n_lss (fun h1 => ?_) (fun h1 => ?_)
      · have hi' : i < n := by
          have h2 : (i : Int) < (n : Int) := h1
          omega
        obtain ⟨x0, hx0⟩ := hv.cell i hi' 0 _ rfl
        have gx0 : vs[0 + i * 7]? = some (.int .u8 x0) := by rw [← hx0]; congr 1; simp only [List.length_cons, List.length_nil]; omega
        obtain ⟨x1, hx1⟩ := hv.cell i hi' 1 _ rfl
        have gx1 : vs[0 + i * 7 + 1]? = some (.int .i64 x1) := by rw [← hx1]; congr 1; simp only [List.length_cons, List.length_nil]; omega
        obtain ⟨x2, hx2⟩ := hv.cell i hi' 2 _ rfl
        have gx2 : vs[0 + i * 7 + 2]? = some (.int .u8 x2) := by rw [← hx2]; congr 1; simp only [List.length_cons, List.length_nil]; omega
        obtain ⟨x3, hx3⟩ := hv.cell i hi' 3 _ rfl
        have gx3 : vs[0 + i * 7 + 3]? = some (.int .u64 x3) := by rw [← hx3]; congr 1; simp only [List.length_cons, List.length_nil]; omega
        obtain ⟨x4, hx4⟩ := hv.cell i hi' 4 _ rfl
        have gx4 : vs[0 + i * 7 + 4]? = some (.int .u8 x4) := by rw [← hx4]; congr 1; simp only [List.length_cons, List.length_nil]; omega
        obtain ⟨x5, hx5⟩ := hv.cell i hi' 5 _ rfl
        have gx5 : vs[0 + i * 7 + 5]? = some (.int .u64 x5) := by rw [← hx5]; congr 1; simp only [List.length_cons, List.length_nil]; omega
        obtain ⟨x6, hx6⟩ := hv.cell i hi' 6 _ rfl
        have gx6 : vs[0 + i * 7 + 6]? = some (.int .i64 x6) := by rw [← hx6]; congr 1; simp only [List.length_cons, List.length_nil]; omega
        obtain ⟨y0, hy0⟩ := hw.cell i hi' 0 _ rfl
        have gy0 : ws[0 + i * 7]? = some (.int .u8 y0) := by rw [← hy0]; congr 1; simp only [List.length_cons, List.length_nil]; omega
        obtain ⟨y1, hy1⟩ := hw.cell i hi' 1 _ rfl
        have gy1 : ws[0 + i * 7 + 1]? = some (.int .i64 y1) := by rw [← hy1]; congr 1; simp only [List.length_cons, List.length_nil]; omega
        obtain ⟨y2, hy2⟩ := hw.cell i hi' 2 _ rfl
        have gy2 : ws[0 + i * 7 + 2]? = some (.int .u8 y2) := by rw [← hy2]; congr 1; simp only [List.length_cons, List.length_nil]; omega
        obtain ⟨y3, hy3⟩ := hw.cell i hi' 3 _ rfl
        have gy3 : ws[0 + i * 7 + 3]? = some (.int .u64 y3) := by rw [← hy3]; congr 1; simp only [List.length_cons, List.length_nil]; omega
        obtain ⟨y4, hy4⟩ := hw.cell i hi' 4 _ rfl
        have gy4 : ws[0 + i * 7 + 4]? = some (.int .u8 y4) := by rw [← hy4]; congr 1; simp only [List.length_cons, List.length_nil]; omega
        obtain ⟨y5, hy5⟩ := hw.cell i hi' 5 _ rfl
        have gy5 : ws[0 + i * 7 + 5]? = some (.int .u64 y5) := by rw [← hy5]; congr 1; simp only [List.length_cons, List.length_nil]; omega
        obtain ⟨y6, hy6⟩ := hw.cell i hi' 6 _ rfl
        have gy6 : ws[0 + i * 7 + 6]? = some (.int .i64 y6) := by rw [← hy6]; congr 1; simp only [List.length_cons, List.length_nil]; omega
        refine n_idx i rfl hi' (n_rdI gx0 (n_rdI gx1 (n_rdI gx2 (n_rdI gx3 (n_rdI gx4 (n_rdI gx5 (n_rdI gx6 (n_idx i rfl hi' (n_rdI gy0 (n_rdI gy1 (n_rdI gy2 (n_rdI gy3 (n_rdI gy4 (n_rdI gy5 (n_rdI gy6 ?_)))))))))))))))
        refine n_agNeq (ps := [(x0, y0), (x1, y1), (x2, y2), (x3, y3), (x4, y4), (x5, y5), (x6, y6)]) (by kernel_rfl) (by kernel_rfl) rfl rfl (fun hf => ?_) (fun ht => n_add (by omega) (by omega) ?_)
        · refine ⟨[], _, _, names_id' rfl rfl rfl, rfl, .inr ⟨rfl, rfl, fun hh => ?_⟩⟩
          subst hh
          have ex0 : x0 = y0 := by have := hx0.symm.trans hy0; simpa using this
          have ex1 : x1 = y1 := by have := hx1.symm.trans hy1; simpa using this
          have ex2 : x2 = y2 := by have := hx2.symm.trans hy2; simpa using this
          have ex3 : x3 = y3 := by have := hx3.symm.trans hy3; simpa using this
          have ex4 : x4 = y4 := by have := hx4.symm.trans hy4; simpa using this
          have ex5 : x5 = y5 := by have := hx5.symm.trans hy5; simpa using this
          have ex6 : x6 = y6 := by have := hx6.symm.trans hy6; simpa using this
          rw [show allEq _ = true from by simp only [allEq, List.all_cons, List.all_nil, ex0, ex1, ex2, ex3, ex4, ex5, ex6, beq_self_eq_true, Bool.and_self]] at hf
          cases hf
        · refine ⟨⟨i + 1, by omega, ext_row (sz := 7) hp (fun j hj => ?_)⟩, [], by simp only; omega, names_id' rfl rfl rfl⟩
          simp only [allEq, List.all_cons, List.all_nil, Bool.and_eq_true, beq_iff_eq, and_true] at ht
          obtain ⟨ex0, ex1, ex2, ex3, ex4, ex5, ex6⟩ := ht
          match j, hj with
          | 0, _ => exact (show _ = _ from hx0).trans (by rw [ex0]; exact (show _ = _ from hy0).symm)
          | 1, _ => exact (show _ = _ from hx1).trans (by rw [ex1]; exact (show _ = _ from hy1).symm)
          | 2, _ => exact (show _ = _ from hx2).trans (by rw [ex2]; exact (show _ = _ from hy2).symm)
          | 3, _ => exact (show _ = _ from hx3).trans (by rw [ex3]; exact (show _ = _ from hy3).symm)
          | 4, _ => exact (show _ = _ from hx4).trans (by rw [ex4]; exact (show _ = _ from hy4).symm)
          | 5, _ => exact (show _ = _ from hx5).trans (by rw [ex5]; exact (show _ = _ from hy5).symm)
          | 6, _ => exact (show _ = _ from hx6).trans (by rw [ex6]; exact (show _ = _ from hy6).symm)
          | j + 7, hj => omega
      · have h2 : ¬ (i : Int) < (n : Int) := h1
        have : i = n := by omega
        subst this
        exact ⟨[], _, _, names_id' rfl rfl rfl, rfl, .inl ⟨rfl, rfl, all_row hv.len hw.len hp⟩⟩)
    ⟨0, Nat.zero_le _, fun p hp => absurd hp (by omega)⟩ rfl (vals := vals) (h := hh) hvals ho hle
theorem loopOkRIns {vs ws : List Value} {ea qa eb qb : Nat} {ka wa kb wb : Bool} {n ca cb : Nat} {p0 : Int} {q0 : Int} (hv : TyL [.u8, .i64, .u8, .u64, .u8, .u64, .i64] vs n) (hw : TyL [.u8, .i64, .u8, .u64, .u8, .u64, .i64] ws n) (hn : n ≤ 9223372036854775807) : LoopOk Try.prog 100 [2, 3, 5] (sLoopR (LRIns vs ws ea qa eb qb ka wa kb wb n ca cb p0 q0)) := by
  intro c N vals h Q hS
  obtain ⟨h1, h2, h3, h4, hT, hF⟩ := hS
  obtain ⟨e, v, o, ⟨q1, q2⟩, q3⟩ := loopRIns hv hw hn c h1 h2 h3 h4 (next_of h4)
  rw [h4] at hT hF
  subst h3
  subst q1
  rcases q2 with ⟨r1, r2, r3⟩ | ⟨r1, r2, r3⟩
  · subst r1; subst r2; exact ⟨_, q3, hT r3⟩
  · subst r1; subst r2; exact ⟨_, q3, hF r3⟩
theorem refCIns {vs ws : List Value} {ea qa eb qb : Nat} {ka wa kb wb : Bool} {n ca cb : Nat} {p0 : Int} {q0 : Int} (hv : TyL [.u8, .i64, .u8, .u64, .u8, .u64, .i64] vs n) (hw : TyL [.u8, .i64, .u8, .u64, .u8, .u64, .i64] ws n) (hn : n ≤ 9223372036854775807) :
    ∃ t, (t = true ↔ p0 = q0 ∧ vs = ws) ∧ ∀ B, CallH Try.prog 100 B 17 [.agg ⟨[.int .i64 p0, (.slice (some ⟨100, 0, none⟩) n ca)]⟩, .agg ⟨[.int .i64 q0, (.slice (some ⟨101, 0, none⟩) n cb)]⟩] (hOf 100 [] [some (.cells vs ea qa ka wa), some (.cells ws eb qb kb wb)]) (.returned (.bool t)) (hOf 100 [] [some (.cells vs ea qa ka wa), some (.cells ws eb qb kb wb)]) := by
  have h0 : Is (gRefIns (real Try.prog) (LRIns vs ws ea qa eb qb ka wa kb wb n ca cb p0 q0) vs ws ea qa eb qb ka wa kb wb n ca cb p0 q0 (fun v objs => ∃ t, (t = true ↔ p0 = q0 ∧ vs = ws) ∧ v = .bool t ∧ objs = [some (.cells vs ea qa ka wa), some (.cells ws eb qb kb wb)] ++ [some (.cells [.int .i64 p0, (.slice (some ⟨100, 0, none⟩) n ca)] 37 2 false true), some (.cells [.int .i64 q0, (.slice (some ⟨101, 0, none⟩) n cb)] 37 2 false true)])) := by
    refine ⟨?_⟩
    rw [gRefIns_eq]
    refine n_lenV rfl (n_lenV rfl (n_neq (fun h => absurd rfl h) (fun _ => ⟨rfl, rfl, rfl, rfl, fun h1 => ?_, fun h1 => ?_⟩)))
    · exact n_eql (fun h0 => ⟨true, ⟨fun _ => ⟨h0, h1⟩, fun _ => rfl⟩, rfl, rfl⟩) (fun n0 => ⟨false, ⟨fun h => (by cases h), fun h => absurd h.1 n0⟩, rfl, rfl⟩)
    · exact ⟨false, ⟨fun h => (by cases h), fun h => absurd h.2 h1⟩, rfl, rfl⟩
  obtain ⟨v, objs, ⟨t, h1, h2, h3⟩, h4⟩ := callW kn_none (lp_ok (l := [(4, ([2, 3, 5], sLoopR (LRIns vs ws ea qa eb qb ka wa kb wb n ca cb p0 q0)))]) (by
    intro y hy; simp only [List.mem_cons, List.not_mem_nil, or_false] at hy; subst hy; exact loopOkRIns hv hw hn)) (f := 17) (args := [.agg ⟨[.int .i64 p0, (.slice (some ⟨100, 0, none⟩) n ca)]⟩, .agg ⟨[.int .i64 q0, (.slice (some ⟨101, 0, none⟩) n cb)]⟩]) h0
  subst h2; subst h3
  refine ⟨t, h1, fun B => call_gc (l := []) (h4 B) (names_drop rfl (fun o ho => ?_))⟩
  simp only [List.mem_cons, List.not_mem_nil, or_false, Option.some.injEq] at ho
  rcases ho with rfl | rfl
  · simpa [plainO] using hv.plain
  · simpa [plainO] using hw.plain
theorem refIns {x y : Value} {oa ob : Option AObj} {vs ws : List Value} {n m : Nat} {p0 : Int} {q0 : Int} (hx : Sv [.u8, .i64, .u8, .u64, .u8, .u64, .i64] 100 x oa vs n) (hy : Sv [.u8, .i64, .u8, .u64, .u8, .u64, .i64] 101 y ob ws m) :
    ∃ t, (t = true ↔ p0 = q0 ∧ vs = ws) ∧ ∀ B, CallH Try.prog 100 B 17 [.agg ⟨[.int .i64 p0, x]⟩, .agg ⟨[.int .i64 q0, y]⟩] (hOf 100 [] [oa, ob]) (.returned (.bool t)) (hOf 100 [] [oa, ob]) := by
  by_cases h : n = m ∧ 0 < n
  · obtain ⟨e, hp⟩ := h
    subst e
    obtain ⟨hv, hn, ca, ea, qa, ka, wa, e1, e2⟩ := hx.pos hp
    obtain ⟨hw, _, cb, eb, qb, kb, wb, e3, e4⟩ := hy.pos hp
    subst e1; subst e2; subst e3; subst e4
    exact refCIns hv hw hn
  · obtain ⟨a1, c1, ex⟩ := hx.sl
    obtain ⟨a2, c2, ey⟩ := hy.sl
    have h0 : Is (gRefoIns (real Try.prog) x y oa ob p0 q0 (fun v objs => ∃ t, (t = true ↔ p0 = q0 ∧ vs = ws) ∧ v = .bool t ∧ objs = [oa, ob] ++ [some (.cells [.int .i64 p0, x] 37 2 false true), some (.cells [.int .i64 q0, y] 37 2 false true)])) := by
      refine ⟨?_⟩
      rw [gRefoIns_eq]
      refine n_lenV ex (n_lenV ey (n_neq (fun hne => ?_) (fun he => n_lenV ex (n_lss (fun hl => ?_) (fun hl => ?_)))))
      · have hd : ¬ vs = ws := len_ne (sz := 7) (by omega) hx.len hy.len (fun e => hne (by rw [e]))
        exact ⟨false, ⟨fun h => (by cases h), fun h => absurd h.2 hd⟩, rfl, rfl⟩
      · have e1 : n = m := Int.ofNat_inj.1 he
        have e2 : 0 < n := Int.ofNat_lt.1 hl
        exact h ⟨e1, e2⟩
      · have e1 : n = m := Int.ofNat_inj.1 he
        have e2 : n = 0 := by
          rcases Nat.eq_zero_or_pos n with e | e
          · exact e
          · exact absurd (Int.ofNat_lt.2 e) hl
        subst e1; subst e2
        have h1 : vs = ws := by rw [len_nil hx.len, len_nil hy.len]
        exact n_eql (fun h0 => ⟨true, ⟨fun _ => ⟨h0, h1⟩, fun _ => rfl⟩, rfl, rfl⟩) (fun n0 => ⟨false, ⟨fun h => (by cases h), fun h => absurd h.1 n0⟩, rfl, rfl⟩)
    obtain ⟨v, objs, ⟨t, h1, h2, h3⟩, h4⟩ := callW kn_none lp_none (f := 17) (args := [.agg ⟨[.int .i64 p0, x]⟩, .agg ⟨[.int .i64 q0, y]⟩]) h0
    subst h2; subst h3
    refine ⟨t, h1, fun B => call_gc (l := []) (h4 B) (names_drop rfl (fun o ho => ?_))⟩
    simp only [List.mem_cons, List.not_mem_nil, or_false] at ho
    rcases ho with e | e
    · exact hx.plain e.symm
    · exact hy.plain e.symm
theorem objIns {x y : Value} {oa ob : Option AObj} {vs ws : List Value} {n m : Nat} {p0 : Int} {q0 : Int} (hx : Sv [.u8, .i64, .u8, .u64, .u8, .u64, .i64] 100 x oa vs n) (hy : Sv [.u8, .i64, .u8, .u64, .u8, .u64, .i64] 101 y ob ws m) :
    ∃ t, (t = true ↔ p0 = q0 ∧ vs = ws) ∧ ∀ B, CallH Try.prog 100 B 16 [.agg ⟨[.int .i64 p0, x]⟩, .agg ⟨[.int .i64 q0, y]⟩] (hOf 100 [] [oa, ob]) (.returned (.bool t)) (hOf 100 [] [oa, ob]) := by
  have hM : ∃ t, (t = true ↔ vs = ws) ∧ ∀ H, objsOf 100 H = [oa, ob, some (.cells [.int .i64 p0, x] 37 2 false true), some (.cells [.int .i64 q0, y] 37 2 false true)] → ∀ B, CallH Try.prog 100 B 35 [x, y] H (.returned (.bool t)) H := by
    obtain ⟨t0, i0, _⟩ := eqIns hx hy
    refine ⟨t0, i0, fun H hH B => ?_⟩
    have g0 := at_objs hH (i := 0) rfl
    have g1 := at_objs hH (i := 1) rfl
    obtain ⟨t1, i1, c1⟩ := lift2 (f := 35) (args := fun x y => [x, y]) (fun τ x y => rfl) (fun hx hy => eqIns hx hy) (H := H) (a := 100) (b := 101) ⟨oa, hx, by omega, g0.1, g0.2⟩ ⟨ob, hy, by omega, g1.1, g1.2⟩ (by omega)
    have : t1 = t0 := by
      cases t0 <;> cases t1 <;> simp_all
    rw [← this]; exact c1 B
  have h0 : Is (gObjIns (real Try.prog) realM x y oa ob p0 q0 (fun v objs => ∃ t, (t = true ↔ p0 = q0 ∧ vs = ws) ∧ v = .bool t ∧ objs = [oa, ob] ++ [some (.cells [.int .i64 p0, x] 37 2 false true), some (.cells [.int .i64 q0, y] 37 2 false true)])) := by
    refine ⟨?_⟩
    rw [gObjIns_eq]
    refine n_eql (fun h0 => ?_) (fun n0 => ⟨false, ⟨fun h => (by cases h), fun h => absurd h.1 n0⟩, rfl, rfl⟩)
    obtain ⟨t, ht, hcall⟩ := hM
    refine ⟨t, hcall, ?_⟩
    exact ⟨t, ⟨fun h => ⟨h0, ht.1 h⟩, fun h => ht.2 h.2⟩, rfl, rfl⟩
  obtain ⟨v, objs, ⟨t, h1, h2, h3⟩, h4⟩ := callW kn_M lp_none (f := 16) (args := [.agg ⟨[.int .i64 p0, x]⟩, .agg ⟨[.int .i64 q0, y]⟩]) h0
  subst h2; subst h3
  refine ⟨t, h1, fun B => call_gc (l := []) (h4 B) (names_drop rfl (fun o ho => ?_))⟩
  simp only [List.mem_cons, List.not_mem_nil, or_false] at ho
  rcases ho with e | e
  · exact hx.plain e.symm
  · exact hy.plain e.symm
theorem bothIns {H : Heap} {a b : Nat} {x y : Value} {vs ws : List Value} {n m : Nat} {p0 : Int} {q0 : Int} (hx : Sh [.u8, .i64, .u8, .u64, .u8, .u64, .i64] H a x vs n) (hy : Sh [.u8, .i64, .u8, .u64, .u8, .u64, .i64] H b y ws m) (hne : a ≠ b) :
    (∃ t, (t = true ↔ p0 = q0 ∧ vs = ws) ∧ ∀ B, CallH Try.prog 100 B 16 [.agg ⟨[.int .i64 p0, x]⟩, .agg ⟨[.int .i64 q0, y]⟩] H (.returned (.bool t)) H) ∧
    (∃ t, (t = true ↔ p0 = q0 ∧ vs = ws) ∧ ∀ B, CallH Try.prog 100 B 17 [.agg ⟨[.int .i64 p0, x]⟩, .agg ⟨[.int .i64 q0, y]⟩] H (.returned (.bool t)) H) :=
  ⟨lift2 (f := 16) (args := fun x y => [.agg ⟨[.int .i64 p0, x]⟩, .agg ⟨[.int .i64 q0, y]⟩]) (fun τ x y => by simp only [vrenL, vren, vrenA]) (fun hx hy => objIns hx hy) hx hy hne,
   lift2 (f := 17) (args := fun x y => [.agg ⟨[.int .i64 p0, x]⟩, .agg ⟨[.int .i64 q0, y]⟩]) (fun τ x y => by simp only [vrenL, vren, vrenA]) (fun hx hy => refIns hx hy) hx hy hne⟩
-- Buc
def LRBuc (vs ws : List Value) (ea qa eb qb : Nat) (ka wa kb wb : Bool) (n ca cb : Nat) (p0 p1 p2 : Int) (q0 q1 q2 : Int) : LT := fun c N vals objs T F => c = loopIn Try.prog 19 4 ∧ N = 50 ∧ vals = [.pointer (some ⟨102, 0, none⟩), .pointer (some ⟨103, 0, none⟩), .int .i64 0] ∧ objs = [some (.cells vs ea qa ka wa), some (.cells ws eb qb kb wb), some (.cells [.int .i64 p0, .int .u8 p1, .int .i64 p2, (.slice (some ⟨100, 0, none⟩) n ca)] 40 4 false true), some (.cells [.int .i64 q0, .int .u8 q1, .int .i64 q2, (.slice (some ⟨101, 0, none⟩) n cb)] 40 4 false true)] ∧ (vs = ws → T) ∧ (vs ≠ ws → F)
theorem loopRBuc {vs ws : List Value} {ea qa eb qb : Nat} {ka wa kb wb : Bool} {n ca cb : Nat} {p0 p1 p2 : Int} {q0 q1 q2 : Int} (hv : TyL [.u64, .i64] vs n) (hw : TyL [.u64, .i64] ws n) (hn : n ≤ 9223372036854775807) {vals : List Value} {hh : Heap} (c : Code) (hc : c = loopIn Try.prog 19 4) {N : Nat} (hN : N = 50)
    (hvals : vals = [.pointer (some ⟨102, 0, none⟩), .pointer (some ⟨103, 0, none⟩), .int .i64 0]) (ho : objsOf 100 hh = [some (.cells vs ea qa ka wa), some (.cells ws eb qb kb wb), some (.cells [.int .i64 p0, .int .u8 p1, .int .i64 p2, (.slice (some ⟨100, 0, none⟩) n ca)] 40 4 false true), some (.cells [.int .i64 q0, .int .u8 q1, .int .i64 q2, (.slice (some ⟨101, 0, none⟩) n cb)] 40 4 false true)]) (hle : 100 ≤ hh.next) :
    ∃ e v o, RE [some (.cells vs ea qa ka wa), some (.cells ws eb qb kb wb), some (.cells [.int .i64 p0, .int .u8 p1, .int .i64 p2, (.slice (some ⟨100, 0, none⟩) n ca)] 40 4 false true), some (.cells [.int .i64 q0, .int .u8 q1, .int .i64 q2, (.slice (some ⟨101, 0, none⟩) n cb)] 40 4 false true)] (vs = ws) [.pointer (some ⟨102, 0, none⟩), .pointer (some ⟨103, 0, none⟩), top] [.pointer (some ⟨102, 0, none⟩), .pointer (some ⟨103, 0, none⟩), .bool false] e v o ∧ ∀ B, Holds Try.prog 100 B (.loop false c ⟨tmOf N [2, 3, 5] vals, [], hh, .run⟩) (.ex e (stOf 100 N [2, 3, 4] (v, o))) := by
  subst hc; subst hN
  exact lp_rule (P := Try.prog) (G := 100) (W := WL) (fuel := 200) (N := 50) (k0 := 4) (live := [2, 3, 5]) (live2 := [2, 3, 4]) (c := loopIn Try.prog 19 4) okp kn_none lp_none (α := { i : Nat // i ≤ n ∧ ∀ p, p < i * 2 → vs[p]? = ws[p]? }) (fun y => n - y.1)
    (fun y => ([.pointer (some ⟨102, 0, none⟩), .pointer (some ⟨103, 0, none⟩), .int .i64 y.1], [some (.cells vs ea qa ka wa), some (.cells ws eb qb kb wb), some (.cells [.int .i64 p0, .int .u8 p1, .int .i64 p2, (.slice (some ⟨100, 0, none⟩) n ca)] 40 4 false true), some (.cells [.int .i64 q0, .int .u8 q1, .int .i64 q2, (.slice (some ⟨101, 0, none⟩) n cb)] 40 4 false true)]))
    (RE [some (.cells vs ea qa ka wa), some (.cells ws eb qb kb wb), some (.cells [.int .i64 p0, .int .u8 p1, .int .i64 p2, (.slice (some ⟨100, 0, none⟩) n ca)] 40 4 false true), some (.cells [.int .i64 q0, .int .u8 q1, .int .i64 q2, (.slice (some ⟨101, 0, none⟩) n cb)] 40 4 false true)] (vs = ws) [.pointer (some ⟨102, 0, none⟩), .pointer (some ⟨103, 0, none⟩), top] [.pointer (some ⟨102, 0, none⟩), .pointer (some ⟨103, 0, none⟩), .bool false]) (by
      rintro ⟨i, hi, hp⟩
      have hg := gLoopRBuc_eq (real Try.prog) vs ws ea qa eb qb ka wa kb wb n ca cb p0 p1 p2 q0 q1 q2 i
      unfold gLoopRBuc at hg
      refine ⟨?_⟩
      show wpe _ _ _ _ _ _
      generalize hst : stOf 100 50 [2, 3, 5] _ = st
      have e : st = stOf 100 50 [2, 3, 5] ([.pointer (some ⟨102, 0, none⟩), .pointer (some ⟨103, 0, none⟩), .int .i64 i], [some (.cells vs ea qa ka wa), some (.cells ws eb qb kb wb), some (.cells [.int .i64 p0, .int .u8 p1, .int .i64 p2, (.slice (some ⟨100, 0, none⟩) n ca)] 40 4 false true), some (.cells [.int .i64 q0, .int .u8 q1, .int .i64 q2, (.slice (some ⟨101, 0, none⟩) n cb)] 40 4 false true)]) := hst.symm
      rw [e, hg]
      refine n_lss (fun h1 => ?_) (fun h1 => ?_)
      · have hi' : i < n := by
          have h2 : (i : Int) < (n : Int) := h1
          omega
        obtain ⟨x0, hx0⟩ := hv.cell i hi' 0 _ rfl
        have gx0 : vs[0 + i * 2]? = some (.int .u64 x0) := by rw [← hx0]; congr 1; simp only [List.length_cons, List.length_nil]; omega
        obtain ⟨x1, hx1⟩ := hv.cell i hi' 1 _ rfl
        have gx1 : vs[0 + i * 2 + 1]? = some (.int .i64 x1) := by rw [← hx1]; congr 1; simp only [List.length_cons, List.length_nil]; omega
        obtain ⟨y0, hy0⟩ := hw.cell i hi' 0 _ rfl
        have gy0 : ws[0 + i * 2]? = some (.int .u64 y0) := by rw [← hy0]; congr 1; simp only [List.length_cons, List.length_nil]; omega
        obtain ⟨y1, hy1⟩ := hw.cell i hi' 1 _ rfl
        have gy1 : ws[0 + i * 2 + 1]? = some (.int .i64 y1) := by rw [← hy1]; congr 1; simp only [List.length_cons, List.length_nil]; omega
        refine n_idx i rfl hi' (n_rdI gx0 (n_rdI gx1 (n_idx i rfl hi' (n_rdI gy0 (n_rdI gy1 ?_)))))
        refine n_agNeq (ps := [(x0, y0), (x1, y1)]) (by kernel_rfl) (by kernel_rfl) rfl rfl (fun hf => ?_) (fun ht => n_add (by omega) (by omega) ?_)
        · refine ⟨[], _, _, names_id' rfl rfl rfl, rfl, .inr ⟨rfl, rfl, fun hh => ?_⟩⟩
          subst hh
          have ex0 : x0 = y0 := by have := hx0.symm.trans hy0; simpa using this
          have ex1 : x1 = y1 := by have := hx1.symm.trans hy1; simpa using this
          rw [show allEq _ = true from by simp only [allEq, List.all_cons, List.all_nil, ex0, ex1, beq_self_eq_true, Bool.and_self]] at hf
          cases hf
        · refine ⟨⟨i + 1, by omega, ext_row (sz := 2) hp (fun j hj => ?_)⟩, [], by simp only; omega, names_id' rfl rfl rfl⟩
          simp only [allEq, List.all_cons, List.all_nil, Bool.and_eq_true, beq_iff_eq, and_true] at ht
          obtain ⟨ex0, ex1⟩ := ht
          match j, hj with
          | 0, _ => exact (show _ = _ from hx0).trans (by rw [ex0]; exact (show _ = _ from hy0).symm)
          | 1, _ => exact (show _ = _ from hx1).trans (by rw [ex1]; exact (show _ = _ from hy1).symm)
          | j + 2, hj => omega
      · have h2 : ¬ (i : Int) < (n : Int) := h1
        have : i = n := by omega
        subst this
        exact ⟨[], _, _, names_id' rfl rfl rfl, rfl, .inl ⟨rfl, rfl, all_row hv.len hw.len hp⟩⟩)
    ⟨0, Nat.zero_le _, fun p hp => absurd hp (by omega)⟩ rfl (vals := vals) (h := hh) hvals ho hle
theorem loopOkRBuc {vs ws : List Value} {ea qa eb qb : Nat} {ka wa kb wb : Bool} {n ca cb : Nat} {p0 p1 p2 : Int} {q0 q1 q2 : Int} (hv : TyL [.u64, .i64] vs n) (hw : TyL [.u64, .i64] ws n) (hn : n ≤ 9223372036854775807) : LoopOk Try.prog 100 [2, 3, 5] (sLoopR (LRBuc vs ws ea qa eb qb ka wa kb wb n ca cb p0 p1 p2 q0 q1 q2)) := by
  intro c N vals h Q hS
  obtain ⟨h1, h2, h3, h4, hT, hF⟩ := hS
  obtain ⟨e, v, o, ⟨q1, q2⟩, q3⟩ := loopRBuc hv hw hn c h1 h2 h3 h4 (next_of h4)
  rw [h4] at hT hF
  subst h3
  subst q1
  rcases q2 with ⟨r1, r2, r3⟩ | ⟨r1, r2, r3⟩
  · subst r1; subst r2; exact ⟨_, q3, hT r3⟩
  · subst r1; subst r2; exact ⟨_, q3, hF r3⟩
theorem refCBuc {vs ws : List Value} {ea qa eb qb : Nat} {ka wa kb wb : Bool} {n ca cb : Nat} {p0 p1 p2 : Int} {q0 q1 q2 : Int} (hv : TyL [.u64, .i64] vs n) (hw : TyL [.u64, .i64] ws n) (hn : n ≤ 9223372036854775807) :
    ∃ t, (t = true ↔ p0 = q0 ∧ p1 = q1 ∧ p2 = q2 ∧ vs = ws) ∧ ∀ B, CallH Try.prog 100 B 19 [.agg ⟨[.int .i64 p0, .int .u8 p1, .int .i64 p2, (.slice (some ⟨100, 0, none⟩) n ca)]⟩, .agg ⟨[.int .i64 q0, .int .u8 q1, .int .i64 q2, (.slice (some ⟨101, 0, none⟩) n cb)]⟩] (hOf 100 [] [some (.cells vs ea qa ka wa), some (.cells ws eb qb kb wb)]) (.returned (.bool t)) (hOf 100 [] [some (.cells vs ea qa ka wa), some (.cells ws eb qb kb wb)]) := by
  have h0 : Is (gRefBuc (real Try.prog) (LRBuc vs ws ea qa eb qb ka wa kb wb n ca cb p0 p1 p2 q0 q1 q2) vs ws ea qa eb qb ka wa kb wb n ca cb p0 p1 p2 q0 q1 q2 (fun v objs => ∃ t, (t = true ↔ p0 = q0 ∧ p1 = q1 ∧ p2 = q2 ∧ vs = ws) ∧ v = .bool t ∧ objs = [some (.cells vs ea qa ka wa), some (.cells ws eb qb kb wb)] ++ [some (.cells [.int .i64 p0, .int .u8 p1, .int .i64 p2, (.slice (some ⟨100, 0, none⟩) n ca)] 40 4 false true), some (.cells [.int .i64 q0, .int .u8 q1, .int .i64 q2, (.slice (some ⟨101, 0, none⟩) n cb)] 40 4 false true)])) := by
    refine ⟨?_⟩
    rw [gRefBuc_eq]
    refine n_lenV rfl (n_lenV rfl (n_neq (fun h => absurd rfl h) (fun _ => ⟨rfl, rfl, rfl, rfl, fun h3 => ?_, fun h3 => ?_⟩)))
    · exact n_eql (fun h0 => n_eql (fun h1 => n_eql (fun h2 => ⟨true, ⟨fun _ => ⟨h0, h1, h2, h3⟩, fun _ => rfl⟩, rfl, rfl⟩) (fun n2 => ⟨false, ⟨fun h => (by cases h), fun h => absurd h.2.2.1 n2⟩, rfl, rfl⟩)) (fun n1 => ⟨false, ⟨fun h => (by cases h), fun h => absurd h.2.1 n1⟩, rfl, rfl⟩)) (fun n0 => ⟨false, ⟨fun h => (by cases h), fun h => absurd h.1 n0⟩, rfl, rfl⟩)
    · exact ⟨false, ⟨fun h => (by cases h), fun h => absurd h.2.2.2 h3⟩, rfl, rfl⟩
  obtain ⟨v, objs, ⟨t, h1, h2, h3⟩, h4⟩ := callW kn_none (lp_ok (l := [(4, ([2, 3, 5], sLoopR (LRBuc vs ws ea qa eb qb ka wa kb wb n ca cb p0 p1 p2 q0 q1 q2)))]) (by
    intro y hy; simp only [List.mem_cons, List.not_mem_nil, or_false] at hy; subst hy; exact loopOkRBuc hv hw hn)) (f := 19) (args := [.agg ⟨[.int .i64 p0, .int .u8 p1, .int .i64 p2, (.slice (some ⟨100, 0, none⟩) n ca)]⟩, .agg ⟨[.int .i64 q0, .int .u8 q1, .int .i64 q2, (.slice (some ⟨101, 0, none⟩) n cb)]⟩]) h0
  subst h2; subst h3
  refine ⟨t, h1, fun B => call_gc (l := []) (h4 B) (names_drop rfl (fun o ho => ?_))⟩
  simp only [List.mem_cons, List.not_mem_nil, or_false, Option.some.injEq] at ho
  rcases ho with rfl | rfl
  · simpa [plainO] using hv.plain
  · simpa [plainO] using hw.plain
theorem refBuc {x y : Value} {oa ob : Option AObj} {vs ws : List Value} {n m : Nat} {p0 p1 p2 : Int} {q0 q1 q2 : Int} (hx : Sv [.u64, .i64] 100 x oa vs n) (hy : Sv [.u64, .i64] 101 y ob ws m) :
    ∃ t, (t = true ↔ p0 = q0 ∧ p1 = q1 ∧ p2 = q2 ∧ vs = ws) ∧ ∀ B, CallH Try.prog 100 B 19 [.agg ⟨[.int .i64 p0, .int .u8 p1, .int .i64 p2, x]⟩, .agg ⟨[.int .i64 q0, .int .u8 q1, .int .i64 q2, y]⟩] (hOf 100 [] [oa, ob]) (.returned (.bool t)) (hOf 100 [] [oa, ob]) := by
  by_cases h : n = m ∧ 0 < n
  · obtain ⟨e, hp⟩ := h
    subst e
    obtain ⟨hv, hn, ca, ea, qa, ka, wa, e1, e2⟩ := hx.pos hp
    obtain ⟨hw, _, cb, eb, qb, kb, wb, e3, e4⟩ := hy.pos hp
    subst e1; subst e2; subst e3; subst e4
    exact refCBuc hv hw hn
  · obtain ⟨a1, c1, ex⟩ := hx.sl
    obtain ⟨a2, c2, ey⟩ := hy.sl
    have h0 : Is (gRefoBuc (real Try.prog) x y oa ob p0 p1 p2 q0 q1 q2 (fun v objs => ∃ t, (t = true ↔ p0 = q0 ∧ p1 = q1 ∧ p2 = q2 ∧ vs = ws) ∧ v = .bool t ∧ objs = [oa, ob] ++ [some (.cells [.int .i64 p0, .int .u8 p1, .int .i64 p2, x] 40 4 false true), some (.cells [.int .i64 q0, .int .u8 q1, .int .i64 q2, y] 40 4 false true)])) := by
      refine ⟨?_⟩
      rw [gRefoBuc_eq]
      refine n_lenV ex (n_lenV ey (n_neq (fun hne => ?_) (fun he => n_lenV ex (n_lss (fun hl => ?_) (fun hl => ?_)))))
      · have hd : ¬ vs = ws := len_ne (sz := 2) (by omega) hx.len hy.len (fun e => hne (by rw [e]))
        exact ⟨false, ⟨fun h => (by cases h), fun h => absurd h.2.2.2 hd⟩, rfl, rfl⟩
      · have e1 : n = m := Int.ofNat_inj.1 he
        have e2 : 0 < n := Int.ofNat_lt.1 hl
        exact h ⟨e1, e2⟩
      · have e1 : n = m := Int.ofNat_inj.1 he
        have e2 : n = 0 := by
          rcases Nat.eq_zero_or_pos n with e | e
          · exact e
          · exact absurd (Int.ofNat_lt.2 e) hl
        subst e1; subst e2
        have h3 : vs = ws := by rw [len_nil hx.len, len_nil hy.len]
        exact n_eql (fun h0 => n_eql (fun h1 => n_eql (fun h2 => ⟨true, ⟨fun _ => ⟨h0, h1, h2, h3⟩, fun _ => rfl⟩, rfl, rfl⟩) (fun n2 => ⟨false, ⟨fun h => (by cases h), fun h => absurd h.2.2.1 n2⟩, rfl, rfl⟩)) (fun n1 => ⟨false, ⟨fun h => (by cases h), fun h => absurd h.2.1 n1⟩, rfl, rfl⟩)) (fun n0 => ⟨false, ⟨fun h => (by cases h), fun h => absurd h.1 n0⟩, rfl, rfl⟩)
    obtain ⟨v, objs, ⟨t, h1, h2, h3⟩, h4⟩ := callW kn_none lp_none (f := 19) (args := [.agg ⟨[.int .i64 p0, .int .u8 p1, .int .i64 p2, x]⟩, .agg ⟨[.int .i64 q0, .int .u8 q1, .int .i64 q2, y]⟩]) h0
    subst h2; subst h3
    refine ⟨t, h1, fun B => call_gc (l := []) (h4 B) (names_drop rfl (fun o ho => ?_))⟩
    simp only [List.mem_cons, List.not_mem_nil, or_false] at ho
    rcases ho with e | e
    · exact hx.plain e.symm
    · exact hy.plain e.symm
theorem objBuc {x y : Value} {oa ob : Option AObj} {vs ws : List Value} {n m : Nat} {p0 p1 p2 : Int} {q0 q1 q2 : Int} (hx : Sv [.u64, .i64] 100 x oa vs n) (hy : Sv [.u64, .i64] 101 y ob ws m) :
    ∃ t, (t = true ↔ p0 = q0 ∧ p1 = q1 ∧ p2 = q2 ∧ vs = ws) ∧ ∀ B, CallH Try.prog 100 B 18 [.agg ⟨[.int .i64 p0, .int .u8 p1, .int .i64 p2, x]⟩, .agg ⟨[.int .i64 q0, .int .u8 q1, .int .i64 q2, y]⟩] (hOf 100 [] [oa, ob]) (.returned (.bool t)) (hOf 100 [] [oa, ob]) := by
  have hM : ∃ t, (t = true ↔ vs = ws) ∧ ∀ H, objsOf 100 H = [oa, ob, some (.cells [.int .i64 p0, .int .u8 p1, .int .i64 p2, x] 40 4 false true), some (.cells [.int .i64 q0, .int .u8 q1, .int .i64 q2, y] 40 4 false true)] → ∀ B, CallH Try.prog 100 B 36 [x, y] H (.returned (.bool t)) H := by
    obtain ⟨t0, i0, _⟩ := eqBuc hx hy
    refine ⟨t0, i0, fun H hH B => ?_⟩
    have g0 := at_objs hH (i := 0) rfl
    have g1 := at_objs hH (i := 1) rfl
    obtain ⟨t1, i1, c1⟩ := lift2 (f := 36) (args := fun x y => [x, y]) (fun τ x y => rfl) (fun hx hy => eqBuc hx hy) (H := H) (a := 100) (b := 101) ⟨oa, hx, by omega, g0.1, g0.2⟩ ⟨ob, hy, by omega, g1.1, g1.2⟩ (by omega)
    have : t1 = t0 := by
      cases t0 <;> cases t1 <;> simp_all
    rw [← this]; exact c1 B
  have h0 : Is (gObjBuc (real Try.prog) realM x y oa ob p0 p1 p2 q0 q1 q2 (fun v objs => ∃ t, (t = true ↔ p0 = q0 ∧ p1 = q1 ∧ p2 = q2 ∧ vs = ws) ∧ v = .bool t ∧ objs = [oa, ob] ++ [some (.cells [.int .i64 p0, .int .u8 p1, .int .i64 p2, x] 40 4 false true), some (.cells [.int .i64 q0, .int .u8 q1, .int .i64 q2, y] 40 4 false true)])) := by
    refine ⟨?_⟩
    rw [gObjBuc_eq]
    refine n_eql (fun h0 => n_eql (fun h1 => n_eql (fun h2 => ?_) (fun n2 => ⟨false, ⟨fun h => (by cases h), fun h => absurd h.2.2.1 n2⟩, rfl, rfl⟩)) (fun n1 => ⟨false, ⟨fun h => (by cases h), fun h => absurd h.2.1 n1⟩, rfl, rfl⟩)) (fun n0 => ⟨false, ⟨fun h => (by cases h), fun h => absurd h.1 n0⟩, rfl, rfl⟩)
    obtain ⟨t, ht, hcall⟩ := hM
    refine ⟨t, hcall, ?_⟩
    exact ⟨t, ⟨fun h => ⟨h0, h1, h2, ht.1 h⟩, fun h => ht.2 h.2.2.2⟩, rfl, rfl⟩
  obtain ⟨v, objs, ⟨t, h1, h2, h3⟩, h4⟩ := callW kn_M lp_none (f := 18) (args := [.agg ⟨[.int .i64 p0, .int .u8 p1, .int .i64 p2, x]⟩, .agg ⟨[.int .i64 q0, .int .u8 q1, .int .i64 q2, y]⟩]) h0
  subst h2; subst h3
  refine ⟨t, h1, fun B => call_gc (l := []) (h4 B) (names_drop rfl (fun o ho => ?_))⟩
  simp only [List.mem_cons, List.not_mem_nil, or_false] at ho
  rcases ho with e | e
  · exact hx.plain e.symm
  · exact hy.plain e.symm
theorem bothBuc {H : Heap} {a b : Nat} {x y : Value} {vs ws : List Value} {n m : Nat} {p0 p1 p2 : Int} {q0 q1 q2 : Int} (hx : Sh [.u64, .i64] H a x vs n) (hy : Sh [.u64, .i64] H b y ws m) (hne : a ≠ b) :
    (∃ t, (t = true ↔ p0 = q0 ∧ p1 = q1 ∧ p2 = q2 ∧ vs = ws) ∧ ∀ B, CallH Try.prog 100 B 18 [.agg ⟨[.int .i64 p0, .int .u8 p1, .int .i64 p2, x]⟩, .agg ⟨[.int .i64 q0, .int .u8 q1, .int .i64 q2, y]⟩] H (.returned (.bool t)) H) ∧
    (∃ t, (t = true ↔ p0 = q0 ∧ p1 = q1 ∧ p2 = q2 ∧ vs = ws) ∧ ∀ B, CallH Try.prog 100 B 19 [.agg ⟨[.int .i64 p0, .int .u8 p1, .int .i64 p2, x]⟩, .agg ⟨[.int .i64 q0, .int .u8 q1, .int .i64 q2, y]⟩] H (.returned (.bool t)) H) :=
  ⟨lift2 (f := 18) (args := fun x y => [.agg ⟨[.int .i64 p0, .int .u8 p1, .int .i64 p2, x]⟩, .agg ⟨[.int .i64 q0, .int .u8 q1, .int .i64 q2, y]⟩]) (fun τ x y => by simp only [vrenL, vren, vrenA]) (fun hx hy => objBuc hx hy) hx hy hne,
   lift2 (f := 19) (args := fun x y => [.agg ⟨[.int .i64 p0, .int .u8 p1, .int .i64 p2, x]⟩, .agg ⟨[.int .i64 q0, .int .u8 q1, .int .i64 q2, y]⟩]) (fun τ x y => by simp only [vrenL, vren, vrenA]) (fun hx hy => refBuc hx hy) hx hy hne⟩
theorem fl10 {p0 p1 p2 p3 p4 q0 q1 q2 q3 q4 : Int} (H : Heap) : ∀ B, CallH Try.prog 100 B 10 [.agg ⟨[.int .i64 p0, .int .u8 p1, .int .i64 p2, .int .i64 p3, .int .i64 p4]⟩, .agg ⟨[.int .i64 q0, .int .u8 q1, .int .i64 q2, .int .i64 q3, .int .i64 q4]⟩] H (.returned (.bool (allEq [(p0, q0), (p1, q1), (p2, q2), (p3, q3), (p4, q4)]))) H := by
  have h0 : Is (gFl10 (real Try.prog) p0 p1 p2 p3 p4 q0 q1 q2 q3 q4 (fun v objs => v = .bool (allEq [(p0, q0), (p1, q1), (p2, q2), (p3, q3), (p4, q4)]) ∧ ∃ ex, objs = [] ++ ex)) := by
    refine ⟨?_⟩
    rw [gFl10_eq]
    exact n_agEql (ps := [(p0, q0), (p1, q1), (p2, q2), (p3, q3), (p4, q4)]) (by kernel_rfl) (by kernel_rfl) rfl rfl (fun e => ⟨by rw [e], _, rfl⟩) (fun e => ⟨by rw [e], _, rfl⟩)
  obtain ⟨v, objs, ⟨h2, ex, h3⟩, h4⟩ := callW kn_none lp_none (f := 10) (args := [.agg ⟨[.int .i64 p0, .int .u8 p1, .int .i64 p2, .int .i64 p3, .int .i64 p4]⟩, .agg ⟨[.int .i64 q0, .int .u8 q1, .int .i64 q2, .int .i64 q3, .int .i64 q4]⟩]) h0
  subst h2; subst h3
  have h5 : ∀ B, CallH Try.prog 100 B 10 [.agg ⟨[.int .i64 p0, .int .u8 p1, .int .i64 p2, .int .i64 p3, .int .i64 p4]⟩, .agg ⟨[.int .i64 q0, .int .u8 q1, .int .i64 q2, .int .i64 q3, .int .i64 q4]⟩] (hOf 100 [] ([].map some)) (.returned (.bool (allEq [(p0, q0), (p1, q1), (p2, q2), (p3, q3), (p4, q4)]))) (hOf 100 [] ([] ++ [].map some)) := fun B => call_gc (ins := []) (l := []) (h4 B) (names_drop (objs := []) rfl (fun o ho => by cases ho))
  exact fun B => lift (ins := []) (upd := []) (new := []) rfl rfl h5 (H := H) (ns := []) rfl (by simp) (by simp) (by simp) (by simp) (fun i o hi => by simp at hi) B
theorem fl11 {p0 p1 p2 p3 p4 q0 q1 q2 q3 q4 : Int} (H : Heap) : ∀ B, CallH Try.prog 100 B 11 [.agg ⟨[.int .i64 p0, .int .u8 p1, .int .i64 p2, .int .i64 p3, .int .i64 p4]⟩, .agg ⟨[.int .i64 q0, .int .u8 q1, .int .i64 q2, .int .i64 q3, .int .i64 q4]⟩] H (.returned (.bool (allEq [(p0, q0), (p1, q1), (p2, q2), (p3, q3), (p4, q4)]))) H := by
  have h0 : Is (gFl11 (real Try.prog) p0 p1 p2 p3 p4 q0 q1 q2 q3 q4 (fun v objs => v = .bool (allEq [(p0, q0), (p1, q1), (p2, q2), (p3, q3), (p4, q4)]) ∧ ∃ ex, objs = [] ++ ex)) := by
    refine ⟨?_⟩
    rw [gFl11_eq]
    exact n_agEql (ps := [(p0, q0), (p1, q1), (p2, q2), (p3, q3), (p4, q4)]) (by kernel_rfl) (by kernel_rfl) rfl rfl (fun e => ⟨by rw [e], _, rfl⟩) (fun e => ⟨by rw [e], _, rfl⟩)
  obtain ⟨v, objs, ⟨h2, ex, h3⟩, h4⟩ := callW kn_none lp_none (f := 11) (args := [.agg ⟨[.int .i64 p0, .int .u8 p1, .int .i64 p2, .int .i64 p3, .int .i64 p4]⟩, .agg ⟨[.int .i64 q0, .int .u8 q1, .int .i64 q2, .int .i64 q3, .int .i64 q4]⟩]) h0
  subst h2; subst h3
  have h5 : ∀ B, CallH Try.prog 100 B 11 [.agg ⟨[.int .i64 p0, .int .u8 p1, .int .i64 p2, .int .i64 p3, .int .i64 p4]⟩, .agg ⟨[.int .i64 q0, .int .u8 q1, .int .i64 q2, .int .i64 q3, .int .i64 q4]⟩] (hOf 100 [] ([].map some)) (.returned (.bool (allEq [(p0, q0), (p1, q1), (p2, q2), (p3, q3), (p4, q4)]))) (hOf 100 [] ([] ++ [].map some)) := fun B => call_gc (ins := []) (l := []) (h4 B) (names_drop (objs := []) rfl (fun o ho => by cases ho))
  exact fun B => lift (ins := []) (upd := []) (new := []) rfl rfl h5 (H := H) (ns := []) rfl (by simp) (by simp) (by simp) (by simp) (fun i o hi => by simp at hi) B
theorem fl20 {p0 p1 p2 q0 q1 q2 : Int} (H : Heap) : ∀ B, CallH Try.prog 100 B 20 [.agg ⟨[.int .i64 p0, .int .i64 p1, .int .i64 p2]⟩, .agg ⟨[.int .i64 q0, .int .i64 q1, .int .i64 q2]⟩] H (.returned (.bool (allEq [(p0, q0), (p1, q1), (p2, q2)]))) H := by
  have h0 : Is (gFl20 (real Try.prog) p0 p1 p2 q0 q1 q2 (fun v objs => v = .bool (allEq [(p0, q0), (p1, q1), (p2, q2)]) ∧ ∃ ex, objs = [] ++ ex)) := by
    refine ⟨?_⟩
    rw [gFl20_eq]
    exact n_agEql (ps := [(p0, q0), (p1, q1), (p2, q2)]) (by kernel_rfl) (by kernel_rfl) rfl rfl (fun e => ⟨by rw [e], _, rfl⟩) (fun e => ⟨by rw [e], _, rfl⟩)
  obtain ⟨v, objs, ⟨h2, ex, h3⟩, h4⟩ := callW kn_none lp_none (f := 20) (args := [.agg ⟨[.int .i64 p0, .int .i64 p1, .int .i64 p2]⟩, .agg ⟨[.int .i64 q0, .int .i64 q1, .int .i64 q2]⟩]) h0
  subst h2; subst h3
  have h5 : ∀ B, CallH Try.prog 100 B 20 [.agg ⟨[.int .i64 p0, .int .i64 p1, .int .i64 p2]⟩, .agg ⟨[.int .i64 q0, .int .i64 q1, .int .i64 q2]⟩] (hOf 100 [] ([].map some)) (.returned (.bool (allEq [(p0, q0), (p1, q1), (p2, q2)]))) (hOf 100 [] ([] ++ [].map some)) := fun B => call_gc (ins := []) (l := []) (h4 B) (names_drop (objs := []) rfl (fun o ho => by cases ho))
  exact fun B => lift (ins := []) (upd := []) (new := []) rfl rfl h5 (H := H) (ns := []) rfl (by simp) (by simp) (by simp) (by simp) (fun i o hi => by simp at hi) B
theorem fl21 {p0 p1 p2 q0 q1 q2 : Int} (H : Heap) : ∀ B, CallH Try.prog 100 B 21 [.agg ⟨[.int .i64 p0, .int .i64 p1, .int .i64 p2]⟩, .agg ⟨[.int .i64 q0, .int .i64 q1, .int .i64 q2]⟩] H (.returned (.bool (allEq [(p0, q0), (p1, q1), (p2, q2)]))) H := by
  have h0 : Is (gFl21 (real Try.prog) p0 p1 p2 q0 q1 q2 (fun v objs => v = .bool (allEq [(p0, q0), (p1, q1), (p2, q2)]) ∧ ∃ ex, objs = [] ++ ex)) := by
    refine ⟨?_⟩
    rw [gFl21_eq]
    exact n_agEql (ps := [(p0, q0), (p1, q1), (p2, q2)]) (by kernel_rfl) (by kernel_rfl) rfl rfl (fun e => ⟨by rw [e], _, rfl⟩) (fun e => ⟨by rw [e], _, rfl⟩)
  obtain ⟨v, objs, ⟨h2, ex, h3⟩, h4⟩ := callW kn_none lp_none (f := 21) (args := [.agg ⟨[.int .i64 p0, .int .i64 p1, .int .i64 p2]⟩, .agg ⟨[.int .i64 q0, .int .i64 q1, .int .i64 q2]⟩]) h0
  subst h2; subst h3
  have h5 : ∀ B, CallH Try.prog 100 B 21 [.agg ⟨[.int .i64 p0, .int .i64 p1, .int .i64 p2]⟩, .agg ⟨[.int .i64 q0, .int .i64 q1, .int .i64 q2]⟩] (hOf 100 [] ([].map some)) (.returned (.bool (allEq [(p0, q0), (p1, q1), (p2, q2)]))) (hOf 100 [] ([] ++ [].map some)) := fun B => call_gc (ins := []) (l := []) (h4 B) (names_drop (objs := []) rfl (fun o ho => by cases ho))
  exact fun B => lift (ins := []) (upd := []) (new := []) rfl rfl h5 (H := H) (ns := []) rfl (by simp) (by simp) (by simp) (by simp) (fun i o hi => by simp at hi) B
theorem fl22 {p0 p1 q0 q1 : Int} (H : Heap) : ∀ B, CallH Try.prog 100 B 22 [.agg ⟨[.int .i64 p0, .int .i64 p1]⟩, .agg ⟨[.int .i64 q0, .int .i64 q1]⟩] H (.returned (.bool (allEq [(p0, q0), (p1, q1)]))) H := by
  have h0 : Is (gFl22 (real Try.prog) p0 p1 q0 q1 (fun v objs => v = .bool (allEq [(p0, q0), (p1, q1)]) ∧ ∃ ex, objs = [] ++ ex)) := by
    refine ⟨?_⟩
    rw [gFl22_eq]
    exact n_agEql (ps := [(p0, q0), (p1, q1)]) (by kernel_rfl) (by kernel_rfl) rfl rfl (fun e => ⟨by rw [e], _, rfl⟩) (fun e => ⟨by rw [e], _, rfl⟩)
  obtain ⟨v, objs, ⟨h2, ex, h3⟩, h4⟩ := callW kn_none lp_none (f := 22) (args := [.agg ⟨[.int .i64 p0, .int .i64 p1]⟩, .agg ⟨[.int .i64 q0, .int .i64 q1]⟩]) h0
  subst h2; subst h3
  have h5 : ∀ B, CallH Try.prog 100 B 22 [.agg ⟨[.int .i64 p0, .int .i64 p1]⟩, .agg ⟨[.int .i64 q0, .int .i64 q1]⟩] (hOf 100 [] ([].map some)) (.returned (.bool (allEq [(p0, q0), (p1, q1)]))) (hOf 100 [] ([] ++ [].map some)) := fun B => call_gc (ins := []) (l := []) (h4 B) (names_drop (objs := []) rfl (fun o ho => by cases ho))
  exact fun B => lift (ins := []) (upd := []) (new := []) rfl rfl h5 (H := H) (ns := []) rfl (by simp) (by simp) (by simp) (by simp) (fun i o hi => by simp at hi) B
theorem fl23 {p0 p1 q0 q1 : Int} (H : Heap) : ∀ B, CallH Try.prog 100 B 23 [.agg ⟨[.int .i64 p0, .int .i64 p1]⟩, .agg ⟨[.int .i64 q0, .int .i64 q1]⟩] H (.returned (.bool (allEq [(p0, q0), (p1, q1)]))) H := by
  have h0 : Is (gFl23 (real Try.prog) p0 p1 q0 q1 (fun v objs => v = .bool (allEq [(p0, q0), (p1, q1)]) ∧ ∃ ex, objs = [] ++ ex)) := by
    refine ⟨?_⟩
    rw [gFl23_eq]
    exact n_agEql (ps := [(p0, q0), (p1, q1)]) (by kernel_rfl) (by kernel_rfl) rfl rfl (fun e => ⟨by rw [e], _, rfl⟩) (fun e => ⟨by rw [e], _, rfl⟩)
  obtain ⟨v, objs, ⟨h2, ex, h3⟩, h4⟩ := callW kn_none lp_none (f := 23) (args := [.agg ⟨[.int .i64 p0, .int .i64 p1]⟩, .agg ⟨[.int .i64 q0, .int .i64 q1]⟩]) h0
  subst h2; subst h3
  have h5 : ∀ B, CallH Try.prog 100 B 23 [.agg ⟨[.int .i64 p0, .int .i64 p1]⟩, .agg ⟨[.int .i64 q0, .int .i64 q1]⟩] (hOf 100 [] ([].map some)) (.returned (.bool (allEq [(p0, q0), (p1, q1)]))) (hOf 100 [] ([] ++ [].map some)) := fun B => call_gc (ins := []) (l := []) (h4 B) (names_drop (objs := []) rfl (fun o ho => by cases ho))
  exact fun B => lift (ins := []) (upd := []) (new := []) rfl rfl h5 (H := H) (ns := []) rfl (by simp) (by simp) (by simp) (by simp) (fun i o hi => by simp at hi) B
end
end Go.Proofs.Ytblbaohcelldpaa.Ob
