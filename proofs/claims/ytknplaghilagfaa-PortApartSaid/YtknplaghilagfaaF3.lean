/- The function that holds two sets of ports against each other. -/
import Derived.Test.YtknplaghilagfaaF1
import Derived.KernelRfl
namespace Go.Proofs.Ytknplaghilagfaa.Po
open Go Go.Abs
set_option linter.unusedVariables false
noncomputable section
def WR (M : PN) : How := ⟨fun _ => false, false, lookN (knRest M), fun _ => none⟩
def gEqB (N : Nd) (M : PN) (va vb : List Value) (i : Int) (back : Back) (out : Out) : Prop :=
  wpe Try.prog N (WR M) 300 (.code false (loopIn Try.prog 22 2) (stOf 100 27 [0, 1, 5] ([p100, p101, i64 i], [some (pob va), some (pob vb)]))) (roundQ 100 [0, 1, 5] [4] 27 back out)
def sLoop22 (L : Code → Nat → List Value → List Value → List Value → Prop → Prop → Prop) : Code → Nat → List Value → Heap → (Res → Prop) → Prop := fun c n vals h Q =>
  match objsOf 100 h with
  | [some (.cells va 56 560 false true), some (.cells vb 56 560 false true)] => L c n vals va vb (Q (.ex (.exit 0) (stOf 100 n [4] ([top], [some (pob va), some (pob vb)]))))
      (Q (.ex .ret (stOf 100 n [4] ([.bool false], [some (pob va), some (pob vb)]))))
  | _ => False
def gEq (N : Nd) (M : PN) (L : Code → Nat → List Value → List Value → List Value → Prop → Prop → Prop) (va vb : List Value) (K : RK) : Prop :=
  wpe Try.prog N ⟨fun _ => false, false, lookN (knRest M), lookN [(2, ([0, 1, 5], sLoop22 L))]⟩ 300 (.call 22 [p100, p101] (hOf 100 [] [some (pob va), some (pob vb)])) (retQ 100 K)
set_option maxRecDepth 100000 in
theorem gEqB_eq (N : Go.Abs.Nd) (M : Go.Proofs.Ytknplaghilagfaa.Po.PN) (va : List Go.Value) (vb : List Go.Value) (i : Int) (back : Go.Proofs.Ytknplaghilagfaa.Po.Back) (out : Go.Proofs.Ytknplaghilagfaa.Po.Out) : gEqB N M va vb i back out =
  (N.cmp BinOp.leq IntKind.i64 i IntKind.i64 (16 : Int) (M.isUp va i (M.isUp vb i (M.all va i (M.all vb i ((0 = 0) ∧
   ((0 = 0) ∧
   (M.same [] 0 [] 0 (N.ari BinOp.add IntKind.i64 i IntKind.i64 (1 : Int) (fun z0 =>
   back [(Value.pointer (some (Addr.mk 100 0 none))), (Value.pointer (some (Addr.mk 101 0 none))), (Value.int IntKind.i64 z0)] [(some (AObj.cells va 56 560 false true)), (some (AObj.cells vb 56 560 false true))])) (out Exit.ret [(Value.bool false)] [(some (AObj.cells va 56 560 false true)), (some (AObj.cells vb 56 560 false true))])))) (fun l0 o1 =>
   (0 = 0) ∧
    ((o1 = o1) ∧
    (M.same [] 0 l0 o1 (N.ari BinOp.add IntKind.i64 i IntKind.i64 (1 : Int) (fun z2 =>
    back [(Value.pointer (some (Addr.mk 100 0 none))), (Value.pointer (some (Addr.mk 101 0 none))), (Value.int IntKind.i64 z2)] [(some (AObj.cells va 56 560 false true)), (some (AObj.cells vb 56 560 false true)), (some (AObj.cells l0 9 1 true true))])) (out Exit.ret [(Value.bool false)] [(some (AObj.cells va 56 560 false true)), (some (AObj.cells vb 56 560 false true)), (some (AObj.cells l0 9 1 true true))]))))) (fun l0 o1 =>
   M.all vb i ((o1 = o1) ∧
    ((0 = 0) ∧
    (M.same l0 o1 [] 0 (N.ari BinOp.add IntKind.i64 i IntKind.i64 (1 : Int) (fun z2 =>
    back [(Value.pointer (some (Addr.mk 100 0 none))), (Value.pointer (some (Addr.mk 101 0 none))), (Value.int IntKind.i64 z2)] [(some (AObj.cells va 56 560 false true)), (some (AObj.cells vb 56 560 false true)), (some (AObj.cells l0 9 1 true true))])) (out Exit.ret [(Value.bool false)] [(some (AObj.cells va 56 560 false true)), (some (AObj.cells vb 56 560 false true)), (some (AObj.cells l0 9 1 true true))])))) (fun l2 o3 =>
    (o1 = o1) ∧
     ((o3 = o3) ∧
     (M.same l0 o1 l2 o3 (N.ari BinOp.add IntKind.i64 i IntKind.i64 (1 : Int) (fun z4 =>
     back [(Value.pointer (some (Addr.mk 100 0 none))), (Value.pointer (some (Addr.mk 101 0 none))), (Value.int IntKind.i64 z4)] [(some (AObj.cells va 56 560 false true)), (some (AObj.cells vb 56 560 false true)), (some (AObj.cells l0 9 1 true true)), (some (AObj.cells l2 9 1 true true))])) (out Exit.ret [(Value.bool false)] [(some (AObj.cells va 56 560 false true)), (some (AObj.cells vb 56 560 false true)), (some (AObj.cells l0 9 1 true true)), (some (AObj.cells l2 9 1 true true))])))))) (out Exit.ret [(Value.bool false)] [(some (AObj.cells va 56 560 false true)), (some (AObj.cells vb 56 560 false true))])) (M.isUp vb i (out Exit.ret [(Value.bool false)] [(some (AObj.cells va 56 560 false true)), (some (AObj.cells vb 56 560 false true))]) (M.all va i (M.all vb i ((0 = 0) ∧
   ((0 = 0) ∧
   (M.same [] 0 [] 0 (N.ari BinOp.add IntKind.i64 i IntKind.i64 (1 : Int) (fun z0 =>
   back [(Value.pointer (some (Addr.mk 100 0 none))), (Value.pointer (some (Addr.mk 101 0 none))), (Value.int IntKind.i64 z0)] [(some (AObj.cells va 56 560 false true)), (some (AObj.cells vb 56 560 false true))])) (out Exit.ret [(Value.bool false)] [(some (AObj.cells va 56 560 false true)), (some (AObj.cells vb 56 560 false true))])))) (fun l0 o1 =>
   (0 = 0) ∧
    ((o1 = o1) ∧
    (M.same [] 0 l0 o1 (N.ari BinOp.add IntKind.i64 i IntKind.i64 (1 : Int) (fun z2 =>
    back [(Value.pointer (some (Addr.mk 100 0 none))), (Value.pointer (some (Addr.mk 101 0 none))), (Value.int IntKind.i64 z2)] [(some (AObj.cells va 56 560 false true)), (some (AObj.cells vb 56 560 false true)), (some (AObj.cells l0 9 1 true true))])) (out Exit.ret [(Value.bool false)] [(some (AObj.cells va 56 560 false true)), (some (AObj.cells vb 56 560 false true)), (some (AObj.cells l0 9 1 true true))]))))) (fun l0 o1 =>
   M.all vb i ((o1 = o1) ∧
    ((0 = 0) ∧
    (M.same l0 o1 [] 0 (N.ari BinOp.add IntKind.i64 i IntKind.i64 (1 : Int) (fun z2 =>
    back [(Value.pointer (some (Addr.mk 100 0 none))), (Value.pointer (some (Addr.mk 101 0 none))), (Value.int IntKind.i64 z2)] [(some (AObj.cells va 56 560 false true)), (some (AObj.cells vb 56 560 false true)), (some (AObj.cells l0 9 1 true true))])) (out Exit.ret [(Value.bool false)] [(some (AObj.cells va 56 560 false true)), (some (AObj.cells vb 56 560 false true)), (some (AObj.cells l0 9 1 true true))])))) (fun l2 o3 =>
    (o1 = o1) ∧
     ((o3 = o3) ∧
     (M.same l0 o1 l2 o3 (N.ari BinOp.add IntKind.i64 i IntKind.i64 (1 : Int) (fun z4 =>
     back [(Value.pointer (some (Addr.mk 100 0 none))), (Value.pointer (some (Addr.mk 101 0 none))), (Value.int IntKind.i64 z4)] [(some (AObj.cells va 56 560 false true)), (some (AObj.cells vb 56 560 false true)), (some (AObj.cells l0 9 1 true true)), (some (AObj.cells l2 9 1 true true))])) (out Exit.ret [(Value.bool false)] [(some (AObj.cells va 56 560 false true)), (some (AObj.cells vb 56 560 false true)), (some (AObj.cells l0 9 1 true true)), (some (AObj.cells l2 9 1 true true))])))))))) (out (Exit.exit 0) [(Value.chan (some 0))] [(some (AObj.cells va 56 560 false true)), (some (AObj.cells vb 56 560 false true))])) := by kernel_rfl
set_option maxRecDepth 100000 in
theorem gEq_eq (N : Go.Abs.Nd) (M : Go.Proofs.Ytknplaghilagfaa.Po.PN) (L : Go.Code → Nat → List Go.Value → List Go.Value → List Go.Value → Prop → Prop → Prop) (va : List Go.Value) (vb : List Go.Value) (K : Go.Proofs.Ytknplaghilagfaa.Po.RK) : gEq N M L va vb K =
  (L (loopIn Try.prog 22 2) 27 [(Value.pointer (some (Addr.mk 100 0 none))), (Value.pointer (some (Addr.mk 101 0 none))), (Value.int IntKind.i64 (1 : Int))] va vb (K (Value.bool true) [(some (AObj.cells va 56 560 false true)), (some (AObj.cells vb 56 560 false true))]) (K (Value.bool false) [(some (AObj.cells va 56 560 false true)), (some (AObj.cells vb 56 560 false true))])) := by kernel_rfl
/-- Do two sets of ports stand alike? -/
def Alike (a b : Ps) : Prop := ∀ n : Int, 1 ≤ n → n ≤ 16 → isUpP a n = isUpP b n ∧ listP a n = listP b n
def AlikeTo (a b : Ps) (i : Nat) : Prop := ∀ n : Int, 1 ≤ n → n < i → isUpP a n = isUpP b n ∧ listP a n = listP b n
theorem list_le {ps : Ps} {vs : List Value} (h : PR ps vs) (n : Int) : (listP ps n).length ≤ 32 := by
  by_cases hn : 1 ≤ n ∧ n ≤ 16
  · obtain ⟨p, hp, rfl⟩ := port_of (n := n) (by omega) (by omega)
    obtain ⟨f, g1, g2, _⟩ := h.2 p hp
    unfold listP; rw [atPort_in hp]; exact g2
  · unfold listP; rw [atPort_out hn]; simp
theorem kn_R : KnOk Try.prog 100 (WR realP) := kn_ok rest_ok'
theorem loop22 {a b : Ps} {va vb : List Value} (ha : PR a va) (hb : PR b vb) (c : Code) (hc : c = loopIn Try.prog 22 2) {N : Nat} (hN : N = 27) {vals : List Value} {hh : Heap} (hv : vals = [p100, p101, i64 1])
    (ho : objsOf 100 hh = [some (pob va), some (pob vb)]) (hle : 100 ≤ hh.next) :
    ∃ e v o, (o = [some (pob va), some (pob vb)] ∧ ((e = .exit 0 ∧ v = [top] ∧ Alike a b) ∨ (e = .ret ∧ v = [.bool false] ∧ ¬ Alike a b))) ∧
      ∀ B, Holds Try.prog 100 B (.loop false c ⟨tmOf N [0, 1, 5] vals, [], hh, .run⟩) (.ex e (stOf 100 N [4] (v, o))) := by
  subst hc; subst hN
  exact lp_rule (P := Try.prog) (G := 100) (W := WR realP) (fuel := 300) (N := 27) (k0 := 2) (live := [0, 1, 5]) (live2 := [4]) (c := loopIn Try.prog 22 2) okp kn_R lp_none (α := { i : Nat // 1 ≤ i ∧ i ≤ 17 ∧ AlikeTo a b i }) (fun i => 17 - i.1)
    (fun i => ([p100, p101, i64 i.1], [some (pob va), some (pob vb)]))
    (fun e v o => o = [some (pob va), some (pob vb)] ∧ ((e = .exit 0 ∧ v = [top] ∧ Alike a b) ∨ (e = .ret ∧ v = [.bool false] ∧ ¬ Alike a b))) (by
      rintro ⟨i, h1, h17, hal⟩
      have hg := gEqB_eq (real Try.prog) realP va vb (i : Int)
      unfold gEqB at hg
      refine ⟨?_⟩
      show wpe _ _ _ _ _ _
      generalize hst : stOf 100 27 [0, 1, 5] _ = st
      have e : st = stOf 100 27 [0, 1, 5] ([p100, p101, i64 i], [some (pob va), some (pob vb)]) := hst.symm
      rw [e, hg]
      have hno : ¬ (isUpP a i = isUpP b i ∧ listP a i = listP b i) → i ≤ 16 → ∀ objs : List (Option AObj), (∃ r, objs = some (pob va) :: some (pob vb) :: r) → ∃ l v o, Names 100 2 l (100 + objs.length) [Value.bool false] objs v o ∧
          (o = [some (pob va), some (pob vb)] ∧ ((Exit.ret = .exit 0 ∧ v = [top] ∧ Alike a b) ∨ (Exit.ret = .ret ∧ v = [.bool false] ∧ ¬ Alike a b))) := by
        rintro hne hi objs ⟨r, rfl⟩
        refine ⟨[], [.bool false], [some (pob va), some (pob vb)], names_mk rfl rfl rfl (Nat.ble_eq_true_of_le (by simp; omega)) ⟨?_, ha.plain, ?_, hb.plain, trivial⟩, rfl, .inr ⟨rfl, rfl, fun h => hne (h i (by omega) (by omega))⟩⟩
        · rw [tau_lt (by omega)]; rfl
        · rw [tau_lt (by omega)]; rfl
      have hyes : (isUpP a i = isUpP b i ∧ listP a i = listP b i) → i ≤ 16 → ∀ objs : List (Option AObj), (∃ r, objs = some (pob va) :: some (pob vb) :: r) →
          ∃ (a' : { i : Nat // 1 ≤ i ∧ i ≤ 17 ∧ AlikeTo a b i }) (l : List Nat), 17 - a'.1 < 17 - i ∧ Names 100 2 l (100 + objs.length) [p100, p101, i64 ((i : Int) + 1)] objs [p100, p101, i64 a'.1] [some (pob va), some (pob vb)] := by
        rintro he hi objs ⟨r, rfl⟩
        refine ⟨⟨i + 1, by omega, by omega, fun n hn1 hn2 => ?_⟩, [], by simp; omega, names_mk ?_ rfl rfl (Nat.ble_eq_true_of_le (by simp; omega)) ⟨?_, ha.plain, ?_, hb.plain, trivial⟩⟩
        · by_cases hni : n = i
          · subst hni; exact he
          · exact hal n hn1 (by omega)
        · simp only [List.map_cons, List.map_nil, p100, p101, i64, vren, tau_lt (show 100 < 100 + 2 by omega), tau_lt (show 101 < 100 + 2 by omega)]; rfl
        · rw [tau_lt (by omega)]; rfl
        · rw [tau_lt (by omega)]; rfl
      have hla := list_le ha i
      have hlb := list_le hb i
      refine n_leq (fun h2 => ?_) (fun h2 => ?_)
      · have h16 : i ≤ 16 := by omega
        refine ⟨a, ha, fun hu => ⟨b, hb, fun hu' => ?_, fun hu' => ?_⟩, fun hu => ⟨b, hb, fun hu' => ?_, fun hu' => ?_⟩⟩
        · refine ⟨a, ha, fun ea => ⟨b, hb, fun eb => ⟨rfl, rfl, ?_⟩, fun nb => ⟨rfl, rfl, ?_⟩⟩, fun na => ⟨b, hb, fun eb => ⟨rfl, rfl, ?_⟩, fun nb => ⟨rfl, rfl, ?_⟩⟩⟩
          · exact ⟨[], [], rfl, rfl, rfl, rfl, by simp, by simp, fun _ => n_add (by omega) (by omega) (hyes ⟨hu.trans hu'.symm, ea.trans eb.symm⟩ h16 _ ⟨_, rfl⟩), fun ne => absurd rfl ne⟩
          · exact ⟨[], listP b i, rfl, rfl, rfl, rfl, by simp, by omega, fun e => absurd e.symm nb, fun ne => hno (fun h => ne (ea.symm.trans h.2)) h16 _ ⟨_, rfl⟩⟩
          · exact ⟨listP a i, [], rfl, rfl, rfl, rfl, by omega, by simp, fun e => absurd e na, fun ne => hno (fun h => ne (h.2.trans eb)) h16 _ ⟨_, rfl⟩⟩
          · exact ⟨listP a i, listP b i, rfl, rfl, rfl, rfl, by omega, by omega, fun e => n_add (by omega) (by omega) (hyes ⟨hu.trans hu'.symm, e⟩ h16 _ ⟨_, rfl⟩), fun ne => hno (fun h => ne h.2) h16 _ ⟨_, rfl⟩⟩
        · exact hno (fun h => by rw [hu, hu'] at h; cases h.1) h16 _ ⟨_, rfl⟩
        · exact hno (fun h => by rw [hu, hu'] at h; cases h.1) h16 _ ⟨_, rfl⟩
        · refine ⟨a, ha, fun ea => ⟨b, hb, fun eb => ⟨rfl, rfl, ?_⟩, fun nb => ⟨rfl, rfl, ?_⟩⟩, fun na => ⟨b, hb, fun eb => ⟨rfl, rfl, ?_⟩, fun nb => ⟨rfl, rfl, ?_⟩⟩⟩
          · exact ⟨[], [], rfl, rfl, rfl, rfl, by simp, by simp, fun _ => n_add (by omega) (by omega) (hyes ⟨hu.trans hu'.symm, ea.trans eb.symm⟩ h16 _ ⟨_, rfl⟩), fun ne => absurd rfl ne⟩
          · exact ⟨[], listP b i, rfl, rfl, rfl, rfl, by simp, by omega, fun e => absurd e.symm nb, fun ne => hno (fun h => ne (ea.symm.trans h.2)) h16 _ ⟨_, rfl⟩⟩
          · exact ⟨listP a i, [], rfl, rfl, rfl, rfl, by omega, by simp, fun e => absurd e na, fun ne => hno (fun h => ne (h.2.trans eb)) h16 _ ⟨_, rfl⟩⟩
          · exact ⟨listP a i, listP b i, rfl, rfl, rfl, rfl, by omega, by omega, fun e => n_add (by omega) (by omega) (hyes ⟨hu.trans hu'.symm, e⟩ h16 _ ⟨_, rfl⟩), fun ne => hno (fun h => ne h.2) h16 _ ⟨_, rfl⟩⟩
      · have : i = 17 := by omega
        subst this
        refine ⟨[], [top], [some (pob va), some (pob vb)], names_id' rfl rfl rfl, rfl, .inl ⟨rfl, rfl, fun n hn1 hn2 => hal n hn1 (by omega)⟩⟩)
    ⟨1, by omega, by omega, fun n h1 h2 => by omega⟩ rfl (vals := vals) (h := hh) hv ho hle
def L22 : Code → Nat → List Value → List Value → List Value → Prop → Prop → Prop := fun c N vals va vb T F =>
  ∃ a b, PR a va ∧ PR b vb ∧ c = loopIn Try.prog 22 2 ∧ N = 27 ∧ vals = [p100, p101, i64 1] ∧ (Alike a b → T) ∧ (¬ Alike a b → F)
theorem loopOk22 : LoopOk Try.prog 100 [0, 1, 5] (sLoop22 L22) := by
  intro c N vals h Q hS
  unfold sLoop22 at hS
  split at hS
  · rename_i va vb ho
    obtain ⟨a, b, ha, hb, hc, hN, hv, hT, hF⟩ := hS
    obtain ⟨e, v, o, ⟨q1, q2⟩, h2⟩ := loop22 ha hb c hc hN hv ho (next_of ho)
    subst q1
    rcases q2 with ⟨q2, q3, q4⟩ | ⟨q2, q3, q4⟩ <;> subst q2 <;> subst q3
    · exact ⟨_, h2, hT q4⟩
    · exact ⟨_, h2, hF q4⟩
  · exact hS.elim
theorem eq_call {a b : Ps} {va vb : List Value} (ha : PR a va) (hb : PR b vb) : ∃ t : Bool, (t = true ↔ Alike a b) ∧ ∀ B, CallH Try.prog 100 B 22 [p100, p101] (hOf 100 [] [some (pob va), some (pob vb)]) (.returned (.bool t)) (hOf 100 [] [some (pob va), some (pob vb)]) := by
  have h0 : Is (gEq (real Try.prog) realP L22 va vb (fun v objs => ∃ t : Bool, v = .bool t ∧ objs = [some (pob va), some (pob vb)] ∧ (t = true ↔ Alike a b))) := by
    refine ⟨?_⟩
    rw [gEq_eq]
    exact ⟨a, b, ha, hb, rfl, rfl, rfl, fun h => ⟨true, rfl, rfl, by simp [h]⟩, fun h => ⟨false, rfl, rfl, by simp [h]⟩⟩
  obtain ⟨v, objs, ⟨t, h2, h3, h5⟩, h4⟩ := callW (kn_ok rest_ok') (lp_ok (l := [(2, ([0, 1, 5], sLoop22 L22))]) (by
    intro x hx; simp only [List.mem_cons, List.not_mem_nil, or_false] at hx; subst hx; exact loopOk22)) (f := 22) (args := [p100, p101]) h0
  subst h2; subst h3
  exact ⟨t, h5, h4⟩
def sEqp (E : List Value → List Value → Prop → Prop → Prop) : List Value → Heap → VK → Prop
  | [.pointer (some a), .pointer (some b)], H, K => opt (pobAt H a) fun va => opt (pobAt H b) fun vb => match Nat.beq a.block b.block with
    | true => False
    | false => E va vb (K (.bool true) ((H.put a.block (some (pob va))).put b.block (some (pob vb)))) (K (.bool false) ((H.put a.block (some (pob va))).put b.block (some (pob vb))))
  | _, _, _ => False
def realE : List Value → List Value → Prop → Prop → Prop := fun va vb T F => ∃ a b, PR a va ∧ PR b vb ∧ (Alike a b → T) ∧ (¬ Alike a b → F)
theorem sum_eqp : SumOk Try.prog 100 22 (sEqp realE) := by
  intro args H K h
  unfold sEqp at h
  split at h
  · rename_i x y
    obtain ⟨va, hx, h⟩ := opt_elim h
    obtain ⟨vb, hy, h⟩ := opt_elim h
    cases hne : Nat.beq x.block y.block with
    | true => rw [hne] at h; exact h.elim
    | false =>
      rw [hne] at h
      obtain ⟨a, b, ha, hb, hT, hF⟩ := h
      obtain ⟨t, ht, h4⟩ := eq_call ha hb
      obtain ⟨g1, g2, g3⟩ := pobAt_ok hx
      obtain ⟨k1, k2, k3⟩ := pobAt_ok hy
      have hn : x.block ≠ y.block := fun e => by rw [e] at hne; simp at hne
      refine ⟨.bool t, (H.put x.block (some (pob va))).put y.block (some (pob vb)), fun B => ?_, ?_⟩
      · have := lift (ins := [pob va, pob vb]) (upd := [some (pob va), some (pob vb)]) (new := []) rfl rfl h4 (H := H) (ns := [x.block, y.block]) rfl (by simp [hn])
          (by intro o ho; simp only [List.mem_cons, List.not_mem_nil, or_false] at ho; rcases ho with rfl | rfl; exact ha.plain; exact hb.plain)
          (by intro o ho; simp only [List.mem_cons, List.not_mem_nil, or_false, Option.some.injEq] at ho; rcases ho with rfl | rfl; exact ha.plain; exact hb.plain) (by simp)
          (fun i o hi => by
            match i, hi with
            | 0, hi => simp only [List.getElem?_cons_zero, Option.some.injEq] at hi; subst hi; exact ⟨_, rfl, g1, g3⟩
            | 1, hi => simp only [List.getElem?_cons_succ, List.getElem?_cons_zero, Option.some.injEq] at hi; subst hi; exact ⟨_, rfl, k1, k3⟩
            | i + 2, hi => simp at hi) B
        simp only [vrenL, vren, p100, p101] at this
        rw [tau_in (n := 100) (m := x.block) (by omega) rfl, tau_in (n := 101) (m := y.block) (by omega) rfl] at this
        rw [g2, k2]
        exact this
      · cases t
        · exact hF (fun h => by have := ht.2 h; cases this)
        · exact hT (ht.1 rfl)
  · exact h.elim
end
end Go.Proofs.Ytknplaghilagfaa.Po
