/- The evaluator with nodes, of code and calls, and that what it says is so. -/
import Derived.Test.YtblbaohcelldpaaD4
namespace Go.Abs
open Go
noncomputable section
set_option linter.unusedVariables false

def keyOf : Code → Nat
  | .region id _ _ => id
  | .seq a _ => keyOf a
  | .cond _ a _ => keyOf a
  | .block id _ => id
  | .loop c => keyOf c
  | .scope c => keyOf c
  | _ => 0
/-- The loop of a piece of code that bears a key. -/
def findLoop (k : Nat) : Code → Option Code
  | .seq a b => match findLoop k a with
    | some c => some c
    | none => findLoop k b
  | .cond _ a b => match findLoop k a with
    | some c => some c
    | none => findLoop k b
  | .block _ c => findLoop k c
  | .loop c => match Nat.beq (keyOf c) k with
    | true => some c
    | false => findLoop k c
  | .scope c => findLoop k c
  | _ => none
def bodyOf (P : Program) (f : FuncId) : Code := match P.funcs[f]? with
  | some fn => match fn.body with
    | some c => c
    | none => .skip
  | none => .skip
def loopIn (P : Program) (f : FuncId) (k : Nat) : Code := match findLoop k (bodyOf P f) with
  | some c => c
  | none => .skip

abbrev Rec := Cmd → (Res → Prop) → Prop
def wSeq (D : Bool) (b : Code) (rec : Rec) (Q : Res → Prop) : Res → Prop
  | .ex .normal s' => rec (.code D b s') Q
  | r => Q r
def wBlock (id : Nat) (Q : Res → Prop) : Res → Prop
  | .ex (.exit id') s' => match Nat.beq id' id with
    | true => Q (.ex .normal s')
    | false => Q (.ex (.exit id') s')
  | r => Q r
def wScope (Q : Res → Prop) : Res → Prop
  | .ex (.goto _) _ => False
  | r => Q r
def wLoop (D : Bool) (c : Code) (rec : Rec) (Q : Res → Prop) : Res → Prop
  | .ex .normal s' => rec (.loop D c s') Q
  | r => Q r
def wGuard (o : Oper) (ops : List Oper) (ts : Tm) (A S : Prop) : Prop := match o.guard with
  | none => A
  | some (j, want) => match topAt ops ts j with
    | true => False
    | false => match yieldedL ops ts j with
      | some t => match want with
        | true => branch t A S
        | false => branch t S A
      | none => S
/-- A region of quiet operations that draws its order. -/
def allQuiet : List Oper → Bool
  | [] => true
  | o :: r => match quietKind o.op with
    | true => allQuiet r
    | false => false
def wDr (P : Program) (N : Nd) (W : How) (ops : List Oper) : List Oper → Tm → Heap → (Tm → Prop) → Prop
  | [], ts, _, K => K ts
  | o :: r, ts, h, K => wGuard o ops ts
      (wOp P N W o (aev ts) h (fun v h' => match Nat.beq h'.next h.next with
        | true => wDr P N W ops r (putL ts o.dst v) h K
        | false => False) o.op)
      (wDr P N W ops r (putL ts o.dst undef) h K)
/-- The same, the slot set to what it is known to hold on each way. -/
def setTs (ts : Tm) (ops : List Oper) (j : Nat) (t : Bool) : Tm := match (ops[j]?).bind (·.dst) with
  | some d => ts.put d (.bool t)
  | none => ts
def wGuardS (o : Oper) (ops : List Oper) (ts : Tm) (A S : Tm → Prop) : Prop := match o.guard with
  | none => A ts
  | some (j, want) => match topAt ops ts j with
    | true => False
    | false => match yieldedL ops ts j with
      | some t => match want with
        | true => branch t (A (setTs ts ops j true)) (S (setTs ts ops j false))
        | false => branch t (S (setTs ts ops j true)) (A (setTs ts ops j false))
      | none => S ts
def isCallOp : Op → Bool
  | .call { callee := .value _, .. } => true
  | _ => false
/-- A region that draws its order, with calls of functions that leave the heap as it is. -/
def wDrE (P : Program) (N : Nd) (W : How) (ops : List Oper) : List Oper → Nat → List Nat → Tm → Heap → (Tm → Prop) → Prop
  | [], _, es, ts, _, K => match chainOk (masks ops) es.reverse with
    | true => K ts
    | false => False
  | o :: r, i, es, ts, h, K => wGuardS o ops ts
      (fun ts => match isCallOp o.op with
        | true => opt (callOf P (aev ts) o.op) fun (g, args) => opt (W.pu g) fun S => S args h fun v => wDrE P N W ops r (i + 1) (i :: es) (putL ts o.dst v) h K
        | false => match quietKind o.op with
          | true => wOp P N W o (aev ts) h (fun v h' => match Nat.beq h'.next h.next with
            | true => wDrE P N W ops r (i + 1) es (putL ts o.dst v) h K
            | false => False) o.op
          | false => False)
      (fun ts => wDrE P N W ops r (i + 1) es (putL ts o.dst undef) h K)
def wCode (P : Program) (N : Nd) (W : How) : Code → Bool → St → Rec → (Res → Prop) → Prop
  | .skip => fun _ s _ Q => Q (.ex .normal s)
  | .label _ => fun _ s _ Q => Q (.ex .normal s)
  | .ret => fun _ s _ Q => Q (.ex .ret s)
  | .exit id => fun _ s _ Q => Q (.ex (.exit id) s)
  | .seq a b => fun D s rec Q => rec (.code D a s) (wSeq D b rec Q)
  | .cond c a b => fun D s rec Q => match aev s.ts c with
    | .bool t => branch t (rec (.code D a s) Q) (rec (.code D b s) Q)
    | _ => False
  | .block id c => fun D s rec Q => rec (.code D c s) (wBlock id Q)
  | .loop c => fun D s rec Q => match W.lp (keyOf c) with
    | none => rec (.loop D c s) Q
    | some (live, S) => match D, s.ds with
      | false, [] => S c s.ts.n (live.map s.ts.get) s.h Q
      | _, _ => False
  | .scope c => fun D s rec Q => rec (.code D c s) (wScope Q)
  | .region _ ops false => fun D s rec Q => rec (.ops D ops 0 ops.toList s) Q
  | .region _ ops true => fun D s rec Q => match D, statOk ops.toList with
    | false, true => match allQuiet ops.toList with
      | true => wDr P N W ops.toList ops.toList s.ts s.h fun ts' => Q (.ex .normal { s with ts := ts' })
      | false => wDrE P N W ops.toList ops.toList 0 [] s.ts s.h fun ts' => Q (.ex .normal { s with ts := ts' })
    | _, _ => False
  | _ => fun _ _ _ _ => False
def wCall (rec : Rec) (D : Bool) (ops : Array Oper) (k : Nat) (r : List Oper) (o : Oper) (s : St) (Q : Res → Prop) : Res → Prop
  | .en (.returned v) _ h' => rec (.ops D ops (k + 1) r { put s o v with h := h' }) Q
  | _ => False
def wOps (P : Program) (N : Nd) (W : How) : List Oper → Bool → Array Oper → Nat → St → Rec → (Res → Prop) → Prop
  | [] => fun _ _ _ s _ Q => Q (.ex .normal s)
  | o :: r => fun D ops k s rec Q => wGuardS o ops.toList s.ts
      (fun ts => match isCallOp o.op with
        | true => opt (callOf P (aev ts) o.op) fun (g, args) => rec (.call g args s.h) (wCall rec D ops k r o { s with ts := ts } Q)
        | false => match appOf W.ag o.op with
          | some (ats, as) => wAppU P N ats (as.map (aev ts)) s.h (fun v h' => rec (.ops D ops (k + 1) r { put { s with ts := ts } o v with h := h' }) Q)
          | none => wOp P N W o (aev ts) s.h (fun v h' => rec (.ops D ops (k + 1) r { put { s with ts := ts } o v with h := h' }) Q) o.op)
      (fun ts => rec (.ops D ops (k + 1) r (put { s with ts := ts } o undef)) Q)
def wLeft (P : Program) (fn : Func) (Q : Res → Prop) (s' : St) : Prop := match s'.ds with
  | [] => opt (aResults P fn s'.ts s'.h) fun v => Q (.en (.returned v) .run s'.h)
  | _ => False
def wBody (P : Program) (fn : Func) (Q : Res → Prop) : Res → Prop
  | .ex .normal s' => wLeft P fn Q s'
  | .ex .ret s' => wLeft P fn Q s'
  | _ => False
def wStep (P : Program) (N : Nd) (W : How) (rec : Rec) (Q : Res → Prop) : Cmd → Prop
  | .code D c s => wCode P N W c D s rec Q
  | .loop D c s => rec (.code D c s) (wLoop D c rec Q)
  | .ops D ops k todo s => wOps P N W todo D ops k s rec Q
  | .call f args h => match W.kn f with
    | some S => S args h fun v h' => Q (.en (.returned v) .run h')
    | none => match W.pu f with
      | some S => S args h fun v => Q (.en (.returned v) .run h)
      | none => opt (P.funcs[f]?) fun fn => opt fn.body fun c => rec (.code false c ⟨Tm.of args fn.ntmps, [], h, .run⟩) (wBody P fn Q)
  | _ => False
def wpe (P : Program) (N : Nd) (W : How) : Nat → Cmd → (Res → Prop) → Prop
  | 0 => fun _ _ => False
  | n + 1 => fun c Q => wStep P N W (wpe P N W n) Q c

section
variable {P : Program} {G : Nat} {B : Base}
def PureOk (P : Program) (G : Nat) (f : FuncId) (S : List Value → Heap → (Value → Prop) → Prop) : Prop := ∀ args H K, S args H K → ∃ v, (∀ B, CallH P G B f args H (.returned v) H) ∧ K v
def KnOk (P : Program) (G : Nat) (W : How) : Prop := (∀ f S, W.kn f = some S → ∀ args H K, S args H K → ∃ v H', (∀ B, CallH P G B f args H (.returned v) H') ∧ K v H') ∧ ∀ f S, W.pu f = some S → PureOk P G f S
def LpOk (P : Program) (G : Nat) (W : How) : Prop := ∀ k live S, W.lp k = some (live, S) → ∀ c n vals h Q, S c n vals h Q → ∃ r, (∀ B, Holds P G B (.loop false c ⟨tmOf n live vals, [], h, .run⟩) r) ∧ Q r

theorem branch_elim {t : Bool} {A A' : Prop} (h : branch t A A') : match t with | true => A | false => A' := by cases t <;> exact h
theorem wGuard_ok {o : Oper} {ops : List Oper} {ts : Tm} {A S : Prop} (h : wGuard o ops ts A S) : (wantedA o ops ts = some true ∧ A) ∨ (wantedA o ops ts = some false ∧ S) := by
  unfold wGuard at h
  unfold wantedA
  cases hg : o.guard with
  | none => rw [hg] at h; exact .inl ⟨rfl, h⟩
  | some x =>
    obtain ⟨j, want⟩ := x
    rw [hg] at h
    simp only at h ⊢
    cases ht : topAt ops ts j with
    | true => rw [ht] at h; exact h.elim
    | false =>
      rw [ht] at h
      simp only at h ⊢
      cases hy : yieldedL ops ts j with
      | none => rw [hy] at h; exact .inr ⟨by cases want <;> rfl, h⟩
      | some t =>
        rw [hy] at h
        cases want <;> cases t <;> first | exact .inl ⟨rfl, h⟩ | exact .inr ⟨rfl, h⟩
def TsEq (ts ts' : Tm) : Prop := ts'.n = ts.n ∧ ∀ i, ts'.get i = ts.get i
theorem setTs_eq {ts : Tm} {ops : List Oper} {j : Nat} {t : Bool} (h : yieldedL ops ts j = some t) : TsEq ts (setTs ts ops j t) := by
  unfold yieldedL at h
  unfold setTs
  cases hd : (ops[j]?).bind (·.dst) with
  | none => exact ⟨rfl, fun _ => rfl⟩
  | some d =>
    rw [hd] at h
    simp only at h ⊢
    refine ⟨Tm.n_put _ _ _, fun i => ?_⟩
    rw [Tm.get_put]
    split
    · rename_i hi
      rw [hi.1]
      unfold asB at h
      split at h
      · rename_i b e; simp only [Option.some.injEq] at h; rw [e, h]
      · cases h
    · rfl
theorem wantedA_congr {o : Oper} {ops : List Oper} {ts ts' : Tm} (h : TsEq ts ts') : wantedA o ops ts' = wantedA o ops ts := by
  have e1 : ∀ j, yieldedL ops ts' j = yieldedL ops ts j := fun j => by unfold yieldedL; simp only [h.2]
  have e2 : ∀ j, topAt ops ts' j = topAt ops ts j := fun j => by unfold topAt; simp only [h.2]
  unfold wantedA
  simp only [e1, e2]
theorem wGuardS_ok {o : Oper} {ops : List Oper} {ts : Tm} {A S : Tm → Prop} (h : wGuardS o ops ts A S) : ∃ ts', TsEq ts ts' ∧ ((wantedA o ops ts' = some true ∧ A ts') ∨ (wantedA o ops ts' = some false ∧ S ts')) := by
  have key : ∃ ts', TsEq ts ts' ∧ ((wantedA o ops ts = some true ∧ A ts') ∨ (wantedA o ops ts = some false ∧ S ts')) := by
    unfold wGuardS at h
    unfold wantedA
    cases hg : o.guard with
    | none => rw [hg] at h; exact ⟨ts, ⟨rfl, fun _ => rfl⟩, .inl ⟨rfl, h⟩⟩
    | some x =>
      obtain ⟨j, want⟩ := x
      rw [hg] at h
      simp only at h ⊢
      cases ht : topAt ops ts j with
      | true => rw [ht] at h; exact h.elim
      | false =>
        rw [ht] at h
        simp only at h ⊢
        cases hy : yieldedL ops ts j with
        | none => rw [hy] at h; exact ⟨ts, ⟨rfl, fun _ => rfl⟩, .inr ⟨by cases want <;> rfl, h⟩⟩
        | some t =>
          rw [hy] at h
          cases want <;> cases t <;> first | exact ⟨_, setTs_eq hy, .inl ⟨rfl, h⟩⟩ | exact ⟨_, setTs_eq hy, .inr ⟨rfl, h⟩⟩
  obtain ⟨ts', h1, h2⟩ := key
  refine ⟨ts', h1, ?_⟩
  rw [wantedA_congr h1]; exact h2
theorem holds_ts {D : Bool} {ops : Array Oper} {k : Nat} {todo : List Oper} {s : St} {ts' : Tm} {r : Res} (h : TsEq s.ts ts') (hh : Holds P G B (.ops D ops k todo { s with ts := ts' }) r) : Holds P G B (.ops D ops k todo s) r := by
  cases r with
  | en _ _ _ => exact hh.elim
  | ex e s2 =>
    intro h1 h2 c0 rest F a cs w hs
    exact hh h1 h2 c0 rest F a cs w ⟨hs.1, ⟨by rw [h.1]; exact hs.2.1.1, fun i => by rw [h.2]; exact hs.2.1.2 i⟩, hs.2.2⟩
theorem callOf_noVal {o : Oper} {ρ : Operand → Value} {H : Heap} {x : FuncId × List Value} (h : callOf P ρ o.op = some x) : aOp P o ρ H = none := by
  obtain ⟨dst, op, type, pos, after, guard⟩ := o
  simp only at h
  unfold callOf at h
  split at h
  · rfl
  · cases h

theorem appOf_op {W : Bool} {o : Oper} {ts : Tm} {H : Heap} {ats : Array TypeId} {as : List Operand} {x : Value × Heap} (h : appOf W o.op = some (ats, as)) (ha : aAppend P H ats (as.map (aev ts)) = some x) : aOp P o (aev ts) H = some x := by
  obtain ⟨dst, op, type, pos, after, guard⟩ := o
  simp only at h
  unfold appOf at h
  split at h
  · simp only [Option.some.injEq, Prod.mk.injEq] at h
    obtain ⟨h1, h2⟩ := h
    subst h1; subst h2
    simp only [aOp, aOpK, aBuiltin, ha]
  · cases h
theorem holds_alias {D : Bool} {ops : Array Oper} {k : Nat} {todo : List Oper} {s : St} {o : Oper} {b : Nat} {r : Res}
    (h : Holds P G B (.ops D ops k todo { put s o (.slice (some ⟨s.h.next, 0, none⟩) 0 0) with h := s.h.pushO none }) r) : Holds P G B (.ops D ops k todo { put s o (.slice (some ⟨b, 0, none⟩) 0 0) with h := s.h }) r := by
  cases r with
  | en _ _ _ => exact h.elim
  | ex e s2 =>
    intro h1 h2 c0 rest F a cs w hs
    obtain ⟨R, T, q3, q4⟩ := hs
    let F' : Nm := fun n => if n = s.h.next then F b else F n
    have hfr : F s.h.next = none := R.fresh _ (Nat.le_refl _)
    have hle : Nm.le F F' := by
      intro n x hx
      show (if n = s.h.next then F b else F n) = some x
      by_cases e : n = s.h.next
      · subst e; rw [hfr] at hx; cases hx
      · rw [if_neg e]; exact hx
    have hne : ∀ n, n ≠ s.h.next → F' n = F n := fun n e => if_neg e
    have R' : Rel G F' (s.h.pushO none) B w := by
      have hget : ∀ n o, (s.h.pushO none).get n = some o → n ≠ s.h.next ∧ s.h.get n = some o := by
        intro n o hn
        have : (s.h.pushO none).get n = if n = s.h.next then none else s.h.get n := Tr.get_set _ _ _ _
        rw [this] at hn
        by_cases e : n = s.h.next
        · rw [if_pos e] at hn; cases hn
        · rw [if_neg e] at hn; exact ⟨e, hn⟩
      constructor
      · intro n o hn
        obtain ⟨g1, g2⟩ := hget n o hn
        have := R.obj n o g2
        cases o with
        | cells vs elem sz lo ow =>
          obtain ⟨b', d, o', c, fz, p1, p2, p3, p4⟩ := this
          exact ⟨b', d, o', c, fz, hle _ _ p1, p2, VRL.mono hle _ _ p3, p4⟩
      · intro n m o o' hn hm hnm ho
        obtain ⟨g1, g2⟩ := hget n o hn
        obtain ⟨g3, g4⟩ := hget m o' hm
        have := R.inj n m o o' g2 g4 hnm ho
        simp only [blk, hne n g1, hne m g3] at this ⊢; exact this
      · intro n hn
        have hn : s.h.next + 1 ≤ n := hn
        rw [hne n (by omega)]; exact R.fresh n (show s.h.next ≤ n by omega)
      · intro g hg
        exact hle _ _ (R.glob g hg)
      · exact R.base
      · exact R.frame
      · exact R.os
      · exact R.out
      · exact R.tape
    have T' : TR F' (put s o (.slice (some ⟨s.h.next, 0, none⟩) 0 0)).ts a.tmps := by
      unfold put at T ⊢
      cases hd : o.dst with
      | none =>
        rw [hd] at T
        exact ⟨T.1, fun i => VR.mono hle _ _ (T.2 i)⟩
      | some d =>
        rw [hd] at T
        have T1 := T.1
        have T2 := T.2
        simp only [putL, Tm.n_put, Tm.get_put] at T1 T2 ⊢
        refine ⟨by simp only [Tm.n_put]; exact T1, fun i => ?_⟩
        have hi := T2 i
        simp only [Tm.get_put]
        split
        · rename_i hc
          rw [if_pos hc] at hi
          simp only [VR] at hi ⊢
          obtain ⟨a', d', o', g1, g2⟩ := hi
          exact ⟨a', d', o', by show (if s.h.next = s.h.next then F b else F s.h.next) = _; rw [if_pos rfl]; exact g1, g2⟩
        · rename_i hc
          rw [if_neg hc] at hi
          exact VR.mono hle _ _ hi
    have q3' : DsR F' s.ds a.defers := DsR.mono hle q3
    have hs' : SR G B D c0 rest F' { put s o (.slice (some ⟨s.h.next, 0, none⟩) 0 0) with h := s.h.pushO none } a cs w := by
      refine ⟨R', T', q3', ?_⟩
      cases D with
      | false => exact q4
      | true =>
        obtain ⟨m, g1, g2⟩ := q4
        exact ⟨m, g1, MR.mono hle g2⟩
    exact (h h1 h2 c0 rest F' a cs w hs').mono fun _ _ _ _ q => Ends.mono hle q
theorem TR.canon {F : Nm} {ts : Tm} {tmps : Array Value} (h2 : TR F ts tmps) {live : List Nat} : TR F (tmOf ts.n live (live.map ts.get)) tmps := by
  refine ⟨h2.1, fun i => ?_⟩
  rw [tmOf_get, lk_map]
  have hi := h2.2 i
  by_cases hm : i ∈ live
  · rw [if_pos hm]; exact hi
  · rw [if_neg hm]
    simp only
    split
    · trivial
    · rename_i hge
      have : tmps.getD i undef = undef := by
        rw [Array.getD_eq_getD_getElem?, Array.getElem?_eq_none (by rw [h2.1]; exact Nat.le_of_not_lt hge)]; rfl
      rw [this]; exact VR.undef
theorem holds_canon {c : Code} {s : St} {r : Res} {live : List Nat} (hd : s.ds = [])
    (h : Holds P G B (.loop false c ⟨tmOf s.ts.n live (live.map s.ts.get), [], s.h, .run⟩) r) : Holds P G B (.loop false c s) r := by
  cases r with
  | en _ _ _ => exact h.elim
  | ex e s2 =>
    intro c0 rest F a cs w hok' hs
    refine h c0 rest F a cs w hok' ⟨hs.1, hs.2.1.canon, ?_, hs.2.2.2⟩
    have := hs.2.2.1; rw [hd] at this; exact this

theorem beqU_refl : ∀ l : List UInt8, beqU l l = true
  | [] => rfl
  | a :: l => by simp [beqU, beqU_refl l]
mutual
theorem beqV_refl : ∀ v : Value, beqV v v = true
  | .bool b => by simp [beqV]
  | .int k n => by simp [beqV]
  | .float k n => by simp [beqV]
  | .complex k n m => by simp [beqV]
  | .string s => by simp only [beqV]; exact beqU_refl _
  | .pointer a => by simp [beqV]
  | .slice a l c => by simp [beqV]
  | .map a => by simp [beqV]
  | .chan a => by simp [beqV]
  | .func f x y => by simp [beqV, beqA_refl x, beqA_refl y]
  | .nilFunc => rfl
  | .iface t v => by simp [beqV, beqV_refl v]
  | .nilIface => rfl
  | .agg c => by simp [beqV, beqA_refl c]
  | .tuple c => by simp [beqV, beqA_refl c]
theorem beqA_refl : ∀ c : Array Value, beqA c c = true
  | ⟨l⟩ => by simp only [beqA]; exact beqL_refl l
theorem beqL_refl : ∀ l : List Value, beqL l l = true
  | [] => rfl
  | v :: l => by simp [beqL, beqV_refl v, beqL_refl l]
end
theorem wDr_ok {W : How} {ops : List Oper} {h : Heap} : ∀ (todo : List Oper) (ts : Tm) (K : Tm → Prop), allQuiet todo = true → wDr P (real P) W ops todo ts h K →
    ∃ recs ts', drawGo P (fun _ => none) ops todo ts h = some (recs, [], ts') ∧ K ts' ∧ ∀ r ∈ recs, r.eff = false ∧ (r.on = true → quietAt P r h = true)
  | [], ts, K, _, hk => ⟨[], ts, rfl, hk, fun r hr => by cases hr⟩
  | o :: r, ts, K, hq, hk => by
    simp only [allQuiet] at hq
    split at hq
    · rename_i hqk
      rcases wGuard_ok hk with ⟨hw, hk⟩ | ⟨hw, hk⟩
      · obtain ⟨v, H', ho, hk⟩ := wOp_ok hk
        split at hk
        · rename_i hn
          obtain ⟨recs, ts', h1, h2, h3⟩ := wDr_ok r _ _ hq hk
          refine ⟨⟨o, ts, v, true, false⟩ :: recs, ts', ?_, h2, fun r hr => ?_⟩
          · simp only [drawGo, hw, ho, hqk, hn, Bool.and_self, h1]
          · rcases List.mem_cons.1 hr with e | hr
            · subst e
              refine ⟨rfl, fun _ => ?_⟩
              simp only [quietAt, ho, hn, beqV_refl, Bool.and_self]
            · exact h3 r hr
        · exact hk.elim
      · obtain ⟨recs, ts', h1, h2, h3⟩ := wDr_ok r _ _ hq hk
        refine ⟨⟨o, ts, undef, false, false⟩ :: recs, ts', ?_, h2, fun r hr => ?_⟩
        · simp only [drawGo, hw, h1]
        · rcases List.mem_cons.1 hr with e | hr
          · subst e
            exact ⟨rfl, fun e => by cases e⟩
          · exact h3 r hr
    · cases hq
theorem effsF_nil : ∀ (recs : List DRec) (i : Nat), (∀ r ∈ recs, r.eff = false) → effsF recs i = []
  | [], _, _ => rfl
  | r :: l, i, h => by
    simp only [effsF, h r (List.mem_cons_self ..)]
    exact effsF_nil l (i + 1) fun r hr => h r (List.mem_cons_of_mem _ hr)
theorem wDr_draw (hP : okProg P G = true) {W : How} {ops : Array Oper} {s : St} {K : Tm → Prop} (hq : allQuiet ops.toList = true) (hst : statOk ops.toList = true)
    (h : wDr P (real P) W ops.toList ops.toList s.ts s.h K) : ∃ ts', (∀ B, Holds P G B (.draw ops s) (.ex .normal { s with ts := ts' })) ∧ K ts' := by
  obtain ⟨recs, ts', h1, h2, h3⟩ := wDr_ok _ _ _ hq h
  refine ⟨ts', fun B => aDraw_ok (rec := fun _ => none) (fun c r h => by cases h) hP ?_, h2⟩
  have hch : drawOk P ops.toList recs [s.h] = true := by
    simp only [drawOk, hst, effs, effsF_nil recs 0 (fun r hr => (h3 r hr).1), chainOk, Bool.and_self, Bool.true_and]
    rw [List.all_eq_true]
    rintro ⟨r, i⟩ hr
    have hm : r ∈ recs := by
      have := (List.mem_zipIdx hr).2.2
      rw [this]; exact List.getElem_mem _
    have h4 := h3 r hm
    simp only [List.zipIdx_cons, List.zipIdx_nil, List.all_cons, List.all_nil, Bool.and_true, h4.1, Bool.or_false]
    cases hon : r.on with
    | false => simp
    | true => simp [h4.2 hon]
  simp only [aDraw, h1, hch, List.getLastD]
theorem TsEq.aev {ts ts' : Tm} (h : TsEq ts ts') : Abs.aev ts' = Abs.aev ts := by
  funext x; cases x <;> simp only [Abs.aev, h.2]
theorem TsEq.put {ts ts' : Tm} (h : TsEq ts ts') (d : Option Tmp) (v : Value) : TsEq (putL ts d v) (putL ts' d v) := by
  cases d with
  | none => exact h
  | some d =>
    refine ⟨by simp only [putL, Tm.n_put]; exact h.1, fun i => ?_⟩
    simp only [putL, Tm.get_put, h.1, h.2]
theorem TsEq.trans {a b c : Tm} (h : TsEq a b) (h' : TsEq b c) : TsEq a c := ⟨h'.1.trans h.1, fun i => (h'.2 i).trans (h.2 i)⟩
theorem wDrE_ok {W : How} {ops : List Oper} {h : Heap} (hpu : ∀ f S, W.pu f = some S → PureOk P G f S) : ∀ (todo : List Oper) (i : Nat) (es : List Nat) (ts0 ts : Tm) (K : Tm → Prop), TsEq ts0 ts → wDrE P (real P) W ops todo i es ts h K →
    ∃ recs hs ts', K ts' ∧ TsEq (tsOf recs ts0 recs.length) ts' ∧ recs.length = todo.length ∧ hs.length = stg recs recs.length ∧ (∀ x ∈ hs, x = h) ∧
      (∀ j r, recs[j]? = some r → RecOk P (fun c r => ∀ B, Holds P G B c r) ops todo ts0 (h :: hs) recs j r) ∧ (∀ r ∈ recs, r.on = true → r.eff = false → quietAt P r h = true) ∧ chainOk (masks ops) (es.reverse ++ effsF recs i) = true
  | [], i, es, ts0, ts, K, ht, hk => by
    unfold wDrE at hk
    split at hk
    · rename_i hc
      exact ⟨[], [], ts, hk, ht, rfl, rfl, (fun x hx => by cases hx), (fun j r hr => by simp at hr), (fun r hr => by cases hr), by simpa [effsF] using hc⟩
    · exact hk.elim
  | o :: todo, i, es, ts0, ts, K, ht, hk => by
    unfold wDrE at hk
    obtain ⟨ts1, ht1, hk⟩ := wGuardS_ok hk
    have ht2 := ht.trans ht1
    have fin : ∀ (v : Value) (on eff : Bool) (hs0 : List Heap) (es2 : List Nat), (if eff then es2 = i :: es ∧ hs0 = [h] else es2 = es ∧ hs0 = []) →
        wantedA o ops ts0 = some on → (on = false → v = undef ∧ eff = false) → (on = true → eff = false → quietKind o.op = true) → (on = true → eff = false → quietAt P ⟨o, ts0, v, on, eff⟩ h = true) →
        (eff = true → on = true ∧ ∃ g args u, callOf P (aev ts0) o.op = some (g, args) ∧ ∀ B, Holds P G B (.call g args h) (.en (.returned v) u h)) →
        wDrE P (real P) W ops todo (i + 1) es2 (putL ts1 o.dst v) h K →
        ∃ recs hs ts', K ts' ∧ TsEq (tsOf recs ts0 recs.length) ts' ∧ recs.length = (o :: todo).length ∧ hs.length = stg recs recs.length ∧ (∀ x ∈ hs, x = h) ∧
          (∀ j r, recs[j]? = some r → RecOk P (fun c r => ∀ B, Holds P G B c r) ops (o :: todo) ts0 (h :: hs) recs j r) ∧ (∀ r ∈ recs, r.on = true → r.eff = false → quietAt P r h = true) ∧ chainOk (masks ops) (es.reverse ++ effsF recs i) = true := by
      intro v on eff hs0 es2 he hw hoff hq hqa hef hk
      obtain ⟨recs, hs, ts', k1, k2, k3, k4, k5, k6, k7, k8⟩ := wDrE_ok hpu todo (i + 1) es2 (putL ts0 o.dst v) _ K (ht2.put o.dst v) hk
      refine ⟨⟨o, ts0, v, on, eff⟩ :: recs, hs0 ++ hs, ts', k1, k2, by simp [k3], ?_, ?_, ?_, ?_, ?_⟩
      · unfold stg at k4 ⊢
        rw [List.length_cons, List.take_succ_cons, List.filter_cons, List.length_append, k4]
        cases eff
        · simp only [Bool.false_eq_true, if_false] at he ⊢; rw [he.2]; simp
        · simp only [if_true] at he ⊢; rw [he.2]; simp; omega
      · intro x hx
        rcases List.mem_append.1 hx with hx | hx
        · cases eff
          · simp only [Bool.false_eq_true, if_false] at he; rw [he.2] at hx; cases hx
          · simp only [if_true] at he; rw [he.2] at hx; exact List.mem_singleton.1 hx
        · exact k5 x hx
      · refine RecOk.cons (hs1 := h :: hs) (r0 := ⟨o, ts0, v, on, eff⟩) ⟨by simp, rfl, hw, hoff, hq, fun e => ?_⟩ (fun k => ?_) k6
        · simp only at e
          obtain ⟨g1, g, args, u, g2, g3⟩ := hef e
          subst e
          simp only [if_true] at he
          refine ⟨g1, h, h, by simp [stg], by rw [he.2]; simp [stg], .inr ⟨g, args, u, g2, g3⟩⟩
        · cases eff
          · simp only [Bool.false_eq_true, if_false] at he ⊢; rw [he.2, Nat.zero_add]; rfl
          · simp only [if_true] at he ⊢; rw [he.2, Nat.add_comm]; rfl
      · intro r hr h1 h2
        rcases List.mem_cons.1 hr with e | hr
        · subst e; exact hqa h1 h2
        · exact k7 r hr h1 h2
      · simp only [effsF]
        cases eff
        · simp only [Bool.false_eq_true, if_false] at he; rw [he.1] at k8; exact k8
        · simp only [if_true] at he; rw [he.1] at k8; simpa using k8
    have e1 := ht2.aev
    rcases hk with ⟨hw, hk⟩ | ⟨hw, hk⟩
    · rw [wantedA_congr ht2] at hw
      split at hk
      · obtain ⟨⟨g, args⟩, hc, hk⟩ := opt_elim hk
        obtain ⟨S, hS, hk⟩ := opt_elim hk
        obtain ⟨v, h1, h2⟩ := hpu _ _ hS _ _ _ hk
        rw [e1] at hc
        exact fin v true true [h] (i :: es) (by simp) hw (fun h => by cases h) (fun _ h => by cases h) (fun _ h => by cases h) (fun _ => ⟨rfl, g, args, .run, hc, h1⟩) h2
      · split at hk
        · rename_i hqk
          obtain ⟨v, H', ho, hk⟩ := wOp_ok hk
          split at hk
          · rename_i hn
            rw [e1] at ho
            refine fin v true false [] es (by simp) hw (fun h => by cases h) (fun _ _ => hqk) (fun _ _ => ?_) (fun h => by cases h) hk
            simp only [quietAt, ho, hn, beqV_refl, Bool.and_self]
          · exact hk.elim
        · exact hk.elim
    · rw [wantedA_congr ht2] at hw
      exact fin undef false false [] es (by simp) hw (fun _ => ⟨rfl, rfl⟩) (fun h => by cases h) (fun h => by cases h) (fun h => by cases h) hk
theorem wDrE_draw (hP : okProg P G = true) {W : How} (hpu : ∀ f S, W.pu f = some S → PureOk P G f S) {ops : Array Oper} {s : St} {K : Tm → Prop} (hst : statOk ops.toList = true)
    (h : wDrE P (real P) W ops.toList ops.toList 0 [] s.ts s.h K) : ∃ ts', (∀ B, Holds P G B (.draw ops s) (.ex .normal { s with ts := ts' })) ∧ K ts' := by
  obtain ⟨recs, hs, ts', k1, k2, k3, k4, k5, k6, k7, k8⟩ := wDrE_ok hpu _ _ _ _ _ _ ⟨rfl, fun _ => rfl⟩ h
  refine ⟨ts', fun B => ?_, k1⟩
  have hchk : drawOk P ops.toList recs (s.h :: hs) = true := by
    simp only [drawOk, hst, Bool.true_and, Bool.and_eq_true]
    refine ⟨by simpa [effs] using k8, ?_⟩
    rw [List.all_eq_true]
    rintro ⟨r, i⟩ hr
    have hm : r ∈ recs := by
      have := (List.mem_zipIdx hr).2.2
      rw [this]; exact List.getElem_mem _
    cases hon : r.on with
    | false => simp [hon]
    | true =>
      cases hef : r.eff with
      | true => simp [hef]
      | false =>
        simp only [hon, hef, Bool.not_true, Bool.or_false, Bool.false_or]
        rw [List.all_eq_true]
        rintro ⟨H, k⟩ hH
        have hmH : H ∈ s.h :: hs := by
          have := (List.mem_zipIdx hH).2.2
          rw [this]; exact List.getElem_mem _
        have hHe : H = s.h := by
          rcases List.mem_cons.1 hmH with e | hx
          · exact e
          · exact k5 H hx
        simp [hHe, k7 r hm hon hef]
  have hd := draw_ok (w0 := B) (S := fun c r => ∀ B, Holds P G B c r) (fun c r h => h B) hP (s := s) (ts' := tsOf recs s.ts recs.length) ⟨k3, rfl, k4, k6⟩ hchk (ts2 := ts') (fun F tm h => ⟨by rw [k2.1]; exact h.1, fun i => by rw [k2.2]; exact h.2 i⟩)
  have hlast : hs.getLastD s.h = s.h := by
    cases hs with
    | nil => rfl
    | cons x l =>
      rw [List.getLastD_cons]
      have : ∀ (l : List Heap) (x : Heap), (∀ y ∈ x :: l, y = s.h) → l.getLastD x = s.h := by
        intro l
        induction l with
        | nil => intro x hx; exact hx x (List.mem_singleton.2 rfl)
        | cons y l ih => intro x hx; rw [List.getLastD_cons]; exact ih y fun z hz => hx z (List.mem_cons_of_mem _ hz)
      exact this l x k5
  rw [hlast] at hd
  exact hd
def noBase : Base := ⟨default, fun _ => False, fun _ h => h.elim⟩
theorem wpe_ok (hP : okProg P G = true) {W : How} (hkn : KnOk P G W) (hlp : LpOk P G W) : ∀ n c Q, wpe P (real P) W n c Q → ∃ r, (∀ B, Holds P G B c r) ∧ Q r
  | 0, c, Q, h => h.elim
  | n + 1, c, Q, h => by
    have ih := fun c Q => wpe_ok hP hkn hlp n c Q
    replace h : wStep P (real P) W (wpe P (real P) W n) Q c := h
    cases c with
    | code D c s =>
      replace h : wCode P (real P) W c D s (wpe P (real P) W n) Q := h
      cases c with
      | skip => exact ⟨_, fun _ => h_skip, h⟩
      | label l => exact ⟨_, fun _ => h_label, h⟩
      | ret => exact ⟨_, fun _ => h_ret, h⟩
      | exit id => exact ⟨_, fun _ => h_exit, h⟩
      | seq a b =>
        obtain ⟨r, h1, h2⟩ := ih _ _ h
        cases r with
        | en _ _ _ => exact (h1 noBase).elim
        | ex e s1 =>
          by_cases he : e = .normal
          · subst he
            obtain ⟨r2, h3, h4⟩ := ih _ _ h2
            exact ⟨r2, fun B => h_seq (h1 B) (h3 B), h4⟩
          · refine ⟨_, fun B => h_seq' hP (h1 B) (fun s' e => he (by simp only [Res.ex.injEq] at e; exact e.1)), ?_⟩
            cases e <;> first | exact absurd rfl he | exact h2
      | cond c a b =>
        simp only [wCode] at h
        split at h
        · rename_i t ht
          have h := branch_elim h
          cases t
          · obtain ⟨r, h1, h2⟩ := ih _ _ h; exact ⟨r, fun B => h_cond hP ht (h1 B), h2⟩
          · obtain ⟨r, h1, h2⟩ := ih _ _ h; exact ⟨r, fun B => h_cond hP ht (h1 B), h2⟩
        · exact h.elim
      | block id c =>
        obtain ⟨r, h1, h2⟩ := ih _ _ h
        refine ⟨_, fun B => h_block hP (h1 B), ?_⟩
        cases r with
        | en _ _ _ => exact (h1 noBase).elim
        | ex e s1 =>
          cases e <;> first | exact h2 | skip
          rename_i i
          simp only [wBlock, blkRes] at h2 ⊢
          split at h2 <;> simp_all
      | loop c =>
        simp only [wCode] at h
        split at h
        · obtain ⟨r, h1, h2⟩ := ih _ _ h; exact ⟨r, fun B => h_loop hP (h1 B), h2⟩
        · rename_i live S hS
          split at h
          · rename_i hds
            obtain ⟨r, h1, h2⟩ := hlp _ _ _ hS _ _ _ _ _ h
            exact ⟨r, fun B => h_loop hP (holds_canon hds (h1 B)), h2⟩
          · exact h.elim
      | scope c =>
        obtain ⟨r, h1, h2⟩ := ih _ _ h
        cases r with
        | en _ _ _ => exact (h1 noBase).elim
        | ex e s1 =>
          by_cases hg : ∃ l, e = .goto l
          · obtain ⟨l, e⟩ := hg; subst e; exact h2.elim
          · refine ⟨_, fun B => h_scope hP (h1 B) (fun l s' e => hg ⟨l, by simp only [Res.ex.injEq] at e; exact e.1⟩), ?_⟩
            cases e <;> first | exact h2 | exact absurd ⟨_, rfl⟩ hg
      | region id ops d =>
        cases d with
        | false => obtain ⟨r, h1, h2⟩ := ih _ _ h; exact ⟨r, fun B => h_region hP (h1 B), h2⟩
        | true =>
          simp only [wCode] at h
          split at h
          · rename_i hc
            split at h
            · rename_i hq
              obtain ⟨ts', h1, h2⟩ := wDr_draw hP hq hc h
              exact ⟨_, fun B => h_region' hP (h1 B), h2⟩
            · obtain ⟨ts', h1, h2⟩ := wDrE_draw hP hkn.2 hc h
              exact ⟨_, fun B => h_region' hP (h1 B), h2⟩
          · exact h.elim
      | rangeFunc f p x y => exact h.elim
      | goto l => exact h.elim
      | refuse y => exact h.elim
    | loop D c s =>
      obtain ⟨r, h1, h2⟩ := ih _ _ h
      cases r with
      | en _ _ _ => exact (h1 noBase).elim
      | ex e s1 =>
        by_cases he : e = .normal
        · subst he
          obtain ⟨r2, h3, h4⟩ := ih _ _ h2
          exact ⟨r2, fun B => h_loopN (h1 B) (h3 B), h4⟩
        · refine ⟨_, fun B => h_loopX (h1 B) (fun s' e => he (by simp only [Res.ex.injEq] at e; exact e.1)), ?_⟩
          cases e <;> first | exact absurd rfl he | exact h2
    | ops D ops k todo s =>
      cases todo with
      | nil => exact ⟨_, fun _ => h_ops0, h⟩
      | cons o r =>
        simp only [wStep, wOps] at h
        obtain ⟨ts', hts, h⟩ := wGuardS_ok h
        rcases h with ⟨hw, h⟩ | ⟨hw, h⟩
        · split at h
          · obtain ⟨⟨g, args⟩, hc, h⟩ := opt_elim h
            obtain ⟨r1, h1, h2⟩ := ih _ _ h
            cases r1 with
            | ex _ _ => exact (h1 noBase).elim
            | en e u h' =>
              cases e with
              | returned v =>
                obtain ⟨r2, h3, h4⟩ := ih _ _ h2
                exact ⟨r2, fun B => holds_ts hts (h_opsCall (s := { s with ts := ts' }) hP hw (callOf_noVal hc) hc (h1 B) (h3 B)), h4⟩
              | panicked _ => exact h2.elim
              | outgrown => exact h2.elim
          · split at h
            · rename_i ats as hap
              obtain ⟨v, H', n, o', ha, h, hor⟩ := wAppU_ok h
              have ho := appOf_op (ts := ts') hap ha
              obtain ⟨r2, h3, h4⟩ := ih _ _ h
              refine ⟨r2, fun B => holds_ts hts (h_opsVal (s := { s with ts := ts' }) hP hw ho ?_), h4⟩
              rcases hor with ⟨e1, e2⟩ | ⟨e1, e2, e3, b, e4⟩
              · subst e1; subst e2; exact h3 B
              · subst e1; subst e2; subst e3; subst e4
                exact holds_alias (h3 B)
            · obtain ⟨v, H', ho, h⟩ := wOp_ok h
              obtain ⟨r2, h3, h4⟩ := ih _ _ h
              exact ⟨r2, fun B => holds_ts hts (h_opsVal (s := { s with ts := ts' }) hP hw ho (h3 B)), h4⟩
        · obtain ⟨r2, h3, h4⟩ := ih _ _ h
          exact ⟨r2, fun B => holds_ts hts (h_opsSkip (s := { s with ts := ts' }) hP hw (h3 B)), h4⟩
    | draw _ _ => exact h.elim
    | call f args hh =>
      simp only [wStep] at h
      split at h
      · rename_i S hS
        obtain ⟨v, H', h1, h2⟩ := hkn.1 _ _ hS _ _ _ h
        exact ⟨.en (.returned v) .run H', h1, h2⟩
      · split at h
        · rename_i S hS
          obtain ⟨v, h1, h2⟩ := hkn.2 _ _ hS _ _ _ h
          exact ⟨.en (.returned v) .run _, h1, h2⟩
        obtain ⟨fn, hf, h⟩ := opt_elim h
        obtain ⟨c, hc, h⟩ := opt_elim h
        obtain ⟨r, h1, h2⟩ := ih _ _ h
        cases r with
        | en _ _ _ => exact (h1 noBase).elim
        | ex e s1 =>
          have go : (e = .normal ∨ e = .ret) → wLeft P fn Q s1 → ∃ r, (∀ B, Holds P G B (.call f args hh) r) ∧ Q r := by
            intro he hl
            unfold wLeft at hl
            split at hl
            · rename_i hds
              obtain ⟨v, hv, hq⟩ := opt_elim hl
              refine ⟨_, fun B => h_call hP hf hc he (h1 B) ?_, hq⟩
              rw [hds]; exact h_leaves hv
            · exact hl.elim
          cases e <;> first | exact go (.inl rfl) h2 | exact go (.inr rfl) h2 | exact h2.elim
    | callD _ _ _ _ => exact h.elim
    | leaves _ _ _ _ _ => exact h.elim

/-! ### Ends of a run, told of lists of objects -/
def retQ (G : Nat) (K : Value → List (Option AObj) → Prop) : Res → Prop
  | .en (.returned v) _ h => match Nat.ble G h.next with
    | true => K v (objsOf G h)
    | false => False
  | _ => False
theorem Rel.part {F : Nm} {H H2 : Heap} {w : World} (R : Rel G F H B w) (h : ∀ n o, H2.get n = some o → H.get n = some o) (hn : H2.next = H.next) : Rel G F H2 B w :=
  { obj := fun n o h' => R.obj n o (h n o h'), inj := fun n m o o' h1 h2 => R.inj n m o o' (h n o h1) (h m o' h2), fresh := fun n h' => R.fresh n (by rw [← hn]; exact h'),
    glob := R.glob, base := R.base, frame := R.frame, os := R.os, out := R.out, tape := R.tape }
theorem call_objs {f : FuncId} {args : List Value} {H H' : Heap} {e : Ending} (hle : G ≤ H'.next) (h : CallH P G B f args H e H') : CallH P G B f args H e (hOf G [] (objsOf G H')) := by
  intro F w args' R ha
  refine (h F w args' R ha).mono fun e' w' ⟨F', h1, h2, R'⟩ => ⟨F', h1, h2, R'.part (fun n o hn => ?_) ?_⟩
  · rw [hOf_get] at hn
    split at hn
    · rename_i hr
      rw [objsOf_get] at hn
      split at hn
      · simp only [Option.getD_some] at hn
        rw [← hn]; congr 1; omega
      · cases hn
    · simp only [glTr, Tr.get_lf] at hn; cases hn
  · simp only [hOf, objsOf_len]; omega
theorem call_ok (hP : okProg P G = true) {W : How} (hkn : KnOk P G W) (hlp : LpOk P G W) {n : Nat} {f : FuncId} {args : List Value} {H : Heap} {K : Value → List (Option AObj) → Prop} (h : wpe P (real P) W n (.call f args H) (retQ G K)) :
    ∃ v objs, K v objs ∧ ∀ B, CallH P G B f args H (.returned v) (hOf G [] objs) := by
  obtain ⟨r, h1, h2⟩ := wpe_ok hP hkn hlp n _ _ h
  unfold retQ at h2
  split at h2
  · rename_i v u h'
    split at h2
    · rename_i hle
      exact ⟨v, objsOf G h', h2, fun B => call_objs (Nat.le_of_ble_eq_true hle) (h1 B)⟩
    · exact h2.elim
  · exact h2.elim
/-- What is asked at the end of a round: the slots, the objects. -/
def roundQ (G : Nat) (live live2 : List Nat) (N : Nat) (back : List Value → List (Option AObj) → Prop) (out : Exit → List Value → List (Option AObj) → Prop) : Res → Prop
  | .ex .normal s => match s.ds, Nat.beq s.ts.n N && Nat.ble G s.h.next with
    | [], true => back (live.map s.ts.get) (objsOf G s.h)
    | _, _ => False
  | .ex (.exit id) s => match s.ds, Nat.beq s.ts.n N && Nat.ble G s.h.next with
    | [], true => out (.exit id) (live2.map s.ts.get) (objsOf G s.h)
    | _, _ => False
  | .ex .ret s => match s.ds, Nat.beq s.ts.n N && Nat.ble G s.h.next with
    | [], true => out .ret (live2.map s.ts.get) (objsOf G s.h)
    | _, _ => False
  | _ => False
theorem round_ok {α : Type} {k0 N : Nat} {live live2 : List Nat} {m : α → Nat} {I : α → List Value × List (Option AObj)} {R : α → Exit → List Value → List (Option AObj) → Prop} {a : α} {r : Res}
    {back : List Value → List (Option AObj) → Prop} {out : Exit → List Value → List (Option AObj) → Prop}
    (hb : ∀ vals objs, back vals objs → ∃ a' l, m a' < m a ∧ Names G k0 l (G + objs.length) vals objs (I a').1 (I a').2 ∧ ∀ e v o, R a' e v o → R a e v o)
    (ho : ∀ e vals objs, out e vals objs → ∃ l v o, Names G k0 l (G + objs.length) vals objs v o ∧ R a e v o)
    (h : roundQ G live live2 N back out r) : RoundQ G k0 N live live2 m I R a r := by
  have hnext : ∀ s : St, G ≤ s.h.next → G + (objsOf G s.h).length = s.h.next := fun s h => by rw [objsOf_len]; omega
  unfold roundQ at h
  split at h
  · rename_i s
    split at h
    · rename_i hds hc
      simp only [Bool.and_eq_true] at hc
      have hb' := hb _ _ h
      rw [hnext s (Nat.le_of_ble_eq_true hc.2)] at hb'
      exact ⟨Nat.eq_of_beq_eq_true hc.1, hds, hb'⟩
    · exact h.elim
  · rename_i id s
    split at h
    · rename_i hds hc
      simp only [Bool.and_eq_true] at hc
      have hb' := ho _ _ _ h
      rw [hnext s (Nat.le_of_ble_eq_true hc.2)] at hb'
      exact ⟨rfl, Nat.eq_of_beq_eq_true hc.1, hds, hb'⟩
    · exact h.elim
  · rename_i s
    split at h
    · rename_i hds hc
      simp only [Bool.and_eq_true] at hc
      have hb' := ho _ _ _ h
      rw [hnext s (Nat.le_of_ble_eq_true hc.2)] at hb'
      exact ⟨rfl, Nat.eq_of_beq_eq_true hc.1, hds, hb'⟩
    · exact h.elim
  · exact h.elim
end
end
end Go.Abs
