/- A region that draws its order: one run in the text's order, and what must hold of it that every order come to the same. -/
import Derived.Test.YtfhkbepjppcjmaaGreatDoorB3
namespace Go.Abs
open Go
noncomputable section

/-! ### Are two values the same? -/
def beqU : List UInt8 → List UInt8 → Bool
  | [], [] => true
  | a :: l, b :: l' => Nat.beq a.toNat b.toNat && beqU l l'
  | _, _ => false
theorem beqU_eq : ∀ (a b : List UInt8), beqU a b = true → a = b
  | [], [], _ => rfl
  | [], _ :: _, h => by cases h
  | _ :: _, [], h => by cases h
  | a :: l, b :: l', h => by
    simp only [beqU, Bool.and_eq_true] at h
    rw [UInt8.toNat_inj.1 (Nat.eq_of_beq_eq_true h.1), beqU_eq _ _ h.2]
mutual
def beqV : Value → Value → Bool
  | .bool a, .bool b => a == b
  | .int k n, .int k' n' => decide (k = k') && decide (n = n')
  | .float k n, .float k' n' => decide (k = k') && Nat.beq n n'
  | .complex k n m, .complex k' n' m' => decide (k = k') && Nat.beq n n' && Nat.beq m m'
  | .string s, .string s' => beqU s.data.toList s'.data.toList
  | .pointer a, .pointer b => decide (a = b)
  | .slice a l c, .slice b l' c' => decide (a = b) && Nat.beq l l' && Nat.beq c c'
  | .map a, .map b => decide (a = b)
  | .chan a, .chan b => decide (a = b)
  | .func f x y, .func f' x' y' => decide (f = f') && beqA x x' && beqA y y'
  | .nilFunc, .nilFunc => true
  | .iface t v, .iface t' v' => Nat.beq t t' && beqV v v'
  | .nilIface, .nilIface => true
  | .agg c, .agg c' => beqA c c'
  | .tuple c, .tuple c' => beqA c c'
  | _, _ => false
def beqA : Array Value → Array Value → Bool
  | ⟨l⟩, c => beqL l c.toList
def beqL : List Value → List Value → Bool
  | [], [] => true
  | v :: l, v' :: l' => beqV v v' && beqL l l'
  | _, _ => false
end
mutual
theorem beqV_eq : ∀ (a b : Value), beqV a b = true → a = b
  | .bool a, b, h => by cases b <;> simp_all [beqV]
  | .int k n, b, h => by cases b <;> simp_all [beqV]
  | .float k n, b, h => by cases b <;> simp_all [beqV]
  | .complex k n m, b, h => by cases b <;> simp_all [beqV]
  | .string s, b, h => by
    cases b <;> simp only [beqV, Bool.false_eq_true] at h
    congr 1; apply ByteArray.ext; exact Array.ext' (beqU_eq _ _ h)
  | .pointer a, b, h => by cases b <;> simp_all [beqV]
  | .slice a l c, b, h => by cases b <;> simp_all [beqV]
  | .map a, b, h => by cases b <;> simp_all [beqV]
  | .chan a, b, h => by cases b <;> simp_all [beqV]
  | .func f x y, b, h => by
    cases b <;> simp only [beqV, Bool.and_eq_true, decide_eq_true_eq, Bool.false_eq_true] at h
    obtain ⟨⟨h1, h2⟩, h3⟩ := h
    rw [h1, beqA_eq _ _ h2, beqA_eq _ _ h3]
  | .nilFunc, b, h => by cases b <;> simp_all [beqV]
  | .iface t v, b, h => by
    cases b <;> simp only [beqV, Bool.and_eq_true, Bool.false_eq_true] at h
    rw [Nat.eq_of_beq_eq_true h.1, beqV_eq _ _ h.2]
  | .nilIface, b, h => by cases b <;> simp_all [beqV]
  | .agg c, b, h => by
    cases b <;> simp only [beqV, Bool.false_eq_true] at h
    rw [beqA_eq _ _ h]
  | .tuple c, b, h => by
    cases b <;> simp only [beqV, Bool.false_eq_true] at h
    rw [beqA_eq _ _ h]
theorem beqA_eq : ∀ (a b : Array Value), beqA a b = true → a = b
  | ⟨l⟩, ⟨l'⟩, h => by simp only [beqA] at h; rw [beqL_eq _ _ h]
theorem beqL_eq : ∀ (a b : List Value), beqL a b = true → a = b
  | [], b, h => by cases b <;> simp_all [beqL]
  | v :: l, b, h => by
    cases b with
    | nil => simp [beqL] at h
    | cons v' l' =>
      simp only [beqL, Bool.and_eq_true] at h
      rw [beqV_eq _ _ h.1, beqL_eq _ _ h.2]
end

/-! ### Which operations wait for which -/
def maskOf (acc : List Nat) (o : Oper) : Nat :=
  o.after.toList.foldl (fun s e => match Region.binds .any e with
    | true => (s ||| 2 ^ e.on) ||| acc.getD e.on 0
    | false => s) 0
def masksF : List Oper → List Nat → List Nat
  | [], acc => acc
  | o :: r, acc => masksF r (acc ++ [maskOf acc o])
def masks (ops : List Oper) : List Nat := masksF ops []

theorem two_pow_bit (n j : Nat) : (2 ^ n).testBit j = decide (n = j) := Nat.testBit_two_pow
theorem fold_bit (acc : List Nat) (j : Nat) : ∀ (es : List Edge) (s : Nat),
    (es.foldl (fun s e => match Region.binds .any e with
      | true => (s ||| 2 ^ e.on) ||| acc.getD e.on 0
      | false => s) s).testBit j = true →
    s.testBit j = true ∨ ∃ e ∈ es, Region.binds .any e = true ∧ (j = e.on ∨ (acc.getD e.on 0).testBit j = true)
  | [], s, h => .inl h
  | e :: es, s, h => by
    simp only [List.foldl_cons] at h
    rcases fold_bit acc j es _ h with h | ⟨e', h1, h2⟩
    · cases hb : Region.binds .any e with
      | false => rw [hb] at h; exact .inl h
      | true =>
        rw [hb] at h
        simp only [Nat.testBit_or, Bool.or_eq_true, two_pow_bit, decide_eq_true_eq] at h
        rcases h with (h | h) | h
        · exact .inl h
        · exact .inr ⟨e, List.mem_cons_self .., hb, .inl h.symm⟩
        · exact .inr ⟨e, List.mem_cons_self .., hb, .inr h⟩
    · exact .inr ⟨e', List.mem_cons_of_mem _ h1, h2⟩

theorem masksF_spec : ∀ (l : List Oper) (acc : List Nat) (i : Nat), (masksF l acc)[i]? = if i < acc.length then acc[i]? else (l[i - acc.length]?).map fun o => maskOf ((masksF l acc).take i) o
  | [], acc, i => by
    simp only [masksF]
    split
    · rfl
    · rename_i h; simp; omega
  | o :: r, acc, i => by
    simp only [masksF]
    rw [masksF_spec r (acc ++ [maskOf acc o]) i]
    simp only [List.length_append, List.length_singleton]
    by_cases h : i < acc.length
    · rw [if_pos (by omega), if_pos h, List.getElem?_append_left h]
    · rw [if_neg h]
      by_cases h2 : i = acc.length
      · subst h2
        rw [if_pos (by omega)]
        have hpre : (masksF r (acc ++ [maskOf acc o])).take acc.length = acc := by
          apply List.ext_getElem?
          intro k
          rw [List.getElem?_take]
          split
          · rename_i hk
            rw [masksF_spec r (acc ++ [maskOf acc o]) k, if_pos (by simp; omega), List.getElem?_append_left hk]
          · rename_i hk; rw [List.getElem?_eq_none (by omega)]
        simp [hpre]
      · rw [if_neg (by omega)]
        have e : i - acc.length = (i - (acc.length + 1)) + 1 := by omega
        rw [e, List.getElem?_cons_succ]
  termination_by l => l.length

theorem masks_bit {ops : List Oper} {i j : Nat} (h : ((masks ops).getD i 0).testBit j = true) :
    ∃ o e, ops[i]? = some o ∧ e ∈ o.after ∧ Region.binds .any e = true ∧ (j = e.on ∨ (e.on < i ∧ ((masks ops).getD e.on 0).testBit j = true)) := by
  have hs := masksF_spec ops [] i
  simp only [List.length_nil, Nat.not_lt_zero, if_false, Nat.sub_zero] at hs
  rw [List.getD_eq_getElem?_getD] at h
  unfold masks at h
  rw [hs] at h
  cases ho : ops[i]? with
  | none => rw [ho] at h; simp at h
  | some o =>
    rw [ho] at h
    simp only [Option.map_some, Option.getD_some, maskOf] at h
    rcases fold_bit _ j _ 0 h with h | ⟨e, h1, h2, h3⟩
    · simp at h
    · refine ⟨o, e, rfl, by simpa using h1, h2, ?_⟩
      rcases h3 with h3 | h3
      · exact .inl h3
      · right
        rw [List.getD_eq_getElem?_getD, List.getElem?_take] at h3
        split at h3
        · rename_i hlt
          exact ⟨hlt, by rw [List.getD_eq_getElem?_getD]; exact h3⟩
        · simp at h3

/-- What is listed holds all that it waits for. -/
def Closed (ops : List Oper) (S : Nat → Prop) : Prop := ∀ i o, ops[i]? = some o → S i → ∀ e ∈ o.after, Region.binds .any e = true → S e.on
theorem Closed.masks {ops : List Oper} {S : Nat → Prop} (hc : Closed ops S) : ∀ (i j : Nat), S i → ((masks ops).getD i 0).testBit j = true → S j
  | i, j, hi, h => by
    obtain ⟨o, e, ho, he, hb, h3⟩ := masks_bit h
    have := hc i o ho hi e he hb
    rcases h3 with h3 | ⟨hlt, h3⟩
    · rw [h3]; exact this
    · exact Closed.masks hc e.on j this h3
  termination_by i => i
theorem Closed.ready {ops : List Oper} {S : Nat → Prop} (hc : Closed ops S) {i j : Nat} (hr : ∀ o, ops[i]? = some o → ∀ e ∈ o.after, Region.binds .any e = true → S e.on) (h : ((Abs.masks ops).getD i 0).testBit j = true) : S j := by
  obtain ⟨o, e, ho, he, hb, h3⟩ := masks_bit h
  have := hr o ho e he hb
  rcases h3 with h3 | ⟨_, h3⟩
  · rw [h3]; exact this
  · exact hc.masks e.on j this h3

/-! ### The run in the text's order -/
def putL (ts : Tm) (dst : Option Tmp) (v : Value) : Tm :=
  match dst with
  | some d => ts.put d v
  | none => ts
def yieldedL (ops : List Oper) (ts : Tm) (j : Nat) : Option Bool :=
  match (ops[j]?).bind (·.dst) with
  | some d => asB (ts.get d)
  | none => none
def topAt (ops : List Oper) (ts : Tm) (j : Nat) : Bool := match (ops[j]?).bind (·.dst) with
  | some d => isTop (ts.get d)
  | none => false
/-- Does the operation come up? (Not told where the slot that says so is not known.) -/
def wantedA (o : Oper) (ops : List Oper) (ts : Tm) : Option Bool := match o.guard with
  | none => some true
  | some (j, want) => match topAt ops ts j with
    | true => none
    | false => some (yieldedL ops ts j == some want)
def quietKind : Op → Bool
  | .move _ | .assign _ | .pick .. | .build .. | .load .. | .nilCheck _ | .binOp .. | .unOp .. | .convert .. | .makeInterface .. | .makeFunc .. | .slice .. | .fieldAddr .. | .field .. | .indexAddr .. | .index ..
  | .typeAssert .. | .extract .. | .lookup .. => true
  | .call { callee := .builtin .len, .. } | .call { callee := .builtin .cap, .. } | .call { callee := .builtin .min, .. } | .call { callee := .builtin .max, .. } => true
  | _ => false
structure DRec where
  o : Oper
  ts : Tm
  v : Value
  on : Bool
  eff : Bool
def hasBody (P : Program) (g : FuncId) : Bool := match P.funcs[g]? with
  | some fn => fn.body.isSome
  | none => false
/-- The function of a type's method that takes the value itself. -/
def methodOf (P : Program) (t : TypeId) (name : String) : Option FuncId := match P.info? t with
  | some i => match i.methods.find? (·.name == name) with
    | some m => match m.path.toList, m.func, P.underlying t with
      | [], some (f, true), some (.pointer _) => some f
      | [], some (_, false), some (.pointer _) => none
      | [], some (_, true), some _ => none
      | [], some (f, false), some _ => some f
      | _, _, _ => none
    | none => none
  | none => none
theorem methodOf_run {P : Program} {t : TypeId} {name : String} {f : FuncId} (h : methodOf P t name = some f) (n : Nat) (v : Value) (w : World) : (Go.method (n + 1) t v name).run P w = .ok (f, v) w := by
  unfold methodOf at h
  split at h
  · rename_i i hi
    split at h
    · rename_i m hm
      have hgo : ∀ (pr : Bool) (g : FuncId) (d : TypeDesc), m.path.toList = [] → m.func = some (g, pr) → P.underlying t = some d → (match d, pr with | .pointer _, true => True | .pointer _, false => False | _, true => False | _, false => True) → (Go.method (n + 1) t v name).run P w = .ok (g, v) w := by
        intro pr g d hpath hfn hu hd
        simp only [Go.method, Sem.run_bind, run_typeInfo hi, Result.andThen_ok, hm, hpath, follow, Sem.run_pure, hfn, receiverAt, run_underlying hu]
        cases pr <;> cases d <;> first | exact hd.elim | rfl
      split at h
      · rename_i e1 e2 e3; simp only [Option.some.injEq] at h; subst h; exact hgo _ _ _ e1 e2 e3 trivial
      · cases h
      · cases h
      · rename_i d hne1 e1 e2 e3
        simp only [Option.some.injEq] at h; subst h
        refine hgo _ _ _ e1 e2 e3 ?_
        cases d <;> first | trivial | exact (hne1 _ rfl).elim
      · cases h
    · cases h
  · cases h
/-- A call's target: the function, and all that it is handed. -/
def callOf (P : Program) (ρ : Operand → Value) : Op → Option (FuncId × List Value)
  | .call { callee := .value f, args, .. } => match ρ f with
    | .func (.func g) first captured => match hasBody P g with
      | true => some (g, first.toList ++ args.toList.map ρ ++ captured.toList)
      | false => none
    | _ => none
  | .call { callee := .invoke x name, args, .. } => match ρ x with
    | .iface t v => match methodOf P t name with
      | some g => match hasBody P g with
        | true => some (g, v :: args.toList.map ρ)
        | false => none
      | none => none
    | _ => none
  | _ => none
def drawGo (P : Program) (rec : Cmd → Option Res) (ops : List Oper) : List Oper → Tm → Heap → Option (List DRec × List Heap × Tm)
  | [], ts, _ => some ([], [], ts)
  | o :: r, ts, h =>
    match wantedA o ops ts with
    | none => none
    | some false => match drawGo P rec ops r (putL ts o.dst undef) h with
      | some (l, hs, ts') => some (⟨o, ts, undef, false, false⟩ :: l, hs, ts')
      | none => none
    | some true => match aOp P o (aev ts) h with
      | some (v, h') => match quietKind o.op && Nat.beq h'.next h.next with
        | true => match drawGo P rec ops r (putL ts o.dst v) h with
          | some (l, hs, ts') => some (⟨o, ts, v, true, false⟩ :: l, hs, ts')
          | none => none
        | false => match drawGo P rec ops r (putL ts o.dst v) h' with
          | some (l, hs, ts') => some (⟨o, ts, v, true, true⟩ :: l, h' :: hs, ts')
          | none => none
      | none => match callOf P (aev ts) o.op with
        | none => none
        | some (g, args) => match rec (.call g args h) with
          | some (.en (.returned v) _ h') => match drawGo P rec ops r (putL ts o.dst v) h' with
            | some (l, hs, ts') => some (⟨o, ts, v, true, true⟩ :: l, h' :: hs, ts')
            | none => none
          | _ => none

/-! ### What is asked of it -/
def looks (ops : List Oper) (o : Oper) (d : Tmp) : Bool :=
  o.op.operands.any (fun | .tmp t => Nat.beq t d | _ => false) ||
  (match o.guard with
   | some (g, _) => match (ops[g]?).bind (·.dst) with
     | some t => Nat.beq t d
     | none => false
   | none => false)
def noSelect : Op → Bool
  | .select .. => false
  | _ => true
def statOk (ops : List Oper) : Bool :=
  let ms := masks ops
  let L := ops.zipIdx
  L.all fun (oj, j) => noSelect oj.op && (oj.after.toList.all fun e => !Region.binds .any e || Nat.blt e.on j) &&
    L.all fun (oi, i) => Nat.beq i j || match oi.dst with
      | none => true
      | some d => (match oj.dst with | some d' => !Nat.beq d d' | none => true) && (!looks ops oj d || (match Nat.blt i j with
        | true => (ms.getD j 0).testBit i
        | false => (ms.getD i 0).testBit j))
/-- The effects' places, in their row. -/
def effsF : List DRec → Nat → List Nat
  | [], _ => []
  | r :: l, i => match r.eff with
    | true => i :: effsF l (i + 1)
    | false => effsF l (i + 1)
def effs (recs : List DRec) : List Nat := effsF recs 0
def chainOk (ms : List Nat) : List Nat → Bool
  | a :: b :: r => (ms.getD b 0).testBit a && chainOk ms (b :: r)
  | _ => true
/-- May the operation i come up when so many effects are done? -/
def mayAt (ms : List Nat) (es : List Nat) (i k : Nat) : Bool :=
  es.zipIdx.all fun (e, t) => (!(ms.getD i 0).testBit e || Nat.blt t k) && (!Nat.blt t k || !(ms.getD e 0).testBit i)
def quietAt (P : Program) (r : DRec) (H : Heap) : Bool := match aOp P r.o (aev r.ts) H with
  | some (v, H') => beqV r.v v && Nat.beq H'.next H.next
  | none => false
def drawOk (P : Program) (ops : List Oper) (recs : List DRec) (hs : List Heap) : Bool :=
  let ms := masks ops
  let es := effs recs
  statOk ops && chainOk ms es &&
    recs.zipIdx.all fun (r, i) => !r.on || r.eff || hs.zipIdx.all fun (H, k) => !mayAt ms es i k || quietAt P r H
/-! ### One new variable that may be made ahead of its turn -/
def allBefore (ms es : List Nat) (e u : Nat) : Bool := es.zipIdx.all fun (e', t) => !Nat.blt t u || (ms.getD e 0).testBit e'
def downOk (ms es : List Nat) (i : Nat) : Bool := es.zipIdx.all fun (e, t) => !(ms.getD i 0).testBit e || allBefore ms es i t
/-- What is not ours to write was there at the start. -/
def oldLoose (h0 H : Heap) : Nat → Bool
  | 0 => true
  | n + 1 => (match H.get n with
    | some o => o.own || (match h0.get n with
      | some _ => true
      | none => false)
    | none => true) && oldLoose h0 H n
def floatAt (recs : List DRec) (f : Nat) : Bool := match recs[f]? with
  | some r => match r.o.op, r.o.guard, r.o.dst with
    | .alloc _, none, some d => r.on && Nat.blt d r.ts.n
    | _, _, _ => false
  | none => false
def findFloat (ms : List Nat) (recs : List DRec) (es : List Nat) : Nat → List Nat → Option Nat
  | _, [] => none
  | u, e :: r => match floatAt recs e && !allBefore ms es e u with
    | true => some u
    | false => findFloat ms recs es (u + 1) r
def drawOkF (P : Program) (ops : List Oper) (recs : List DRec) (hs : List Heap) (tf : Nat) : Bool :=
  let ms := masks ops
  let es := effs recs
  match es[tf]?, hs[tf]?, hs[0]? with
  | some f, some H, some h0 => statOk ops && (floatAt recs f && ((es.zipIdx.all fun (e, u) => Nat.beq u tf || allBefore ms es e u) && ((recs.zipIdx.all fun (_, i) => Nat.beq i f || downOk ms es i) && (oldLoose h0 H H.next &&
    recs.zipIdx.all fun (r, i) => !r.on || r.eff || hs.zipIdx.all fun (H, k) => !mayAt ms es i k || quietAt P r H))))
  | _, _, _ => false
def aDraw (P : Program) (rec : Cmd → Option Res) (ops : Array Oper) (s : St) : Option St :=
  match drawGo P rec ops.toList ops.toList s.ts s.h with
  | some (recs, hs, ts') => match drawOk P ops.toList recs (s.h :: hs) with
    | true => some { s with ts := ts', h := hs.getLastD s.h }
    | false => match findFloat (masks ops.toList) recs (effs recs) 0 (effs recs) with
      | some tf => match drawOkF P ops.toList recs (s.h :: hs) tf with
        | true => some { s with ts := ts', h := hs.getLastD s.h }
        | false => none
      | none => none
  | none => none
end
end Go.Abs
