/- A region that draws its order: one run in the text's order, and what must hold of it that every order come to the same. -/
import Derived.Test.YtblbaohcelldpaaGreatB3
namespace Go.Abs
open Go
set_option linter.unusedVariables false
noncomputable section
def beqU : List UInt8 → List UInt8 → Bool
  | [], [] => true
  | a :: l, b :: l' => Nat.beq a.toNat b.toNat && beqU l l'
  | _, _ => false
theorem beqU_eq : ∀ (a b : List UInt8), beqU a b = true → a = b
  | [], [], _ => rfl
  | [], _ :: _, h => by cases h
  | _ :: _, [], h => by cases h
  | a :: l, b :: l', h => by
    simp only [beqU, Bool.and_eq_true] at h
    rw [UInt8.toNat_inj.1 (Nat.eq_of_beq_eq_true h.1), beqU_eq _ _ h.2]
mutual
def beqV : Value → Value → Bool
  | .bool a, .bool b => a == b
  | .int k n, .int k' n' => decide (k = k') && decide (n = n')
  | .float k n, .float k' n' => decide (k = k') && Nat.beq n n'
  | .complex k n m, .complex k' n' m' => decide (k = k') && Nat.beq n n' && Nat.beq m m'
  | .string s, .string s' => beqU s.data.toList s'.data.toList
  | .pointer a, .pointer b => decide (a = b)
  | .slice a l c, .slice b l' c' => decide (a = b) && Nat.beq l l' && Nat.beq c c'
  | .map a, .map b => decide (a = b)
  | .chan a, .chan b => decide (a = b)
  | .func f x y, .func f' x' y' => decide (f = f') && beqA x x' && beqA y y'
  | .nilFunc, .nilFunc => true
  | .iface t v, .iface t' v' => Nat.beq t t' && beqV v v'
  | .nilIface, .nilIface => true
  | .agg c, .agg c' => beqA c c'
  | .tuple c, .tuple c' => beqA c c'
  | _, _ => false
def beqA : Array Value → Array Value → Bool
  | ⟨l⟩, c => beqL l c.toList
def beqL : List Value → List Value → Bool
  | [], [] => true
  | v :: l, v' :: l' => beqV v v' && beqL l l'
  | _, _ => false
end
mutual
theorem beqV_eq : ∀ (a b : Value), beqV a b = true → a = b
  | .bool a, b, h => by cases b <;> simp_all [beqV]
  | .int k n, b, h => by cases b <;> simp_all [beqV]
  | .float k n, b, h => by cases b <;> simp_all [beqV]
  | .complex k n m, b, h => by cases b <;> simp_all [beqV]
  | .string s, b, h => by
    cases b <;> simp only [beqV, Bool.false_eq_true] at h
    congr 1; apply ByteArray.ext; exact Array.ext' (beqU_eq _ _ h)
  | .pointer a, b, h => by cases b <;> simp_all [beqV]
  | .slice a l c, b, h => by cases b <;> simp_all [beqV]
  | .map a, b, h => by cases b <;> simp_all [beqV]
  | .chan a, b, h => by cases b <;> simp_all [beqV]
  | .func f x y, b, h => by
    cases b <;> simp only [beqV, Bool.and_eq_true, decide_eq_true_eq, Bool.false_eq_true] at h
    obtain ⟨⟨h1, h2⟩, h3⟩ := h
    rw [h1, beqA_eq _ _ h2, beqA_eq _ _ h3]
  | .nilFunc, b, h => by cases b <;> simp_all [beqV]
  | .iface t v, b, h => by
    cases b <;> simp only [beqV, Bool.and_eq_true, Bool.false_eq_true] at h
    rw [Nat.eq_of_beq_eq_true h.1, beqV_eq _ _ h.2]
  | .nilIface, b, h => by cases b <;> simp_all [beqV]
  | .agg c, b, h => by
    cases b <;> simp only [beqV, Bool.false_eq_true] at h
    rw [beqA_eq _ _ h]
  | .tuple c, b, h => by
    cases b <;> simp only [beqV, Bool.false_eq_true] at h
    rw [beqA_eq _ _ h]
theorem beqA_eq : ∀ (a b : Array Value), beqA a b = true → a = b
  | ⟨l⟩, ⟨l'⟩, h => by simp only [beqA] at h; rw [beqL_eq _ _ h]
theorem beqL_eq : ∀ (a b : List Value), beqL a b = true → a = b
  | [], b, h => by cases b <;> simp_all [beqL]
  | v :: l, b, h => by
    cases b with
    | nil => simp [beqL] at h
    | cons v' l' =>
      simp only [beqL, Bool.and_eq_true] at h
      rw [beqV_eq _ _ h.1, beqL_eq _ _ h.2]
end
def maskOf (acc : List Nat) (o : Oper) : Nat :=
  o.after.toList.foldl (fun s e => match Region.binds .any e with
    | true => (s ||| 2 ^ e.on) ||| acc.getD e.on 0
    | false => s) 0
def masksF : List Oper → List Nat → List Nat
  | [], acc => acc
  | o :: r, acc => masksF r (acc ++ [maskOf acc o])
def masks (ops : List Oper) : List Nat := masksF ops []
theorem two_pow_bit (n j : Nat) : (2 ^ n).testBit j = decide (n = j) := Nat.testBit_two_pow
theorem fold_bit (acc : List Nat) (j : Nat) : ∀ (es : List Edge) (s : Nat),
    (es.foldl (fun s e => match Region.binds .any e with
      | true => (s ||| 2 ^ e.on) ||| acc.getD e.on 0
      | false => s) s).testBit j = true →
    s.testBit j = true ∨ ∃ e ∈ es, Region.binds .any e = true ∧ (j = e.on ∨ (acc.getD e.on 0).testBit j = true)
  | [], s, h => .inl h
  | e :: es, s, h => by
    simp only [List.foldl_cons] at h
    rcases fold_bit acc j es _ h with h | ⟨e', h1, h2⟩
    · cases hb : Region.binds .any e with
      | false => rw [hb] at h; exact .inl h
      | true =>
        rw [hb] at h
        simp only [Nat.testBit_or, Bool.or_eq_true, two_pow_bit, decide_eq_true_eq] at h
        rcases h with (h | h) | h
        · exact .inl h
        · exact .inr ⟨e, List.mem_cons_self .., hb, .inl h.symm⟩
        · exact .inr ⟨e, List.mem_cons_self .., hb, .inr h⟩
    · exact .inr ⟨e', List.mem_cons_of_mem _ h1, h2⟩
theorem masksF_spec : ∀ (l : List Oper) (acc : List Nat) (i : Nat), (masksF l acc)[i]? = if i < acc.length then acc[i]? else (l[i - acc.length]?).map fun o => maskOf ((masksF l acc).take i) o
  | [], acc, i => by
    simp only [masksF]
    split
    · rfl
    · rename_i h; simp; omega
  | o :: r, acc, i => by
    simp only [masksF]
    rw [masksF_spec r (acc ++ [maskOf acc o]) i]
    simp only [List.length_append, List.length_singleton]
    by_cases h : i < acc.length
    · rw [if_pos (by omega), if_pos h, List.getElem?_append_left h]
    · rw [if_neg h]
      by_cases h2 : i = acc.length
      · subst h2
        rw [if_pos (by omega)]
        have hpre : (masksF r (acc ++ [maskOf acc o])).take acc.length = acc := by
          apply List.ext_getElem?
          intro k
          rw [List.getElem?_take]
          split
          · rename_i hk
            rw [masksF_spec r (acc ++ [maskOf acc o]) k, if_pos (by simp; omega), List.getElem?_append_left hk]
          · rename_i hk; rw [List.getElem?_eq_none (by omega)]
        simp [hpre]
      · rw [if_neg (by omega)]
        have e : i - acc.length = (i - (acc.length + 1)) + 1 := by omega
        rw [e, List.getElem?_cons_succ]
  termination_by l => l.length
theorem masks_bit {ops : List Oper} {i j : Nat} (h : ((masks ops).getD i 0).testBit j = true) :
    ∃ o e, ops[i]? = some o ∧ e ∈ o.after ∧ Region.binds .any e = true ∧ (j = e.on ∨ (e.on < i ∧ ((masks ops).getD e.on 0).testBit j = true)) := by
  have hs := masksF_spec ops [] i
  simp only [List.length_nil, Nat.not_lt_zero, if_false, Nat.sub_zero] at hs
  rw [List.getD_eq_getElem?_getD] at h
  unfold masks at h
  rw [hs] at h
  cases ho : ops[i]? with
  | none => rw [ho] at h; simp at h
  | some o =>
    rw [ho] at h
    simp only [Option.map_some, Option.getD_some, maskOf] at h
    rcases fold_bit _ j _ 0 h with h | ⟨e, h1, h2, h3⟩
    · simp at h
    · refine ⟨o, e, rfl, by simpa using h1, h2, ?_⟩
      rcases h3 with h3 | h3
      · exact .inl h3
      · right
        rw [List.getD_eq_getElem?_getD, List.getElem?_take] at h3
        split at h3
        · rename_i hlt
          exact ⟨hlt, by rw [List.getD_eq_getElem?_getD]; exact h3⟩
        · simp at h3
def Closed (ops : List Oper) (S : Nat → Prop) : Prop := ∀ i o, ops[i]? = some o → S i → ∀ e ∈ o.after, Region.binds .any e = true → S e.on
theorem Closed.masks {ops : List Oper} {S : Nat → Prop} (hc : Closed ops S) : ∀ (i j : Nat), S i → ((masks ops).getD i 0).testBit j = true → S j
  | i, j, hi, h => by
    obtain ⟨o, e, ho, he, hb, h3⟩ := masks_bit h
    have := hc i o ho hi e he hb
    rcases h3 with h3 | ⟨hlt, h3⟩
    · rw [h3]; exact this
    · exact Closed.masks hc e.on j this h3
  termination_by i => i
theorem Closed.ready {ops : List Oper} {S : Nat → Prop} (hc : Closed ops S) {i j : Nat} (hr : ∀ o, ops[i]? = some o → ∀ e ∈ o.after, Region.binds .any e = true → S e.on) (h : ((Abs.masks ops).getD i 0).testBit j = true) : S j := by
  obtain ⟨o, e, ho, he, hb, h3⟩ := masks_bit h
  have := hr o ho e he hb
  rcases h3 with h3 | ⟨_, h3⟩
  · rw [h3]; exact this
  · exact hc.masks e.on j this h3
def putL (ts : Tm) (dst : Option Tmp) (v : Value) : Tm :=
  match dst with
  | some d => ts.put d v
  | none => ts
def yieldedL (ops : List Oper) (ts : Tm) (j : Nat) : Option Bool :=
  match (ops[j]?).bind (·.dst) with
  | some d => asB (ts.get d)
  | none => none
def topAt (ops : List Oper) (ts : Tm) (j : Nat) : Bool := match (ops[j]?).bind (·.dst) with
  | some d => isTop (ts.get d)
  | none => false
def wantedA (o : Oper) (ops : List Oper) (ts : Tm) : Option Bool := match o.guard with
  | none => some true
  | some (j, want) => match topAt ops ts j with
    | true => none
    | false => some (yieldedL ops ts j == some want)
def quietKind : Op → Bool
  | .move _ | .assign _ | .pick .. | .build .. | .load .. | .nilCheck _ | .binOp .. | .unOp .. | .convert .. | .makeInterface .. | .makeFunc .. | .slice .. | .fieldAddr .. | .field .. | .indexAddr .. | .index ..
  | .typeAssert .. | .extract .. | .lookup .. => true
  | .call { callee := .builtin .len, .. } | .call { callee := .builtin .cap, .. } | .call { callee := .builtin .min, .. } | .call { callee := .builtin .max, .. } => true
  | _ => false
structure DRec where
  o : Oper
  ts : Tm
  v : Value
  on : Bool
  eff : Bool
def hasBody (P : Program) (g : FuncId) : Bool := match P.funcs[g]? with
  | some fn => fn.body.isSome
  | none => false
def methodOf (P : Program) (t : TypeId) (name : String) : Option FuncId := match P.info? t with
  | some i => match i.methods.find? (·.name == name) with
    | some m => match m.path.toList, m.func, P.underlying t with
      | [], some (f, true), some (.pointer _) => some f
      | [], some (_, false), some (.pointer _) => none
      | [], some (_, true), some _ => none
      | [], some (f, false), some _ => some f
      | _, _, _ => none
    | none => none
  | none => none
theorem methodOf_run {P : Program} {t : TypeId} {name : String} {f : FuncId} (h : methodOf P t name = some f) (n : Nat) (v : Value) (w : World) : (Go.method (n + 1) t v name).run P w = .ok (f, v) w := by
  unfold methodOf at h
  split at h
  · rename_i i hi
    split at h
    · rename_i m hm
      have hgo : ∀ (pr : Bool) (g : FuncId) (d : TypeDesc), m.path.toList = [] → m.func = some (g, pr) → P.underlying t = some d → (match d, pr with | .pointer _, true => True | .pointer _, false => False | _, true => False | _, false => True) → (Go.method (n + 1) t v name).run P w = .ok (g, v) w := by
        intro pr g d hpath hfn hu hd
        simp only [Go.method, Sem.run_bind, run_typeInfo hi, Result.andThen_ok, hm, hpath, follow, Sem.run_pure, hfn, receiverAt, run_underlying hu]
        cases pr <;> cases d <;> first | exact hd.elim | rfl
      split at h
      · rename_i e1 e2 e3; simp only [Option.some.injEq] at h; subst h; exact hgo _ _ _ e1 e2 e3 trivial
      · cases h
      · cases h
      · rename_i d hne1 e1 e2 e3
        simp only [Option.some.injEq] at h; subst h
        refine hgo _ _ _ e1 e2 e3 ?_
        cases d <;> first | trivial | exact (hne1 _ rfl).elim
      · cases h
    · cases h
  · cases h
def callOf (P : Program) (ρ : Operand → Value) : Op → Option (FuncId × List Value)
  | .call { callee := .value f, args, .. } => match ρ f with
    | .func (.func g) first captured => match hasBody P g with
      | true => some (g, first.toList ++ args.toList.map ρ ++ captured.toList)
      | false => none
    | _ => none
  | .call { callee := .invoke x name, args, .. } => match ρ x with
    | .iface t v => match isMk t with
      | true => none
      | false => match methodOf P t name with
        | some g => match hasBody P g with
          | true => some (g, v :: args.toList.map ρ)
          | false => none
        | none => none
    | _ => none
  | _ => none
def drawGo (P : Program) (rec : Cmd → Option Res) (ops : List Oper) : List Oper → Tm → Heap → Option (List DRec × List Heap × Tm)
  | [], ts, _ => some ([], [], ts)
  | o :: r, ts, h =>
    match wantedA o ops ts with
    | none => none
    | some false => match drawGo P rec ops r (putL ts o.dst undef) h with
      | some (l, hs, ts') => some (⟨o, ts, undef, false, false⟩ :: l, hs, ts')
      | none => none
    | some true => match aOp P o (aev ts) h with
      | some (v, h') => match quietKind o.op && Nat.beq h'.next h.next with
        | true => match drawGo P rec ops r (putL ts o.dst v) h with
          | some (l, hs, ts') => some (⟨o, ts, v, true, false⟩ :: l, hs, ts')
          | none => none
        | false => match drawGo P rec ops r (putL ts o.dst v) h' with
          | some (l, hs, ts') => some (⟨o, ts, v, true, true⟩ :: l, h' :: hs, ts')
          | none => none
      | none => match callOf P (aev ts) o.op with
        | none => none
        | some (g, args) => match rec (.call g args h) with
          | some (.en (.returned v) _ h') => match drawGo P rec ops r (putL ts o.dst v) h' with
            | some (l, hs, ts') => some (⟨o, ts, v, true, true⟩ :: l, h' :: hs, ts')
            | none => none
          | _ => none
def looks (ops : List Oper) (o : Oper) (d : Tmp) : Bool :=
  o.op.operands.any (fun | .tmp t => Nat.beq t d | _ => false) ||
  (match o.guard with
   | some (g, _) => match (ops[g]?).bind (·.dst) with
     | some t => Nat.beq t d
     | none => false
   | none => false)
def noSelect : Op → Bool
  | .select .. => false
  | _ => true
def statOk (ops : List Oper) : Bool :=
  let ms := masks ops
  let L := ops.zipIdx
  L.all fun (oj, j) => noSelect oj.op && (oj.after.toList.all fun e => !Region.binds .any e || Nat.blt e.on j) &&
    L.all fun (oi, i) => Nat.beq i j || match oi.dst with
      | none => true
      | some d => (match oj.dst with | some d' => !Nat.beq d d' | none => true) && (!looks ops oj d || (match Nat.blt i j with
        | true => (ms.getD j 0).testBit i
        | false => (ms.getD i 0).testBit j))
def effsF : List DRec → Nat → List Nat
  | [], _ => []
  | r :: l, i => match r.eff with
    | true => i :: effsF l (i + 1)
    | false => effsF l (i + 1)
def effs (recs : List DRec) : List Nat := effsF recs 0
def chainOk (ms : List Nat) : List Nat → Bool
  | a :: b :: r => (ms.getD b 0).testBit a && chainOk ms (b :: r)
  | _ => true
def mayAt (ms : List Nat) (es : List Nat) (i k : Nat) : Bool :=
  es.zipIdx.all fun (e, t) => (!(ms.getD i 0).testBit e || Nat.blt t k) && (!Nat.blt t k || !(ms.getD e 0).testBit i)
def quietAt (P : Program) (r : DRec) (H : Heap) : Bool := match aOp P r.o (aev r.ts) H with
  | some (v, H') => beqV r.v v && Nat.beq H'.next H.next
  | none => false
def drawOk (P : Program) (ops : List Oper) (recs : List DRec) (hs : List Heap) : Bool :=
  let ms := masks ops
  let es := effs recs
  statOk ops && chainOk ms es &&
    recs.zipIdx.all fun (r, i) => !r.on || r.eff || hs.zipIdx.all fun (H, k) => !mayAt ms es i k || quietAt P r H
def allBefore (ms es : List Nat) (e u : Nat) : Bool := es.zipIdx.all fun (e', t) => !Nat.blt t u || (ms.getD e 0).testBit e'
def downOk (ms es : List Nat) (i : Nat) : Bool := es.zipIdx.all fun (e, t) => !(ms.getD i 0).testBit e || allBefore ms es i t
def oldLoose (h0 H : Heap) : Nat → Bool
  | 0 => true
  | n + 1 => (match H.get n with
    | some o => o.own || (match h0.get n with
      | some _ => true
      | none => false)
    | none => true) && oldLoose h0 H n
def floatAt (recs : List DRec) (f : Nat) : Bool := match recs[f]? with
  | some r => match r.o.op, r.o.guard, r.o.dst with
    | .alloc _, none, some d => r.on && Nat.blt d r.ts.n
    | _, _, _ => false
  | none => false
def findFloat (ms : List Nat) (recs : List DRec) (es : List Nat) : Nat → List Nat → Option Nat
  | _, [] => none
  | u, e :: r => match floatAt recs e && !allBefore ms es e u with
    | true => some u
    | false => findFloat ms recs es (u + 1) r
def drawOkF (P : Program) (ops : List Oper) (recs : List DRec) (hs : List Heap) (tf : Nat) : Bool :=
  let ms := masks ops
  let es := effs recs
  match es[tf]?, hs[tf]?, hs[0]? with
  | some f, some H, some h0 => statOk ops && (floatAt recs f && ((es.zipIdx.all fun (e, u) => Nat.beq u tf || allBefore ms es e u) && ((recs.zipIdx.all fun (_, i) => Nat.beq i f || downOk ms es i) && (oldLoose h0 H H.next &&
    recs.zipIdx.all fun (r, i) => !r.on || r.eff || hs.zipIdx.all fun (H, k) => !mayAt ms es i k || quietAt P r H))))
  | _, _, _ => false
def aDraw (P : Program) (rec : Cmd → Option Res) (ops : Array Oper) (s : St) : Option St :=
  match drawGo P rec ops.toList ops.toList s.ts s.h with
  | some (recs, hs, ts') => match drawOk P ops.toList recs (s.h :: hs) with
    | true => some { s with ts := ts', h := hs.getLastD s.h }
    | false => match findFloat (masks ops.toList) recs (effs recs) 0 (effs recs) with
      | some tf => match drawOkF P ops.toList recs (s.h :: hs) tf with
        | true => some { s with ts := ts', h := hs.getLastD s.h }
        | false => none
      | none => none
  | none => none
end
end Go.Abs
/- One step of the evaluator, and that it keeps its word. -/
namespace Go.Abs
open Go
noncomputable section
abbrev Orc := FuncId → Option (List Value → Heap → Option (Ending × Heap))
def put (s : St) (o : Oper) (v : Value) : St := { s with ts := putL s.ts o.dst v }
def stepOp (P : Program) (rec : Cmd → Option Res) (D : Bool) (ops : Array Oper) (k : Nat) (r : List Oper) (o : Oper) (s : St) : Option Res :=
  match callOf P (aev s.ts) o.op with
  | some (g, args) => match rec (.call g args s.h) with
    | some (.en (.returned v) _ h') => rec (.ops D ops (k + 1) r { put s o v with h := h' })
    | some (.en (.panicked c) _ h') => some (.ex (.panic c) { s with h := h' })
    | _ => none
  | none => match o.op with
    | .defer { callee := .value f, args, .. } => match aev s.ts f with
      | .func fn first cap => rec (.ops D ops (k + 1) r { put s o undef with ds := { target := .fn fn cap, args := first ++ args.map (aev s.ts) } :: s.ds })
      | _ => none
    | .panic x => match aev s.ts x with
      | .iface t v => match isMk t with
        | true => none
        | false => some (.ex (.panic [{ v := .iface t v, recovered := false }]) s)
      | _ => none
    | .call { callee := .builtin .recover, .. } => match D, s.u with
      | true, .panicking ({ v, recovered := false, goexit := false } :: older) => rec (.ops D ops (k + 1) r { put s o v with u := .panicking ({ v, recovered := true } :: older) })
      | true, .returning => rec (.ops D ops (k + 1) r (put s o .nilIface))
      | _, _ => none
    | _ => none
def codeK : Code → Bool → St → (Cmd → Option Res) → Option Res
  | .skip => fun _ s _ => some (.ex .normal s)
  | .label _ => fun _ s _ => some (.ex .normal s)
  | .ret => fun _ s _ => some (.ex .ret s)
  | .exit id => fun _ s _ => some (.ex (.exit id) s)
  | .seq a b => fun D s rec => match rec (.code D a s) with
    | some (.ex .normal s') => rec (.code D b s')
    | r => r
  | .cond c a b => fun D s rec => match aev s.ts c with
    | .bool true => rec (.code D a s)
    | .bool false => rec (.code D b s)
    | _ => none
  | .block id c => fun D s rec => match rec (.code D c s) with
    | some (.ex (.exit id') s') => match Nat.beq id' id with
      | true => some (.ex .normal s')
      | false => some (.ex (.exit id') s')
    | r => r
  | .loop c => fun D s rec => rec (.loop D c s)
  | .scope c => fun D s rec => match rec (.code D c s) with
    | some (.ex (.goto _) _) => none
    | r => r
  | .region _ ops false => fun D s rec => rec (.ops D ops 0 ops.toList s)
  | .region _ ops true => fun D s rec => match D with
    | false => rec (.draw ops s)
    | true => none
  | _ => fun _ _ _ => none
def loopK (D : Bool) (c : Code) (s : St) (rec : Cmd → Option Res) : Option Res :=
  match rec (.code D c s) with
  | some (.ex .normal s') => rec (.loop D c s')
  | r => r
def drawK (ops : Array Oper) (s : St) (P : Program) (rec : Cmd → Option Res) : Option Res :=
  match aDraw P rec ops s with
  | some s' => some (.ex .normal s')
  | none => none
def opsK : List Oper → Bool → Array Oper → Nat → St → Program → (Cmd → Option Res) → Option Res
  | [] => fun _ _ _ s _ _ => some (.ex .normal s)
  | o :: r => fun D ops k s P rec => match wantedA o ops.toList s.ts with
    | none => none
    | some false => rec (.ops D ops (k + 1) r (put s o undef))
    | some true => match aOp P o (aev s.ts) s.h with
      | some (v, h') => rec (.ops D ops (k + 1) r { put s o v with h := h' })
      | none => stepOp P rec D ops k r o s
def asked (orc : Orc) (f : FuncId) (args : List Value) (h : Heap) : Option (Ending × Heap) :=
  match orc f with
  | some g => g args h
  | none => none
def callK (f : FuncId) (args : List Value) (h : Heap) (P : Program) (orc : Orc) (rec : Cmd → Option Res) : Option Res :=
  match asked orc f args h with
  | some (e, h') => some (.en e .run h')
  | none => match P.funcs[f]? with
    | some fn => match fn.body with
      | some c => match rec (.code false c ⟨Tm.of args fn.ntmps, [], h, .run⟩) with
        | some (.ex .normal s') => rec (.leaves fn s'.ts s'.ds .returning s'.h)
        | some (.ex .ret s') => rec (.leaves fn s'.ts s'.ds .returning s'.h)
        | some (.ex (.panic c) s') => rec (.leaves fn s'.ts s'.ds (.panicking c) s'.h)
        | _ => none
      | none => none
    | none => none
def leavesK : List Deferred → Func → Tm → FrameMode → Heap → Program → (Cmd → Option Res) → Option Res
  | [] => fun fn ts u h P _ => match u with
    | .returning => match aResults P fn ts h with
      | some v => some (.en (.returned v) .run h)
      | none => none
    | .panicking c => some (.en (.panicked c) .run h)
    | .run => none
  | d :: ds => fun fn ts u h P rec => match u, d.target with
    | .run, _ => none
    | u, .fn (.func g) cap => match hasBody P g with
      | true => match rec (.callD g (d.args.toList ++ cap.toList) u h) with
        | some (.en (.returned _) u' h') => rec (.leaves fn ts ds (settle u') h')
        | some (.en (.panicked c) u' h') => rec (.leaves fn ts ds (raised u' c) h')
        | _ => none
      | false => none
    | _, _ => none
def callDK (f : FuncId) (args : List Value) (u : FrameMode) (h : Heap) (P : Program) (rec : Cmd → Option Res) : Option Res :=
  match P.funcs[f]? with
  | some fn => match fn.body with
    | some c => match rec (.code true c ⟨Tm.of args fn.ntmps, [], h, u⟩) with
      | some (.ex .normal ⟨ts, [], h', u'⟩) => match aResults P fn ts h' with
        | some v => some (.en (.returned v) u' h')
        | none => none
      | some (.ex .ret ⟨ts, [], h', u'⟩) => match aResults P fn ts h' with
        | some v => some (.en (.returned v) u' h')
        | none => none
      | some (.ex (.panic c) ⟨_, [], h', u'⟩) => some (.en (.panicked c) u' h')
      | _ => none
    | none => none
  | none => none
def stepK : Cmd → Program → Orc → (Cmd → Option Res) → Option Res
  | .code D c s => fun _ _ rec => codeK c D s rec
  | .loop D c s => fun _ _ rec => loopK D c s rec
  | .draw ops s => fun P _ rec => drawK ops s P rec
  | .ops D ops k todo s => fun P _ rec => opsK todo D ops k s P rec
  | .call f args h => fun P orc rec => callK f args h P orc rec
  | .leaves fn ts ds u h => fun P _ rec => leavesK ds fn ts u h P rec
  | .callD f args u h => fun P _ rec => callDK f args u h P rec
def step (P : Program) (orc : Orc) (rec : Cmd → Option Res) (c : Cmd) : Option Res := stepK c P orc rec
def ev (P : Program) (orc : Orc) : Nat → Cmd → Option Res
  | 0 => fun _ => none
  | n + 1 => step P orc (ev P orc n)
section
variable {P : Program} {G : Nat} {w0 : Base}
theorem okProg_func (hP : okProg P G = true) {f : FuncId} {fn : Func} (hf : P.funcs[f]? = some fn) {c : Code} (hb : fn.body = some c) : fn.name ≠ "runtime.NumGoroutine" ∧ okCode G c = true := by
  unfold okProg at hP
  simp only [Bool.and_eq_true] at hP
  have hm : fn ∈ P.funcs := Array.mem_of_getElem? hf
  have := (Array.all_eq_true'.1 hP.2) fn hm
  unfold okFunc at this
  rw [hb] at this
  simp only [Bool.and_eq_true, bne_iff_ne, ne_eq] at this
  exact this
theorem run_callFunc (hP : okProg P G = true) {g : FuncId} (hg : hasBody P g = true) (args : Array Value) (w : World) : (callFunc g args).run P w = .ok (.enter g args) w := by
  unfold hasBody at hg
  split at hg
  · rename_i fn hf
    obtain ⟨c, hc⟩ := Option.isSome_iff_exists.1 hg
    have hn := (okProg_func hP hf hc).1
    simp [callFunc, hf, hn, hc]
  · cases hg
theorem callOf_run (hP : okProg P G = true) {F : Nm} {o : Oper} {ρ ρ' : Operand → Value} (hρ : ∀ x ∈ o.op.operands, VR F (ρ x) (ρ' x)) {g : FuncId} {args : List Value} (h : callOf P ρ o.op = some (g, args)) (w : World) :
    ∃ args' : Array Value, (execOp ρ' o).run P w = .ok (.enter g args') w ∧ VRL F args args'.toList := by
  obtain ⟨dst, op, type, pos, after, guard⟩ := o
  simp only at hρ h
  unfold callOf at h
  split at h
  · rename_i f as ats
    split at h
    · rename_i g' first cap e
      split at h
      · rename_i hb
        simp only [Option.some.injEq, Prod.mk.injEq] at h
        obtain ⟨h1, h2⟩ := h
        subst h1; subst h2
        have hf := hρ f (by simp [Op.operands, Call.operands])
        rw [e] at hf; simp only [VR] at hf
        obtain ⟨f', c', hf1, hf2, e'⟩ := hf
        have hargs : VRL F (as.toList.map ρ) (as.toList.map ρ') :=
          VRL_map _ fun y hy => hρ y (by simp only [Op.operands, Call.operands, Array.mem_append]; exact .inr (by simpa using hy))
        refine ⟨f' ++ as.map ρ' ++ c', ?_, ?_⟩
        · simp only [execOp, resolve, e', Deferred.ofValue, pure_bind, invoke]
          exact run_callFunc hP hb _ w
        · simp only [Array.toList_append, Array.toList_map]
          exact (hf1.toL.append hargs).append hf2.toL
      · cases h
    · cases h
  · rename_i x name as ats
    split at h
    · rename_i t v e
      split at h
      · cases h
      rename_i hmk
      split at h
      · rename_i g' hm
        split at h
        · rename_i hb
          simp only [Option.some.injEq, Prod.mk.injEq] at h
          obtain ⟨h1, h2⟩ := h
          subst h1; subst h2
          have hx := hρ x (by simp [Op.operands, Call.operands])
          rw [e] at hx
          obtain ⟨v', hv, e'⟩ := hx.iface_real hmk
          have hargs : VRL F (as.toList.map ρ) (as.toList.map ρ') :=
            VRL_map _ fun y hy => hρ y (by simp only [Op.operands, Call.operands, Array.mem_append]; exact .inr (by simpa using hy))
          refine ⟨#[v'] ++ as.map ρ', ?_, ?_⟩
          · simp only [execOp, resolve, e', pure_bind, invoke]
            have e1 : (#[Value.iface t v'] ++ as.map ρ')[0]? = some (.iface t v') := by rw [Array.getElem?_append_left (by simp)]; rfl
            have e2 : (#[Value.iface t v'] ++ as.map ρ').extract 1 (#[Value.iface t v'] ++ as.map ρ').size = as.map ρ' := by
              apply Array.ext'; simp; rw [List.take_of_length_le (by simp)]
            simp only [e1, e2, callMethod, Sem.run_bind, run_program, Result.andThen_ok]
            rw [show P.types.size + Made.depth = (P.types.size + 99) + 1 from rfl, methodOf_run hm]
            exact run_callFunc hP hb _ w
          · simp only [Array.toList_append, Array.toList_map, List.cons_append, List.nil_append, VRL]
            exact ⟨v', _, hv, hargs, rfl⟩
        · cases h
      · cases h
    · cases h
  · cases h
theorem putL_ok {F : Nm} {ts : Tm} {a : Act} (ht : TR F ts a.tmps) {v v' : Value} (hv : VR F v v') (dst : Option Tmp) : TR F (putL ts dst v) (a.put dst v').tmps := by
  cases dst with
  | none => exact ht
  | some d => exact ht.put d hv
theorem put_defers (a : Act) (dst : Option Tmp) (v : Value) : (a.put dst v).defers = a.defers := by cases dst <;> rfl
theorem bool_iff {F : Nm} {v v' : Value} (h : VR F v v') (ht : isTop v = false) : asB v' = asB v := by
  cases v <;> (try (rcases h.iface_cases with ⟨_, _, _, e⟩ | ⟨_, ⟨_, _, _, e⟩ | ⟨_, e⟩⟩ <;> subst e <;> rfl; done)) <;> (try (simp only [VR] at h; subst h; rfl; done)) <;> (try (simp only [VR] at h; obtain ⟨_, _, e⟩ := h; subst e; rfl; done))
  · rename_i a; cases a <;> simp only [VR] at h
    · subst h; rfl
    · obtain ⟨_, _, e⟩ := h; subst e; rfl
  · rename_i a _ _; cases a <;> simp only [VR] at h
    · subst h; rfl
    · obtain ⟨_, _, _, _, _, _, e⟩ := h; subst e; rfl
  · rename_i a; cases a <;> simp only [VR] at h
    · subst h; rfl
    · obtain ⟨_, _, _, _, e⟩ := h; subst e; rfl
  · rename_i a; cases a <;> simp only [VR] at h
    · subst h; rfl
    · cases ht
  · simp only [VR] at h; obtain ⟨_, _, _, _, e⟩ := h; subst e; rfl
theorem yielded_eq {F : Nm} {ops : Array Oper} {ts : Tm} {tmps : Array Value} (ht : TR F ts tmps) (j : Nat) (htop : topAt ops.toList ts j = false) : yielded ops tmps j = yieldedL ops.toList ts j := by
  unfold yielded yieldedL
  have e1 : ops[j]? = ops.toList[j]? := by simp
  rw [e1]
  cases hd : ((ops.toList[j]?).bind (·.dst)) with
  | none => rfl
  | some d =>
    simp only [Option.bind_some]
    have h := bool_iff (ht.2 d) (by unfold topAt at htop; rw [hd] at htop; exact htop)
    rw [Array.getD_eq_getD_getElem?] at h
    cases hv : tmps[d]? with
    | none => rw [hv] at h; simp only [Option.getD_none] at h; rw [← h]; rfl
    | some x =>
      rw [hv] at h; simp only [Option.getD_some] at h
      rw [← h]
      cases x <;> rfl
theorem wantedA_ok {F : Nm} {ops : Array Oper} {ts : Tm} {tmps : Array Value} (ht : TR F ts tmps) {o : Oper} {b : Bool} (h : wantedA o ops.toList ts = some b) : Region.wanted o (yielded ops tmps) = b := by
  unfold wantedA at h
  unfold Region.wanted
  cases hg : o.guard with
  | none => rw [hg] at h; simp only [Option.some.injEq] at h; exact h
  | some x =>
    obtain ⟨j, want⟩ := x
    rw [hg] at h
    simp only at h ⊢
    split at h
    · cases h
    · rename_i htop
      simp only [Option.some.injEq] at h
      rw [yielded_eq ht j htop]; exact h
theorem wanted_congr {o : Oper} {y y' : Nat → Option Bool} (h : ∀ j, y j = y' j) : Region.wanted o y = Region.wanted o y' := by
  have : y = y' := funext h
  rw [this]
theorem SR.mono {D : Bool} {c0 : Frame} {rest : List Frame} {F F' : Nm} {s : St} {a : Act} {cs : List Frame} {w : World} (h : SR G w0 D c0 rest F s a cs w) (hle : Nm.le F F') {h' : Heap} {w' : World}
    (R' : Rel G F' h' w0 w') : SR G w0 D c0 rest F' { s with h := h' } a cs w' := by
  obtain ⟨_, h2, h3, h4⟩ := h
  refine ⟨R', h2.mono hle, h3.mono hle, ?_⟩
  cases D with
  | true => obtain ⟨m, e, hm⟩ := h4; exact ⟨m, e, hm.mono hle⟩
  | false => exact h4
theorem SR.put {D : Bool} {c0 : Frame} {rest : List Frame} {F : Nm} {s : St} {a : Act} {cs : List Frame} {w : World} (h : SR G w0 D c0 rest F s a cs w) (o : Oper) {v v' : Value} (hv : VR F v v') :
    SR G w0 D c0 rest F (Abs.put s o v) (a.put o.dst v') cs w := by
  obtain ⟨h1, h2, h3, h4⟩ := h
  exact ⟨h1, putL_ok h2 hv _, by rw [put_defers]; exact h3, h4⟩
theorem Ends.mono {D : Bool} {c0 : Frame} {rest : List Frame} {F F' : Nm} (hle : Nm.le F F') {e : Exit} {s : St} {e' : Exit} {a : Act} {cs : List Frame} {w : World}
    (h : Ends G w0 D c0 rest F' e s e' a cs w) : Ends G w0 D c0 rest F e s e' a cs w := by
  obtain ⟨F2, h1, h2⟩ := h
  exact ⟨F2, Nm.le_trans hle h1, h2⟩
end
end
end Go.Abs
/- The evaluator keeps its word. -/
namespace Go.Abs
open Go
noncomputable section
section
variable {P : Program} {G : Nat} {w0 : Base} {rec : Cmd → Option Res} {orc : Orc}
def OrcOk (P : Program) (G : Nat) (w0 : Base) (orc : Orc) : Prop := ∀ f g args h e h', orc f = some g → g args h = some (e, h') → CallH P G w0 f args h e h'
theorem step_code (hrec : ∀ c r, rec c = some r → Holds P G w0 c r) (hP : okProg P G = true) {D : Bool} {c : Code} {s : St} {r : Res} (h : step P orc rec (.code D c s) = some r) : Holds P G w0 (.code D c s) r := by
  -- what a piece that hands on what its part comes to says
  cases c with
  | skip =>
    replace h : some (Res.ex .normal s) = some r := h
    simp only [Option.some.injEq] at h; subst h
    intro c0 rest F a cs w _ hs
    exact WP.skip ⟨F, Nm.le_refl F, rfl, hs⟩
  | label l =>
    replace h : some (Res.ex .normal s) = some r := h
    simp only [Option.some.injEq] at h; subst h
    intro c0 rest F a cs w _ hs
    exact WP.label ⟨F, Nm.le_refl F, rfl, hs⟩
  | ret =>
    replace h : some (Res.ex .ret s) = some r := h
    simp only [Option.some.injEq] at h; subst h
    intro c0 rest F a cs w _ hs
    exact WP.ret ⟨F, Nm.le_refl F, rfl, hs⟩
  | exit id =>
    replace h : some (Res.ex (.exit id) s) = some r := h
    simp only [Option.some.injEq] at h; subst h
    intro c0 rest F a cs w _ hs
    exact WP.exit ⟨F, Nm.le_refl F, rfl, hs⟩
  | seq x y =>
    simp only [step, stepK, codeK] at h
    split at h
    · rename_i s1 h1
      have H1 := hrec _ _ h1
      have H2 := hrec _ _ h
      cases r with
      | en _ _ _ => exact H2.elim
      | ex e s2 =>
        intro c0 rest F a cs w hok hs
        simp only [okCode, Bool.and_eq_true] at hok
        refine WP.seq ((H1 c0 rest F a cs w hok.1 hs).mono fun e' a' cs' w' ⟨F', hle, he, hs'⟩ => ?_)
        simp only [ER] at he; subst he
        exact (H2 c0 rest F' a' cs' w' hok.2 hs').mono fun _ _ _ _ q => Ends.mono hle q
    · rename_i r1 hne
      have H1 := hrec _ _ h
      cases r with
      | en _ _ _ => exact H1.elim
      | ex e s1 =>
        intro c0 rest F a cs w hok hs
        simp only [okCode, Bool.and_eq_true] at hok
        refine WP.seq ((H1 c0 rest F a cs w hok.1 hs).mono fun e' a' cs' w' ⟨F', hle, he, hs'⟩ => ?_)
        have hne' : e' ≠ .normal := by
          intro hc; subst hc
          cases e <;> simp only [ER] at he <;> first
            | (exact hne s1 h)
            | (exact Exit.noConfusion he)
            | (obtain ⟨_, _, e⟩ := he; exact Exit.noConfusion e)
        cases e' <;> first
          | exact absurd rfl hne'
          | exact ⟨F', hle, he, hs'⟩
  | cond c x y =>
    simp only [step, stepK, codeK] at h
    have hgo : ∀ t : Bool, aev s.ts c = .bool t → rec (.code D (if t then x else y) s) = some r → Holds P G w0 (.code D (.cond c x y) s) r := by
      intro t ht hr
      have H1 := hrec _ _ hr
      cases r with
      | en _ _ _ => exact H1.elim
      | ex e s1 =>
        intro c0 rest F a cs w hok hs
        simp only [okCode, Bool.and_eq_true] at hok
        have hc := aev_ok hs.1 hs.2.1 hok.1.1
        rw [ht] at hc; simp only [VR] at hc
        refine WP.cond hc (H1 c0 rest F a cs w ?_ hs)
        cases t
        · exact hok.2
        · exact hok.1.2
    split at h
    · rename_i e; exact hgo true e h
    · rename_i e; exact hgo false e h
    · cases h
  | block id c =>
    simp only [step, stepK, codeK] at h
    split at h
    · rename_i id' s1 h1
      have H1 := hrec _ _ h1
      split at h
      · rename_i hid
        have hid := Nat.eq_of_beq_eq_true hid
        simp only [Option.some.injEq] at h; subst h; subst hid
        intro c0 rest F a cs w hok hs
        refine WP.block ((H1 c0 rest F a cs w hok hs).mono fun e' a' cs' w' ⟨F', hle, he, hs'⟩ => ?_)
        simp only [ER] at he; subst he
        simp only [outBlock, if_true]
        exact ⟨F', hle, rfl, hs'⟩
      · rename_i hid
        have hid : id' ≠ id := fun e => by rw [e] at hid; simp at hid
        simp only [Option.some.injEq] at h; subst h
        intro c0 rest F a cs w hok hs
        refine WP.block ((H1 c0 rest F a cs w hok hs).mono fun e' a' cs' w' ⟨F', hle, he, hs'⟩ => ?_)
        simp only [ER] at he; subst he
        simp only [outBlock]; rw [if_neg hid]
        exact ⟨F', hle, rfl, hs'⟩
    · rename_i r1 hne
      have H1 := hrec _ _ h
      cases r with
      | en _ _ _ => exact H1.elim
      | ex e s1 =>
        intro c0 rest F a cs w hok hs
        refine WP.block ((H1 c0 rest F a cs w hok hs).mono fun e' a' cs' w' ⟨F', hle, he, hs'⟩ => ?_)
        cases e' with
        | exit id2 =>
          exfalso
          cases e <;> simp only [ER] at he <;> first
            | (exact Exit.noConfusion he)
            | (obtain ⟨_, _, e⟩ := he; exact Exit.noConfusion e)
            | (exact hne _ _ h)
        | _ => exact ⟨F', hle, he, hs'⟩
  | loop c =>
    replace h : rec (.loop D c s) = some r := h
    have H1 := hrec _ _ h
    cases r with
    | en _ _ _ => exact H1.elim
    | ex e s1 =>
      intro c0 rest F a cs w hok hs
      exact WP.loop (H1 c0 rest F a cs w hok hs)
  | scope c =>
    simp only [step, stepK, codeK] at h
    split at h
    · cases h
    · rename_i r1 hne
      have H1 := hrec _ _ h
      cases r with
      | en _ _ _ => exact H1.elim
      | ex e s1 =>
        intro c0 rest F a cs w hok hs
        refine WP.scope ((H1 c0 rest F a cs w hok hs).mono fun e' a' cs' w' ⟨F', hle, he, hs'⟩ => ?_)
        cases e' with
        | goto l =>
          exfalso
          cases e <;> simp only [ER] at he <;> first
            | (exact Exit.noConfusion he)
            | (obtain ⟨_, _, e⟩ := he; exact Exit.noConfusion e)
            | (exact hne _ _ h)
        | _ => exact ⟨F', hle, he, hs'⟩
  | region id ops draw =>
    cases draw with
    | false =>
      replace h : rec (.ops D ops 0 ops.toList s) = some r := h
      have H1 := hrec _ _ h
      cases r with
      | en _ _ _ => exact H1.elim
      | ex e s1 =>
        intro c0 rest F a cs w hok hs
        have := H1 (by simp) hok c0 rest F a cs w hs
        rw [Array.length_toList, ← List.range_eq_range'] at this
        exact WP.region this
    | true =>
      cases D with
      | true => exact absurd (show (none : Option Res) = some r from h) (by simp)
      | false =>
        replace h : rec (.draw ops s) = some r := h
        have H1 := hrec _ _ h
        cases r with
        | en _ _ _ => exact H1.elim
        | ex e s1 =>
          intro c0 rest F a cs w hok hs
          have hm : P.follows .mixedOrders = true := by
            unfold okProg at hP; simp only [Bool.and_eq_true] at hP; exact hP.1
          exact WP.region_draw hm (H1 hok c0 rest F a cs w hs)
  | rangeFunc f p x y => exact absurd (show (none : Option Res) = some r from h) (by simp)
  | goto l => exact absurd (show (none : Option Res) = some r from h) (by simp)
  | refuse y => exact absurd (show (none : Option Res) = some r from h) (by simp)
theorem step_loop' (hrec : ∀ c r, rec c = some r → Holds P G w0 c r) {D : Bool} {c : Code} {s : St} {r : Res} (h : step P orc rec (.loop D c s) = some r) : Holds P G w0 (.loop D c s) r := by
  simp only [step, stepK, loopK] at h
  split at h
  · rename_i s1 h1
    have H1 := hrec _ _ h1
    have H2 := hrec _ _ h
    cases r with
    | en _ _ _ => exact H2.elim
    | ex e s2 =>
      intro c0 rest F a cs w hok hs
      refine WPat.two rfl ((H1 c0 rest F a cs w hok hs).mono fun e' a' cs' w' ⟨F', hle, he, hs'⟩ => ?_)
      simp only [ER] at he; subst he
      exact WPat.inLoop ((H2 c0 rest F' a' cs' w' hok hs').mono fun _ _ _ _ q => Ends.mono hle q)
  · rename_i r1 hne
    have H1 := hrec _ _ h
    cases r with
    | en _ _ _ => exact H1.elim
    | ex e s1 =>
      intro c0 rest F a cs w hok hs
      refine WPat.two rfl ((H1 c0 rest F a cs w hok hs).mono fun e' a' cs' w' ⟨F', hle, he, hs'⟩ => ?_)
      have hne' : e' ≠ .normal := by
        intro hc; subst hc
        cases e <;> simp only [ER] at he <;> first
          | (exact hne s1 h)
          | (exact Exit.noConfusion he)
          | (obtain ⟨_, _, e⟩ := he; exact Exit.noConfusion e)
      cases e' <;> first
        | exact absurd rfl hne'
        | exact ⟨F', hle, he, hs'⟩
end
end
end Go.Abs
