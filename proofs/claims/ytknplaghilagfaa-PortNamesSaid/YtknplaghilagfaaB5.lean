/- One step of the evaluator, and that it keeps its word. -/
import Derived.Test.YtknplaghilagfaaB4
namespace Go.Abs
open Go

abbrev Orc := FuncId → Option (List Value → Heap → Option (Ending × Heap))
def put (s : St) (o : Oper) (v : Value) : St := { s with ts := putL s.ts o.dst v }

/-- The operations that are no values: a call, a deferred one, a panic, a recover. -/
def stepOp (P : Program) (rec : Cmd → Option Res) (D : Bool) (ops : Array Oper) (k : Nat) (r : List Oper) (o : Oper) (s : St) : Option Res :=
  match callOf P (aev s.ts) o.op with
  | some (g, args) => match rec (.call g args s.h) with
    | some (.en (.returned v) _ h') => rec (.ops D ops (k + 1) r { put s o v with h := h' })
    | some (.en (.panicked c) _ h') => some (.ex (.panic c) { s with h := h' })
    | _ => none
  | none => match o.op with
    | .defer { callee := .value f, args, .. } => match aev s.ts f with
      | .func fn first cap => rec (.ops D ops (k + 1) r { put s o undef with ds := { target := .fn fn cap, args := first ++ args.map (aev s.ts) } :: s.ds })
      | _ => none
    | .panic x => match aev s.ts x with
      | .iface t v => some (.ex (.panic [{ v := .iface t v, recovered := false }]) s)
      | _ => none
    | .call { callee := .builtin .recover, .. } => match D, s.u with
      | true, .panicking ({ v, recovered := false, goexit := false } :: older) => rec (.ops D ops (k + 1) r { put s o v with u := .panicking ({ v, recovered := true } :: older) })
      | true, .returning => rec (.ops D ops (k + 1) r (put s o .nilIface))
      | _, _ => none
    | _ => none

def step (P : Program) (orc : Orc) (rec : Cmd → Option Res) : Cmd → Option Res
  | .code D c s => match c with
    | .skip => some (.ex .normal s)
    | .label _ => some (.ex .normal s)
    | .ret => some (.ex .ret s)
    | .exit id => some (.ex (.exit id) s)
    | .seq a b => match rec (.code D a s) with
      | some (.ex .normal s') => rec (.code D b s')
      | r => r
    | .cond c a b => match aev s.ts c with
      | .bool true => rec (.code D a s)
      | .bool false => rec (.code D b s)
      | _ => none
    | .block id c => match rec (.code D c s) with
      | some (.ex (.exit id') s') => match Nat.beq id' id with
        | true => some (.ex .normal s')
        | false => some (.ex (.exit id') s')
      | r => r
    | .loop c => rec (.loop D c s)
    | .scope c => match rec (.code D c s) with
      | some (.ex (.goto _) _) => none
      | r => r
    | .region _ ops false => rec (.ops D ops 0 ops.toList s)
    | .region _ ops true => match D with
      | false => rec (.draw ops s)
      | true => none
    | _ => none
  | .loop D c s => match rec (.code D c s) with
    | some (.ex .normal s') => rec (.loop D c s')
    | r => r
  | .draw ops s => match aDraw P rec ops s with
    | some s' => some (.ex .normal s')
    | none => none
  | .ops D ops k todo s => match todo with
    | [] => some (.ex .normal s)
    | o :: r => match Region.wanted o (yieldedL ops.toList s.ts) with
      | false => rec (.ops D ops (k + 1) r (put s o undef))
      | true => match aOp P o (aev s.ts) s.h with
        | some (v, h') => rec (.ops D ops (k + 1) r { put s o v with h := h' })
        | none => stepOp P rec D ops k r o s
  | .call f args h => match orc f with
    | some g => match g args h with
      | some (e, h') => some (.en e .run h')
      | none => none
    | none => match P.funcs[f]? with
      | some fn => match fn.body with
        | some c => match rec (.code false c ⟨args ++ List.replicate (fn.ntmps - args.length) undef, [], h, .run⟩) with
          | some (.ex .normal s') => rec (.leaves fn s'.ts s'.ds .returning s'.h)
          | some (.ex .ret s') => rec (.leaves fn s'.ts s'.ds .returning s'.h)
          | some (.ex (.panic c) s') => rec (.leaves fn s'.ts s'.ds (.panicking c) s'.h)
          | _ => none
        | none => none
      | none => none
  | .leaves fn ts ds u h => match ds with
    | [] => match u with
      | .returning => match aResults P fn ts h with
        | some v => some (.en (.returned v) .run h)
        | none => none
      | .panicking c => some (.en (.panicked c) .run h)
      | .run => none
    | d :: ds => match u, d.target with
      | .run, _ => none
      | u, .fn (.func g) cap => match hasBody P g with
        | true => match rec (.callD g (d.args.toList ++ cap.toList) u h) with
          | some (.en (.returned _) u' h') => rec (.leaves fn ts ds (settle u') h')
          | some (.en (.panicked c) u' h') => rec (.leaves fn ts ds (raised u' c) h')
          | _ => none
        | false => none
      | _, _ => none
  | .callD f args u h => match P.funcs[f]? with
    | some fn => match fn.body with
      | some c => match rec (.code true c ⟨args ++ List.replicate (fn.ntmps - args.length) undef, [], h, u⟩) with
        | some (.ex .normal ⟨ts, [], h', u'⟩) => match aResults P fn ts h' with
          | some v => some (.en (.returned v) u' h')
          | none => none
        | some (.ex .ret ⟨ts, [], h', u'⟩) => match aResults P fn ts h' with
          | some v => some (.en (.returned v) u' h')
          | none => none
        | some (.ex (.panic c) ⟨_, [], h', u'⟩) => some (.en (.panicked c) u' h')
        | _ => none
      | none => none
    | none => none

def ev (P : Program) (orc : Orc) : Nat → Cmd → Option Res
  | 0 => fun _ => none
  | n + 1 => step P orc (ev P orc n)

/-! ### Calls -/
section
variable {P : Program} {G : Nat} {w0 : World}
theorem okProg_func (hP : okProg P G = true) {f : FuncId} {fn : Func} (hf : P.funcs[f]? = some fn) {c : Code} (hb : fn.body = some c) : fn.name ≠ "runtime.NumGoroutine" ∧ okCode G c = true := by
  unfold okProg at hP
  simp only [Bool.and_eq_true] at hP
  have hm : fn ∈ P.funcs := Array.mem_of_getElem? hf
  have := (Array.all_eq_true'.1 hP.2) fn hm
  unfold okFunc at this
  rw [hb] at this
  simp only [Bool.and_eq_true, bne_iff_ne, ne_eq] at this
  exact this
theorem run_callFunc (hP : okProg P G = true) {g : FuncId} (hg : hasBody P g = true) (args : Array Value) (w : World) : (callFunc g args).run P w = .ok (.enter g args) w := by
  unfold hasBody at hg
  split at hg
  · rename_i fn hf
    obtain ⟨c, hc⟩ := Option.isSome_iff_exists.1 hg
    have hn := (okProg_func hP hf hc).1
    simp [callFunc, hf, hn, hc]
  · cases hg
theorem callOf_run (hP : okProg P G = true) {F : Nm} {o : Oper} {ρ ρ' : Operand → Value} (hρ : ∀ x ∈ o.op.operands, VR F (ρ x) (ρ' x)) {g : FuncId} {args : List Value} (h : callOf P ρ o.op = some (g, args)) (w : World) :
    ∃ args' : Array Value, (execOp ρ' o).run P w = .ok (.enter g args') w ∧ VRL F args args'.toList := by
  obtain ⟨dst, op, type, pos, after, guard⟩ := o
  simp only at hρ h
  unfold callOf at h
  split at h
  · rename_i f as ats
    split at h
    · rename_i g' first cap e
      split at h
      · rename_i hb
        simp only [Option.some.injEq, Prod.mk.injEq] at h
        obtain ⟨h1, h2⟩ := h
        subst h1; subst h2
        have hf := hρ f (by simp [Op.operands, Call.operands])
        rw [e] at hf; simp only [VR] at hf
        obtain ⟨f', c', hf1, hf2, e'⟩ := hf
        have hargs : VRL F (as.toList.map ρ) (as.toList.map ρ') :=
          VRL_map _ fun y hy => hρ y (by simp only [Op.operands, Call.operands, Array.mem_append]; exact .inr (by simpa using hy))
        refine ⟨f' ++ as.map ρ' ++ c', ?_, ?_⟩
        · simp only [execOp, resolve, e', Deferred.ofValue, pure_bind, invoke]
          exact run_callFunc hP hb _ w
        · simp only [Array.toList_append, Array.toList_map]
          exact (hf1.toL.append hargs).append hf2.toL
      · cases h
    · cases h
  · cases h

theorem putL_ok {F : Nm} {ts : List Value} {a : Act} (ht : VRL F ts a.tmps.toList) {v v' : Value} (hv : VR F v v') (dst : Option Tmp) : VRL F (putL ts dst v) (a.put dst v').tmps.toList := by
  cases dst with
  | none => exact ht
  | some d =>
    simp only [putL, Act.put]
    rw [Array.toList_setIfInBounds]
    exact ht.set d hv
theorem put_defers (a : Act) (dst : Option Tmp) (v : Value) : (a.put dst v).defers = a.defers := by cases dst <;> rfl
theorem yielded_eq {F : Nm} {ops : Array Oper} {ts : List Value} {tmps : Array Value} (ht : VRL F ts tmps.toList) (j : Nat) : yielded ops tmps j = yieldedL ops.toList ts j := by
  unfold yielded yieldedL
  have e1 : ops[j]? = ops.toList[j]? := by simp
  rw [e1]
  cases hd : ((ops.toList[j]?).bind (·.dst)) with
  | none => rfl
  | some d =>
    simp only [Option.bind_some]
    cases hv : ts[d]? with
    | none =>
      have h2 : ts.length ≤ d := List.getElem?_eq_none_iff.1 hv
      have hl := ht.length
      have : tmps.size ≤ d := by simp only [Array.length_toList] at hl; omega
      rw [Array.getElem?_eq_none this]
    | some v =>
      obtain ⟨v', h1, h2⟩ := ht.get hv
      have h1' : tmps[d]? = some v' := by simpa using h1
      rw [h1']
      cases v <;> (try (simp only [VR] at h2; subst h2; rfl; done)) <;> (try (simp only [VR] at h2; obtain ⟨_, _, e⟩ := h2; subst e; rfl; done))
      · rename_i a; cases a <;> simp only [VR] at h2
        · subst h2; rfl
        · obtain ⟨_, _, e⟩ := h2; subst e; rfl
      · rename_i a _ _; cases a <;> simp only [VR] at h2
        · subst h2; rfl
        · obtain ⟨_, _, _, _, _, _, e⟩ := h2; subst e; rfl
      · rename_i a; cases a <;> simp only [VR] at h2
        · subst h2; rfl
        · obtain ⟨_, _, _, _, e⟩ := h2; subst e; rfl
      · rename_i a; cases a <;> simp only [VR] at h2
        · subst h2; rfl
      · simp only [VR] at h2; obtain ⟨_, _, _, _, e⟩ := h2; subst e; rfl
theorem wanted_congr {o : Oper} {y y' : Nat → Option Bool} (h : ∀ j, y j = y' j) : Region.wanted o y = Region.wanted o y' := by
  have : y = y' := funext h
  rw [this]

theorem SR.mono {D : Bool} {c0 : Frame} {rest : List Frame} {F F' : Nm} {s : St} {a : Act} {cs : List Frame} {w : World} (h : SR G w0 D c0 rest F s a cs w) (hle : Nm.le F F') {h' : Heap} {w' : World}
    (R' : Rel G F' h' w0 w') : SR G w0 D c0 rest F' { s with h := h' } a cs w' := by
  obtain ⟨_, h2, h3, h4⟩ := h
  refine ⟨R', h2.mono hle, h3.mono hle, ?_⟩
  cases D with
  | true => obtain ⟨m, e, hm⟩ := h4; exact ⟨m, e, hm.mono hle⟩
  | false => exact h4
theorem SR.put {D : Bool} {c0 : Frame} {rest : List Frame} {F : Nm} {s : St} {a : Act} {cs : List Frame} {w : World} (h : SR G w0 D c0 rest F s a cs w) (o : Oper) {v v' : Value} (hv : VR F v v') :
    SR G w0 D c0 rest F (Abs.put s o v) (a.put o.dst v') cs w := by
  obtain ⟨h1, h2, h3, h4⟩ := h
  exact ⟨h1, putL_ok h2 hv _, by rw [put_defers]; exact h3, h4⟩
theorem Ends.mono {D : Bool} {c0 : Frame} {rest : List Frame} {F F' : Nm} (hle : Nm.le F F') {e : Exit} {s : St} {e' : Exit} {a : Act} {cs : List Frame} {w : World}
    (h : Ends G w0 D c0 rest F' e s e' a cs w) : Ends G w0 D c0 rest F e s e' a cs w := by
  obtain ⟨F2, h1, h2⟩ := h
  exact ⟨F2, Nm.le_trans hle h1, h2⟩
end
end Go.Abs
