/- One step of the evaluator, and that it keeps its word. -/
import Derived.Test.YtfhkbepjppcjmaaGreatDoorB4
namespace Go.Abs
open Go
noncomputable section

abbrev Orc := FuncId → Option (List Value → Heap → Option (Ending × Heap))
def put (s : St) (o : Oper) (v : Value) : St := { s with ts := putL s.ts o.dst v }

/-- The operations that are no values: a call, a deferred one, a panic, a recover. -/
def stepOp (P : Program) (rec : Cmd → Option Res) (D : Bool) (ops : Array Oper) (k : Nat) (r : List Oper) (o : Oper) (s : St) : Option Res :=
  match callOf P (aev s.ts) o.op with
  | some (g, args) => match rec (.call g args s.h) with
    | some (.en (.returned v) _ h') => rec (.ops D ops (k + 1) r { put s o v with h := h' })
    | some (.en (.panicked c) _ h') => some (.ex (.panic c) { s with h := h' })
    | _ => none
  | none => match o.op with
    | .defer { callee := .value f, args, .. } => match aev s.ts f with
      | .func fn first cap => rec (.ops D ops (k + 1) r { put s o undef with ds := { target := .fn fn cap, args := first ++ args.map (aev s.ts) } :: s.ds })
      | _ => none
    | .panic x => match aev s.ts x with
      | .iface t v => some (.ex (.panic [{ v := .iface t v, recovered := false }]) s)
      | _ => none
    | .call { callee := .builtin .recover, .. } => match D, s.u with
      | true, .panicking ({ v, recovered := false, goexit := false } :: older) => rec (.ops D ops (k + 1) r { put s o v with u := .panicking ({ v, recovered := true } :: older) })
      | true, .returning => rec (.ops D ops (k + 1) r (put s o .nilIface))
      | _, _ => none
    | _ => none

def codeK : Code → Bool → St → (Cmd → Option Res) → Option Res
  | .skip => fun _ s _ => some (.ex .normal s)
  | .label _ => fun _ s _ => some (.ex .normal s)
  | .ret => fun _ s _ => some (.ex .ret s)
  | .exit id => fun _ s _ => some (.ex (.exit id) s)
  | .seq a b => fun D s rec => match rec (.code D a s) with
    | some (.ex .normal s') => rec (.code D b s')
    | r => r
  | .cond c a b => fun D s rec => match aev s.ts c with
    | .bool true => rec (.code D a s)
    | .bool false => rec (.code D b s)
    | _ => none
  | .block id c => fun D s rec => match rec (.code D c s) with
    | some (.ex (.exit id') s') => match Nat.beq id' id with
      | true => some (.ex .normal s')
      | false => some (.ex (.exit id') s')
    | r => r
  | .loop c => fun D s rec => rec (.loop D c s)
  | .scope c => fun D s rec => match rec (.code D c s) with
    | some (.ex (.goto _) _) => none
    | r => r
  | .region _ ops false => fun D s rec => rec (.ops D ops 0 ops.toList s)
  | .region _ ops true => fun D s rec => match D with
    | false => rec (.draw ops s)
    | true => none
  | _ => fun _ _ _ => none
def loopK (D : Bool) (c : Code) (s : St) (rec : Cmd → Option Res) : Option Res :=
  match rec (.code D c s) with
  | some (.ex .normal s') => rec (.loop D c s')
  | r => r
def drawK (ops : Array Oper) (s : St) (P : Program) (rec : Cmd → Option Res) : Option Res :=
  match aDraw P rec ops s with
  | some s' => some (.ex .normal s')
  | none => none
def opsK : List Oper → Bool → Array Oper → Nat → St → Program → (Cmd → Option Res) → Option Res
  | [] => fun _ _ _ s _ _ => some (.ex .normal s)
  | o :: r => fun D ops k s P rec => match wantedA o ops.toList s.ts with
    | none => none
    | some false => rec (.ops D ops (k + 1) r (put s o undef))
    | some true => match aOp P o (aev s.ts) s.h with
      | some (v, h') => rec (.ops D ops (k + 1) r { put s o v with h := h' })
      | none => stepOp P rec D ops k r o s
def asked (orc : Orc) (f : FuncId) (args : List Value) (h : Heap) : Option (Ending × Heap) :=
  match orc f with
  | some g => g args h
  | none => none
def callK (f : FuncId) (args : List Value) (h : Heap) (P : Program) (orc : Orc) (rec : Cmd → Option Res) : Option Res :=
  match asked orc f args h with
  | some (e, h') => some (.en e .run h')
  | none => match P.funcs[f]? with
    | some fn => match fn.body with
      | some c => match rec (.code false c ⟨Tm.of args fn.ntmps, [], h, .run⟩) with
        | some (.ex .normal s') => rec (.leaves fn s'.ts s'.ds .returning s'.h)
        | some (.ex .ret s') => rec (.leaves fn s'.ts s'.ds .returning s'.h)
        | some (.ex (.panic c) s') => rec (.leaves fn s'.ts s'.ds (.panicking c) s'.h)
        | _ => none
      | none => none
    | none => none
def leavesK : List Deferred → Func → Tm → FrameMode → Heap → Program → (Cmd → Option Res) → Option Res
  | [] => fun fn ts u h P _ => match u with
    | .returning => match aResults P fn ts h with
      | some v => some (.en (.returned v) .run h)
      | none => none
    | .panicking c => some (.en (.panicked c) .run h)
    | .run => none
  | d :: ds => fun fn ts u h P rec => match u, d.target with
    | .run, _ => none
    | u, .fn (.func g) cap => match hasBody P g with
      | true => match rec (.callD g (d.args.toList ++ cap.toList) u h) with
        | some (.en (.returned _) u' h') => rec (.leaves fn ts ds (settle u') h')
        | some (.en (.panicked c) u' h') => rec (.leaves fn ts ds (raised u' c) h')
        | _ => none
      | false => none
    | _, _ => none
def callDK (f : FuncId) (args : List Value) (u : FrameMode) (h : Heap) (P : Program) (rec : Cmd → Option Res) : Option Res :=
  match P.funcs[f]? with
  | some fn => match fn.body with
    | some c => match rec (.code true c ⟨Tm.of args fn.ntmps, [], h, u⟩) with
      | some (.ex .normal ⟨ts, [], h', u'⟩) => match aResults P fn ts h' with
        | some v => some (.en (.returned v) u' h')
        | none => none
      | some (.ex .ret ⟨ts, [], h', u'⟩) => match aResults P fn ts h' with
        | some v => some (.en (.returned v) u' h')
        | none => none
      | some (.ex (.panic c) ⟨_, [], h', u'⟩) => some (.en (.panicked c) u' h')
      | _ => none
    | none => none
  | none => none
def stepK : Cmd → Program → Orc → (Cmd → Option Res) → Option Res
  | .code D c s => fun _ _ rec => codeK c D s rec
  | .loop D c s => fun _ _ rec => loopK D c s rec
  | .draw ops s => fun P _ rec => drawK ops s P rec
  | .ops D ops k todo s => fun P _ rec => opsK todo D ops k s P rec
  | .call f args h => fun P orc rec => callK f args h P orc rec
  | .leaves fn ts ds u h => fun P _ rec => leavesK ds fn ts u h P rec
  | .callD f args u h => fun P _ rec => callDK f args u h P rec
def step (P : Program) (orc : Orc) (rec : Cmd → Option Res) (c : Cmd) : Option Res := stepK c P orc rec

def ev (P : Program) (orc : Orc) : Nat → Cmd → Option Res
  | 0 => fun _ => none
  | n + 1 => step P orc (ev P orc n)

/-! ### Calls -/
section
variable {P : Program} {G : Nat} {w0 : Base}
theorem okProg_func (hP : okProg P G = true) {f : FuncId} {fn : Func} (hf : P.funcs[f]? = some fn) {c : Code} (hb : fn.body = some c) : fn.name ≠ "runtime.NumGoroutine" ∧ okCode G c = true := by
  unfold okProg at hP
  simp only [Bool.and_eq_true] at hP
  have hm : fn ∈ P.funcs := Array.mem_of_getElem? hf
  have := (Array.all_eq_true'.1 hP.2) fn hm
  unfold okFunc at this
  rw [hb] at this
  simp only [Bool.and_eq_true, bne_iff_ne, ne_eq] at this
  exact this
theorem run_callFunc (hP : okProg P G = true) {g : FuncId} (hg : hasBody P g = true) (args : Array Value) (w : World) : (callFunc g args).run P w = .ok (.enter g args) w := by
  unfold hasBody at hg
  split at hg
  · rename_i fn hf
    obtain ⟨c, hc⟩ := Option.isSome_iff_exists.1 hg
    have hn := (okProg_func hP hf hc).1
    simp [callFunc, hf, hn, hc]
  · cases hg
theorem callOf_run (hP : okProg P G = true) {F : Nm} {o : Oper} {ρ ρ' : Operand → Value} (hρ : ∀ x ∈ o.op.operands, VR F (ρ x) (ρ' x)) {g : FuncId} {args : List Value} (h : callOf P ρ o.op = some (g, args)) (w : World) :
    ∃ args' : Array Value, (execOp ρ' o).run P w = .ok (.enter g args') w ∧ VRL F args args'.toList := by
  obtain ⟨dst, op, type, pos, after, guard⟩ := o
  simp only at hρ h
  unfold callOf at h
  split at h
  · rename_i f as ats
    split at h
    · rename_i g' first cap e
      split at h
      · rename_i hb
        simp only [Option.some.injEq, Prod.mk.injEq] at h
        obtain ⟨h1, h2⟩ := h
        subst h1; subst h2
        have hf := hρ f (by simp [Op.operands, Call.operands])
        rw [e] at hf; simp only [VR] at hf
        obtain ⟨f', c', hf1, hf2, e'⟩ := hf
        have hargs : VRL F (as.toList.map ρ) (as.toList.map ρ') :=
          VRL_map _ fun y hy => hρ y (by simp only [Op.operands, Call.operands, Array.mem_append]; exact .inr (by simpa using hy))
        refine ⟨f' ++ as.map ρ' ++ c', ?_, ?_⟩
        · simp only [execOp, resolve, e', Deferred.ofValue, pure_bind, invoke]
          exact run_callFunc hP hb _ w
        · simp only [Array.toList_append, Array.toList_map]
          exact (hf1.toL.append hargs).append hf2.toL
      · cases h
    · cases h
  · rename_i x name as ats
    split at h
    · rename_i t v e
      split at h
      · rename_i g' hm
        split at h
        · rename_i hb
          simp only [Option.some.injEq, Prod.mk.injEq] at h
          obtain ⟨h1, h2⟩ := h
          subst h1; subst h2
          have hx := hρ x (by simp [Op.operands, Call.operands])
          rw [e] at hx; simp only [VR] at hx
          obtain ⟨v', hv, e'⟩ := hx
          have hargs : VRL F (as.toList.map ρ) (as.toList.map ρ') :=
            VRL_map _ fun y hy => hρ y (by simp only [Op.operands, Call.operands, Array.mem_append]; exact .inr (by simpa using hy))
          refine ⟨#[v'] ++ as.map ρ', ?_, ?_⟩
          · simp only [execOp, resolve, e', pure_bind, invoke]
            have e1 : (#[Value.iface t v'] ++ as.map ρ')[0]? = some (.iface t v') := by rw [Array.getElem?_append_left (by simp)]; rfl
            have e2 : (#[Value.iface t v'] ++ as.map ρ').extract 1 (#[Value.iface t v'] ++ as.map ρ').size = as.map ρ' := by
              apply Array.ext'; simp; rw [List.take_of_length_le (by simp)]
            simp only [e1, e2, callMethod, Sem.run_bind, run_program, Result.andThen_ok]
            rw [show P.types.size + Made.depth = (P.types.size + 99) + 1 from rfl, methodOf_run hm]
            exact run_callFunc hP hb _ w
          · simp only [Array.toList_append, Array.toList_map, List.cons_append, List.nil_append, VRL]
            exact ⟨v', _, hv, hargs, rfl⟩
        · cases h
      · cases h
    · cases h
  · cases h

theorem putL_ok {F : Nm} {ts : Tm} {a : Act} (ht : TR F ts a.tmps) {v v' : Value} (hv : VR F v v') (dst : Option Tmp) : TR F (putL ts dst v) (a.put dst v').tmps := by
  cases dst with
  | none => exact ht
  | some d => exact ht.put d hv
theorem put_defers (a : Act) (dst : Option Tmp) (v : Value) : (a.put dst v).defers = a.defers := by cases dst <;> rfl
theorem bool_iff {F : Nm} {v v' : Value} (h : VR F v v') (ht : isTop v = false) : asB v' = asB v := by
  cases v <;> (try (simp only [VR] at h; subst h; rfl; done)) <;> (try (simp only [VR] at h; obtain ⟨_, _, e⟩ := h; subst e; rfl; done))
  · rename_i a; cases a <;> simp only [VR] at h
    · subst h; rfl
    · obtain ⟨_, _, e⟩ := h; subst e; rfl
  · rename_i a _ _; cases a <;> simp only [VR] at h
    · subst h; rfl
    · obtain ⟨_, _, _, _, _, _, e⟩ := h; subst e; rfl
  · rename_i a; cases a <;> simp only [VR] at h
    · subst h; rfl
    · obtain ⟨_, _, _, _, e⟩ := h; subst e; rfl
  · rename_i a; cases a <;> simp only [VR] at h
    · subst h; rfl
    · cases ht
  · simp only [VR] at h; obtain ⟨_, _, _, _, e⟩ := h; subst e; rfl
theorem yielded_eq {F : Nm} {ops : Array Oper} {ts : Tm} {tmps : Array Value} (ht : TR F ts tmps) (j : Nat) (htop : topAt ops.toList ts j = false) : yielded ops tmps j = yieldedL ops.toList ts j := by
  unfold yielded yieldedL
  have e1 : ops[j]? = ops.toList[j]? := by simp
  rw [e1]
  cases hd : ((ops.toList[j]?).bind (·.dst)) with
  | none => rfl
  | some d =>
    simp only [Option.bind_some]
    have h := bool_iff (ht.2 d) (by unfold topAt at htop; rw [hd] at htop; exact htop)
    rw [Array.getD_eq_getD_getElem?] at h
    cases hv : tmps[d]? with
    | none => rw [hv] at h; simp only [Option.getD_none] at h; rw [← h]; rfl
    | some x =>
      rw [hv] at h; simp only [Option.getD_some] at h
      rw [← h]
      cases x <;> rfl
theorem wantedA_ok {F : Nm} {ops : Array Oper} {ts : Tm} {tmps : Array Value} (ht : TR F ts tmps) {o : Oper} {b : Bool} (h : wantedA o ops.toList ts = some b) : Region.wanted o (yielded ops tmps) = b := by
  unfold wantedA at h
  unfold Region.wanted
  cases hg : o.guard with
  | none => rw [hg] at h; simp only [Option.some.injEq] at h; exact h
  | some x =>
    obtain ⟨j, want⟩ := x
    rw [hg] at h
    simp only at h ⊢
    split at h
    · cases h
    · rename_i htop
      simp only [Option.some.injEq] at h
      rw [yielded_eq ht j htop]; exact h
theorem wanted_congr {o : Oper} {y y' : Nat → Option Bool} (h : ∀ j, y j = y' j) : Region.wanted o y = Region.wanted o y' := by
  have : y = y' := funext h
  rw [this]

theorem SR.mono {D : Bool} {c0 : Frame} {rest : List Frame} {F F' : Nm} {s : St} {a : Act} {cs : List Frame} {w : World} (h : SR G w0 D c0 rest F s a cs w) (hle : Nm.le F F') {h' : Heap} {w' : World}
    (R' : Rel G F' h' w0 w') : SR G w0 D c0 rest F' { s with h := h' } a cs w' := by
  obtain ⟨_, h2, h3, h4⟩ := h
  refine ⟨R', h2.mono hle, h3.mono hle, ?_⟩
  cases D with
  | true => obtain ⟨m, e, hm⟩ := h4; exact ⟨m, e, hm.mono hle⟩
  | false => exact h4
theorem SR.put {D : Bool} {c0 : Frame} {rest : List Frame} {F : Nm} {s : St} {a : Act} {cs : List Frame} {w : World} (h : SR G w0 D c0 rest F s a cs w) (o : Oper) {v v' : Value} (hv : VR F v v') :
    SR G w0 D c0 rest F (Abs.put s o v) (a.put o.dst v') cs w := by
  obtain ⟨h1, h2, h3, h4⟩ := h
  exact ⟨h1, putL_ok h2 hv _, by rw [put_defers]; exact h3, h4⟩
theorem Ends.mono {D : Bool} {c0 : Frame} {rest : List Frame} {F F' : Nm} (hle : Nm.le F F') {e : Exit} {s : St} {e' : Exit} {a : Act} {cs : List Frame} {w : World}
    (h : Ends G w0 D c0 rest F' e s e' a cs w) : Ends G w0 D c0 rest F e s e' a cs w := by
  obtain ⟨F2, h1, h2⟩ := h
  exact ⟨F2, Nm.le_trans hle h1, h2⟩
end
end
end Go.Abs
