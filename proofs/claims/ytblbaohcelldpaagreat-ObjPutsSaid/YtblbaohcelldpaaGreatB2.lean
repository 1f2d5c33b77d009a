/- The evaluator over the abstract heap, and that a run goes as it tells. -/
import Derived.Test.YtblbaohcelldpaaGreatB1
import Derived.Recover
import Derived.Scope
import Derived.Orders
namespace Go.Abs
open Go
set_option linter.unusedVariables false
noncomputable section
section
variable {P : Program} {D : Bool} {Q : Exit → Act → List Frame → World → Prop} {a : Act} {cs : List Frame} {w : World}
def Fit (D : Bool) (b : Frame) : Prop := D = true → b.kind = .deferred ∧ b.roundOf = none
def WPat (P : Program) (D : Bool) (todo : List Item) (Q : Exit → Act → List Frame → World → Prop) (a : Act) (cs : List Frame) (w : World) : Prop :=
  ∀ (b : Frame) (k : List Item), Fit D b → ∃ e a' cs' w', Q e a' cs' w' ∧ Arrives P (lone (b.at a (todo ++ k)) cs w) b k cs' e a' w'
abbrev WP (P : Program) (D : Bool) (c : Code) (Q : Exit → Act → List Frame → World → Prop) (a : Act) (cs : List Frame) (w : World) : Prop := WPat P D [.code c] Q a cs w
theorem WPat.mono {todo : List Item} {Q' : Exit → Act → List Frame → World → Prop} (h : WPat P D todo Q a cs w) (hq : ∀ e a cs w, Q e a cs w → Q' e a cs w) : WPat P D todo Q' a cs w :=
  fun b k hb => let ⟨e, a', cs', w', q, r⟩ := h b k hb; ⟨e, a', cs', w', hq _ _ _ _ q, r⟩
theorem WP.skip (h : Q .normal a cs w) : WP P D .skip Q a cs w := fun _ _ _ => ⟨.normal, a, cs, w, h, .one step_skip⟩
theorem WP.label {l : Nat} (h : Q .normal a cs w) : WP P D (.label l) Q a cs w := fun _ _ _ => ⟨.normal, a, cs, w, h, .one step_label⟩
theorem WP.exit {id : Nat} (h : Q (.exit id) a cs w) : WP P D (.exit id) Q a cs w := fun _ _ _ => ⟨.exit id, a, cs, w, h, fun _ hk => .one (step_exit hk)⟩
theorem WP.ret (h : Q .ret a cs w) : WP P D .ret Q a cs w := fun _ _ _ => ⟨.ret, a, cs, w, h, _, .one step_ret⟩
theorem WP.cond {c : Operand} {x y : Code} {t : Bool} (hc : a.eval c = .bool t) (h : WP P D (if t then x else y) Q a cs w) : WP P D (.cond c x y) Q a cs w :=
  fun b k hb => let ⟨e, a', cs', w', q, r⟩ := h b k hb; ⟨e, a', cs', w', q, .of_steps (.one (step_cond hc)) r⟩
def thenDo (P : Program) (D : Bool) (rest : List Item) (Q : Exit → Act → List Frame → World → Prop) : Exit → Act → List Frame → World → Prop
  | .normal, a, cs, w => WPat P D rest Q a cs w
  | e, a, cs, w => Q e a cs w
theorem WPat.two {x y : Item} (hy : y.plain = true) (h : WPat P D [x] (thenDo P D [y] Q) a cs w) : WPat P D [x, y] Q a cs w := by
  intro b k hb
  obtain ⟨e, a₁, cs₁, w₁, hq, harr⟩ := h b (y :: k) hb
  cases e with
  | normal =>
    obtain ⟨e₂, a₂, cs₂, w₂, hq₂, harr₂⟩ := hq b k hb
    exact ⟨e₂, a₂, cs₂, w₂, hq₂, .of_steps harr harr₂⟩
  | exit id => exact ⟨_, a₁, cs₁, w₁, hq, .pass (x := y) hy (fun _ _ => .inl (by simp)) harr⟩
  | goto l => exact ⟨_, a₁, cs₁, w₁, hq, .pass (x := y) hy (fun _ _ => .inl (by simp)) harr⟩
  | ret => exact ⟨_, a₁, cs₁, w₁, hq, .pass (x := y) hy (fun _ _ => .inl (by simp)) harr⟩
  | panic ch => exact ⟨_, a₁, cs₁, w₁, hq, .pass (x := y) hy (fun _ _ => .inl (by simp)) harr⟩
  | outgrown => exact ⟨_, a₁, cs₁, w₁, hq, .pass (x := y) hy (fun _ _ => .inl (by simp)) harr⟩
theorem WP.seq {x y : Code} (h : WP P D x (thenDo P D [.code y] Q) a cs w) : WP P D (.seq x y) Q a cs w := by
  intro b k hb
  obtain ⟨e, a', cs', w', hq, harr⟩ := WPat.two (y := .code y) rfl h b k hb
  exact ⟨e, a', cs', w', hq, .of_steps (.one step_seq) harr⟩
theorem WP.loop {c : Code} (h : WPat P D [.code c, .inLoop c] Q a cs w) : WP P D (.loop c) Q a cs w := by
  intro b k hb
  obtain ⟨e, a', cs', w', hq, harr⟩ := h b k hb
  exact ⟨e, a', cs', w', hq, .of_steps (.one step_loop) harr⟩
theorem WPat.inLoop {c : Code} (h : WPat P D [.code c, .inLoop c] Q a cs w) : WPat P D [.inLoop c] Q a cs w := by
  intro b k hb
  obtain ⟨e, a', cs', w', hq, harr⟩ := h b k hb
  exact ⟨e, a', cs', w', hq, .of_steps (.one step_inLoop) harr⟩
def outBlock (id : Nat) (Q : Exit → Act → List Frame → World → Prop) : Exit → Act → List Frame → World → Prop
  | .exit id', a, cs, w => if id' = id then Q .normal a cs w else Q (.exit id') a cs w
  | e, a, cs, w => Q e a cs w
theorem WP.block {id : Nat} {c : Code} (h : WP P D c (outBlock id Q) a cs w) : WP P D (.block id c) Q a cs w := by
  intro b k hb
  obtain ⟨e, a₁, cs₁, w₁, hq, harr⟩ := h b (.inBlock id :: k) hb
  cases e with
  | normal => exact ⟨.normal, a₁, cs₁, w₁, hq, .head step_block (Steps.trans harr (.one step_inBlock))⟩
  | exit id' =>
    by_cases hid : id' = id
    · simp only [outBlock, hid, if_true] at hq
      exact ⟨.normal, a₁, cs₁, w₁, hq, .head step_block (harr k (by simp [exitTo, hid]))⟩
    · simp only [outBlock, hid, if_false] at hq
      refine ⟨.exit id', a₁, cs₁, w₁, hq, fun k' hk => .head step_block (harr k' ?_)⟩
      have : (id == id') = false := by simp; exact fun h => hid h.symm
      simp [exitTo, this, hk]
  | goto l => exact ⟨_, a₁, cs₁, w₁, hq, fun k' hk => .head step_block (harr k' (by simp [gotoIn, hk]))⟩
  | ret => exact ⟨_, a₁, cs₁, w₁, hq, .of_steps (.one step_block) harr⟩
  | panic ch => exact ⟨_, a₁, cs₁, w₁, hq, .of_steps (.one step_block) harr⟩
  | outgrown => exact ⟨_, a₁, cs₁, w₁, hq, .of_steps (b := b) (k := k) (cs := cs₁) (e := .outgrown) (.one step_block) harr⟩
def noGoto (Q : Exit → Act → List Frame → World → Prop) : Exit → Act → List Frame → World → Prop
  | .goto _, _, _, _ => False
  | e, a, cs, w => Q e a cs w
theorem WP.scope {c : Code} (h : WP P D c (noGoto Q) a cs w) : WP P D (.scope c) Q a cs w := by
  intro b k hb
  obtain ⟨e, a₁, cs₁, w₁, hq, harr⟩ := h b (.inScope c :: k) hb
  cases e with
  | normal => exact ⟨.normal, a₁, cs₁, w₁, hq, .head step_scope (Steps.trans harr (.one step_inScope))⟩
  | exit id => exact ⟨_, a₁, cs₁, w₁, hq, fun k' hk => .head step_scope (harr k' (by simp [exitTo, hk]))⟩
  | goto l => exact hq.elim
  | ret => exact ⟨_, a₁, cs₁, w₁, hq, .of_steps (.one step_scope) harr⟩
  | panic ch => exact ⟨_, a₁, cs₁, w₁, hq, .of_steps (.one step_scope) harr⟩
  | outgrown => exact ⟨_, a₁, cs₁, w₁, hq, .of_steps (b := b) (k := k) (cs := cs₁) (e := .outgrown) (.one step_scope) harr⟩
theorem WP.region {id : Nat} {ops : Array Oper} (h : WPat P D [.inRegion ops (List.range ops.size)] Q a cs w) : WP P D (.region id ops false) Q a cs w := by
  intro b k hb
  obtain ⟨e, a', cs', w', hq, harr⟩ := h b k hb
  exact ⟨e, a', cs', w', hq, .of_steps (.one step_region) harr⟩
theorem WP.region_draw {id : Nat} {ops : Array Oper} (hm : P.follows .mixedOrders = true)
    (h : wpAny P .any ops (fun e a' w' => Q e a' cs w') ops.size (Array.replicate ops.size false) a { w with drawn := w.drawn + 1 }) : WP P D (.region id ops true) Q a cs w := by
  intro b k _
  obtain ⟨e, a', w', hq, harr⟩ := wp_region_any hm h b k cs
  exact ⟨e, a', cs, w', hq, harr⟩
theorem WPat.done {ops : Array Oper} (h : Q .normal a cs w) : WPat P D [.inRegion ops []] Q a cs w := fun _ _ _ => ⟨.normal, a, cs, w, h, .one step_region_end⟩
theorem WPat.skipOp {ops : Array Oper} {i : Nat} {rest : List Nat} {o : Oper} (ho : ops[i]? = some o) (hw : Region.wanted o (yielded ops a.tmps) = false)
    (h : WPat P D [.inRegion ops rest] Q (a.put o.dst undef) cs w) : WPat P D [.inRegion ops (i :: rest)] Q a cs w := by
  intro b k hb
  obtain ⟨e, a', cs', w', hq, harr⟩ := h b k hb
  refine ⟨e, a', cs', w', hq, .of_steps (.one ?_) harr⟩
  have := step_op_skip (P := P) (b := b) (a := a) (k := k) (cs := cs) (w := w) (ops := ops) (i := i) (rest := rest) (by simp [ho, hw])
  simpa [ho] using this
theorem WPat.value {ops : Array Oper} {i : Nat} {rest : List Nat} {o : Oper} (ho : ops[i]? = some o) (hw : Region.wanted o (yielded ops a.tmps) = true) {n : Next} {v : Value} {w₁ : World}
    (hr : (execOp a.eval o).run P w = .ok n w₁) (hn : n = .value v ∨ (n = .skip ∧ v = undef)) (h : WPat P D [.inRegion ops rest] Q (a.put o.dst v) cs w₁) : WPat P D [.inRegion ops (i :: rest)] Q a cs w := by
  intro b k hb
  obtain ⟨e, a', cs', w', hq, harr⟩ := h b k hb
  have hg := stepG_op (P := P) (b := b) (k := k) (cs := cs) (w := w) (rest := rest) ho hw
  have hfin : ∀ v, (b.at a (.inRegion ops (i :: rest) :: k)).finish v = b.at (a.put o.dst v) (.inRegion ops rest :: k) := by
    intro v; rw [Frame.finish_at, ho]; rfl
  refine ⟨e, a', cs', w', hq, .of_steps (.one (step_lone_go ?_)) harr⟩
  rcases hn with rfl | ⟨rfl, rfl⟩
  · simp only [List.cons_append, List.nil_append]; rw [hg, ← hfin]; simp [stepG.apply, hr]
  · simp only [List.cons_append, List.nil_append]; rw [hg, ← hfin]; simp [stepG.apply, hr]
theorem WPat.deferOp {ops : Array Oper} {i : Nat} {rest : List Nat} {o : Oper} (ho : ops[i]? = some o) (hw : Region.wanted o (yielded ops a.tmps) = true) {d : Deferred} {w₁ : World}
    (hr : (execOp a.eval o).run P w = .ok (.defer d) w₁) (h : WPat P D [.inRegion ops rest] Q ({ a with defers := d :: a.defers }.put o.dst undef) cs w₁) : WPat P D [.inRegion ops (i :: rest)] Q a cs w := by
  intro b k hb
  obtain ⟨e, a', cs', w', hq, harr⟩ := h b k hb
  have hg := stepG_op (P := P) (b := b) (k := k) (cs := cs) (w := w) (rest := rest) ho hw
  refine ⟨e, a', cs', w', hq, .of_steps (.one (step_lone_go ?_)) harr⟩
  have : ({ b.at a (.inRegion ops (i :: rest) :: k) with defers := d :: a.defers } : Frame).finish undef =
      b.at ({ a with defers := d :: a.defers }.put o.dst undef) (.inRegion ops rest :: k) := by
    have := Frame.finish_at b { a with defers := d :: a.defers } ops i rest k undef
    rw [ho] at this; exact this
  simp only [List.cons_append, List.nil_append]
  rw [hg]; simp only [stepG.apply, Sem.runT_eq, hr, GStep.bare_after]
  exact congrArg (fun fr => GStep.go { frame := fr, callers := cs, status := .running, dying := none } w₁) this
theorem WPat.panicOp {ops : Array Oper} {i : Nat} {rest : List Nat} {o : Oper} (ho : ops[i]? = some o) (hw : Region.wanted o (yielded ops a.tmps) = true) {v : Value} {w₁ : World}
    (hr : (execOp a.eval o).run P w = .halt (.panic v) w₁) (h : Q (.panic [{ v, recovered := false }]) a cs w₁) : WPat P D [.inRegion ops (i :: rest)] Q a cs w := by
  intro b k hb
  have hg := stepG_op (P := P) (b := b) (k := k) (cs := cs) (w := w) (rest := rest) ho hw
  refine ⟨_, a, cs, w₁, h, .inRegion ops (i :: rest) :: k, .one (step_lone_go ?_)⟩
  simp only [List.cons_append, List.nil_append]
  rw [hg, ← Frame.raise_at]; simp [stepG.apply, hr]
theorem WPat.callOp {ops : Array Oper} {i : Nat} {rest : List Nat} {o : Oper} (ho : ops[i]? = some o) (hw : Region.wanted o (yielded ops a.tmps) = true) {f : FuncId} {args : Array Value} {w₁ : World}
    (hr : (execOp a.eval o).run P w = .ok (.enter f args) w₁)
    (h : Calls P f args w₁ fun
      | .returned v, w₂ => WPat P D [.inRegion ops rest] Q (a.put o.dst v) cs w₂
      | .panicked chain, w₂ => Q (.panic chain) a cs w₂
      | .outgrown, _ => False) : WPat P D [.inRegion ops (i :: rest)] Q a cs w := by
  intro b k hb
  have hg := stepG_op (P := P) (b := b) (k := k) (cs := cs) (w := w) (rest := rest) ho hw
  have hfin : ∀ v, (b.at a (.inRegion ops (i :: rest) :: k)).finish v = b.at (a.put o.dst v) (.inRegion ops rest :: k) := by
    intro v; rw [Frame.finish_at, ho]; rfl
  obtain ⟨e, w'', fr, hR, hsteps, _, hleave⟩ := h (b.at a (.inRegion ops (i :: rest) :: k) :: cs)
  have henter : step P (lone (b.at a (.inRegion ops (i :: rest) :: k)) cs w) =
      .next (lone (Frame.enter P f args .normal) (b.at a (.inRegion ops (i :: rest) :: k) :: cs) w₁) :=
    step_lone_go (by rw [hg]; simp [stepG.apply, hr, Frame.at])
  cases e with
  | returned v =>
    obtain ⟨e, a', cs'', w₃, hq, harr⟩ := hR b k hb
    refine ⟨e, a', cs'', w₃, hq, .of_steps (.head henter (hsteps.trans (.one ?_))) harr⟩
    simp only [List.cons_append, List.nil_append]
    rw [← hfin]; exact step_leave_returned hleave
  | panicked chain =>
    refine ⟨.panic chain, a, cs, w'', hR, .inRegion ops (i :: rest) :: k, .head henter (hsteps.trans (.one ?_))⟩
    rw [← Frame.raise_at]; exact step_leave_panicked hleave
  | outgrown => exact hR.elim
theorem WPat.recoverOp {ops : Array Oper} {i : Nat} {rest : List Nat} {o : Oper} (ho : ops[i]? = some o) (hw : Region.wanted o (yielded ops a.tmps) = true) (hD : D = true) {w₁ : World}
    (hr : (execOp a.eval o).run P w = .ok .recover w₁)
    (h : match recoverD cs with
      | some (v, cs') => WPat P D [.inRegion ops rest] Q (a.put o.dst v) cs' w₁
      | none => WPat P D [.inRegion ops rest] Q (a.put o.dst .nilIface) cs w₁) : WPat P D [.inRegion ops (i :: rest)] Q a cs w := by
  intro b k hb
  have hg := stepG_op (P := P) (b := b) (k := k) (cs := cs) (w := w) (rest := rest) ho hw
  have hfin : ∀ v, (b.at a (.inRegion ops (i :: rest) :: k)).finish v = b.at (a.put o.dst v) (.inRegion ops rest :: k) := by
    intro v; rw [Frame.finish_at, ho]; rfl
  obtain ⟨hb1, hro⟩ := hb hD
  have hk : (b.at a (.inRegion ops (i :: rest) :: k)).kind = .deferred := hb1
  have htr := tryRecover_deferred hk cs
  split at h
  · rename_i v cs' hrec
    obtain ⟨e, a', cs'', w'', hq, harr⟩ := h b k hb
    refine ⟨e, a', cs'', w'', hq, .of_steps (.one (step_lone_go ?_)) harr⟩
    simp only [List.cons_append, List.nil_append]
    rw [hg, ← hfin]
    simp only [Frame.at] at htr ⊢
    simp [stepG.apply, hr, htr, hrec]
  · rename_i hrec
    obtain ⟨e, a', cs'', w'', hq, harr⟩ := h b k hb
    refine ⟨e, a', cs'', w'', hq, .of_steps (.one (step_lone_go ?_)) harr⟩
    simp only [List.cons_append, List.nil_append]
    rw [hg, ← hfin]
    simp only [Frame.at] at htr ⊢
    simp [stepG.apply, hr, htr, hrec]
end
end
end Go.Abs
