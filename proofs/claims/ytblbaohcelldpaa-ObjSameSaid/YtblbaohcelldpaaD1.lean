/- How pieces of a run are put together: each rule alone. -/
import Derived.Test.YtblbaohcelldpaaC5
namespace Go.Abs
open Go
noncomputable section
section
variable {P : Program} {G : Nat} {B : Base} {D : Bool} {s : St} {r : Res}
open Classical in
def rec1 (c : Cmd) (r : Res) : Cmd → Option Res := fun c' => if c' = c then some r else none
theorem rec1_ok {c : Cmd} (h : Holds P G B c r) : ∀ c' r', rec1 c r c' = some r' → Holds P G B c' r' := by
  intro c' r' e; unfold rec1 at e; split at e
  · rename_i h1; subst h1; simp only [Option.some.injEq] at e; subst e; exact h
  · cases e
theorem rec1_at (c : Cmd) (r : Res) : rec1 c r c = some r := by simp [rec1]
open Classical in
def rec2 (c : Cmd) (r : Res) (d : Cmd) (q : Res) : Cmd → Option Res := fun c' => if c' = c then some r else if c' = d then some q else none
theorem rec2_ok {c d : Cmd} {q : Res} (h : Holds P G B c r) (h' : Holds P G B d q) : ∀ c' r', rec2 c r d q c' = some r' → Holds P G B c' r' := by
  intro c' r' e; unfold rec2 at e; split at e
  · rename_i h1; subst h1; simp only [Option.some.injEq] at e; subst e; exact h
  · split at e
    · rename_i h1; subst h1; simp only [Option.some.injEq] at e; subst e; exact h'
    · cases e
theorem rec2_at (c : Cmd) (r : Res) (d : Cmd) (q : Res) : rec2 c r d q c = some r := by simp [rec2]
theorem rec2_at' (c : Cmd) (r : Res) (d : Cmd) (q : Res) (h : d ≠ c) : rec2 c r d q d = some q := by simp [rec2, h]

theorem h_skip : Holds P G B (.code D .skip s) (.ex .normal s) := by
  intro c0 rest F a cs w _ hs
  exact WP.skip ⟨F, Nm.le_refl F, rfl, hs⟩
theorem h_label {l : Nat} : Holds P G B (.code D (.label l) s) (.ex .normal s) := by
  intro c0 rest F a cs w _ hs
  exact WP.label ⟨F, Nm.le_refl F, rfl, hs⟩
theorem h_ret : Holds P G B (.code D .ret s) (.ex .ret s) := by
  intro c0 rest F a cs w _ hs
  exact WP.ret ⟨F, Nm.le_refl F, rfl, hs⟩
theorem h_exit {id : Nat} : Holds P G B (.code D (.exit id) s) (.ex (.exit id) s) := by
  intro c0 rest F a cs w _ hs
  exact WP.exit ⟨F, Nm.le_refl F, rfl, hs⟩
theorem h_seq {x y : Code} {s1 : St} (h1 : Holds P G B (.code D x s) (.ex .normal s1)) (h2 : Holds P G B (.code D y s1) r) : Holds P G B (.code D (.seq x y) s) r := by
  cases r with
  | en _ _ _ => exact h2.elim
  | ex e s2 =>
    intro c0 rest F a cs w hok hs
    simp only [okCode, Bool.and_eq_true] at hok
    refine WP.seq ((h1 c0 rest F a cs w hok.1 hs).mono fun e' a' cs' w' ⟨F', hle, he, hs'⟩ => ?_)
    simp only [ER] at he; subst he
    exact (h2 c0 rest F' a' cs' w' hok.2 hs').mono fun _ _ _ _ q => Ends.mono hle q
theorem h_seq' (hP : okProg P G = true) {x y : Code} (h1 : Holds P G B (.code D x s) r) (hr : ∀ s', r ≠ .ex .normal s') : Holds P G B (.code D (.seq x y) s) r := by
  refine step_code (orc := fun _ => none) (rec := rec1 _ _) (rec1_ok h1) hP ?_
  simp only [step, stepK, codeK, rec1_at]
  split
  · rename_i s' e; simp only [Option.some.injEq] at e; exact absurd e (hr s')
  · rfl
theorem h_cond (hP : okProg P G = true) {c : Operand} {x y : Code} {t : Bool} (hc : aev s.ts c = .bool t) (h : Holds P G B (.code D (match t with | true => x | false => y) s) r) : Holds P G B (.code D (.cond c x y) s) r := by
  refine step_code (orc := fun _ => none) (rec := rec1 _ _) (rec1_ok h) hP ?_
  cases t <;> simp only [step, stepK, codeK, hc, rec1_at]
def blkRes (id : Nat) : Res → Res
  | .ex (.exit i) s' => match Nat.beq i id with
    | true => .ex .normal s'
    | false => .ex (.exit i) s'
  | r => r
theorem h_block (hP : okProg P G = true) {id : Nat} {c : Code} (h : Holds P G B (.code D c s) r) : Holds P G B (.code D (.block id c) s) (blkRes id r) := by
  refine step_code (orc := fun _ => none) (rec := rec1 _ _) (rec1_ok h) hP ?_
  simp only [step, stepK, codeK, rec1_at]
  split
  · rename_i e; simp only [Option.some.injEq] at e; subst e
    simp only [blkRes]
    split <;> simp_all
  · rename_i hne
    cases r with
    | en _ _ _ => rfl
    | ex e s1 =>
      cases e <;> first | rfl | exact absurd rfl (hne _ _)
theorem h_scope (hP : okProg P G = true) {c : Code} (h : Holds P G B (.code D c s) r) (hr : ∀ l s', r ≠ .ex (.goto l) s') : Holds P G B (.code D (.scope c) s) r := by
  refine step_code (orc := fun _ => none) (rec := rec1 _ _) (rec1_ok h) hP ?_
  simp only [step, stepK, codeK, rec1_at]
  split
  · rename_i e; simp only [Option.some.injEq] at e; exact absurd e (hr _ _)
  · rfl
theorem h_loop (hP : okProg P G = true) {c : Code} (h : Holds P G B (.loop D c s) r) : Holds P G B (.code D (.loop c) s) r := by
  refine step_code (orc := fun _ => none) (rec := rec1 _ _) (rec1_ok h) hP ?_
  simp only [step, stepK, codeK, rec1_at]
theorem h_loopN {c : Code} {s1 : St} (h : Holds P G B (.code D c s) (.ex .normal s1)) (h2 : Holds P G B (.loop D c s1) r) : Holds P G B (.loop D c s) r := by
  refine step_loop' (orc := fun _ => none) (rec := rec2 _ _ _ _) (rec2_ok h h2) ?_
  simp only [step, stepK, loopK, rec2_at]
  rw [rec2_at']
  intro e; cases e
theorem h_loopX {c : Code} (h : Holds P G B (.code D c s) r) (hr : ∀ s', r ≠ .ex .normal s') : Holds P G B (.loop D c s) r := by
  refine step_loop' (orc := fun _ => none) (rec := rec1 _ _) (rec1_ok h) ?_
  simp only [step, stepK, loopK, rec1_at]
  split
  · rename_i s' e; simp only [Option.some.injEq] at e; exact absurd e (hr s')
  · rfl
theorem h_region (hP : okProg P G = true) {id : Nat} {ops : Array Oper} (h : Holds P G B (.ops D ops 0 ops.toList s) r) : Holds P G B (.code D (.region id ops false) s) r := by
  refine step_code (orc := fun _ => none) (rec := rec1 _ _) (rec1_ok h) hP ?_
  simp only [step, stepK, codeK, rec1_at]
theorem h_region' (hP : okProg P G = true) {id : Nat} {ops : Array Oper} (h : Holds P G B (.draw ops s) r) : Holds P G B (.code false (.region id ops true) s) r := by
  refine step_code (orc := fun _ => none) (rec := rec1 _ _) (rec1_ok h) hP ?_
  simp only [step, stepK, codeK, rec1_at]
section
variable {ops : Array Oper} {k : Nat} {o : Oper} {l : List Oper}
theorem h_ops0 : Holds P G B (.ops D ops k [] s) (.ex .normal s) := by
  intro _ _ c0 rest F a cs w hs
  exact WPat.done ⟨F, Nm.le_refl F, rfl, hs⟩
theorem h_opsSkip (hP : okProg P G = true) (hw : wantedA o ops.toList s.ts = some false) (h : Holds P G B (.ops D ops (k + 1) l (put s o undef)) r) : Holds P G B (.ops D ops k (o :: l) s) r := by
  refine step_ops (orc := fun _ => none) (rec := rec1 _ _) (rec1_ok h) hP ?_
  simp only [step, stepK, opsK, hw, rec1_at]
theorem h_opsVal (hP : okProg P G = true) (hw : wantedA o ops.toList s.ts = some true) {v : Value} {h' : Heap} (ho : aOp P o (aev s.ts) s.h = some (v, h'))
    (h : Holds P G B (.ops D ops (k + 1) l { put s o v with h := h' }) r) : Holds P G B (.ops D ops k (o :: l) s) r := by
  refine step_ops (orc := fun _ => none) (rec := rec1 _ _) (rec1_ok h) hP ?_
  simp only [step, stepK, opsK, hw, ho, rec1_at]
theorem h_opsCall (hP : okProg P G = true) (hw : wantedA o ops.toList s.ts = some true) (hn : aOp P o (aev s.ts) s.h = none) {g : FuncId} {args : List Value} (hc : callOf P (aev s.ts) o.op = some (g, args))
    {v : Value} {u : FrameMode} {h' : Heap} (h1 : Holds P G B (.call g args s.h) (.en (.returned v) u h')) (h : Holds P G B (.ops D ops (k + 1) l { put s o v with h := h' }) r) : Holds P G B (.ops D ops k (o :: l) s) r := by
  refine step_ops (orc := fun _ => none) (rec := rec2 _ _ _ _) (rec2_ok h1 h) hP ?_
  simp only [step, stepK, opsK, hw, hn, stepOp, hc, rec2_at]
  rw [rec2_at']
  intro e; cases e
end
theorem h_call (hP : okProg P G = true) {f : FuncId} {args : List Value} {hh : Heap} {fn : Func} {c : Code} (hf : P.funcs[f]? = some fn) (hc : fn.body = some c) {s1 : St} {e : Exit} (he : e = .normal ∨ e = .ret)
    (h1 : Holds P G B (.code false c ⟨Tm.of args fn.ntmps, [], hh, .run⟩) (.ex e s1)) (h2 : Holds P G B (.leaves fn s1.ts s1.ds .returning s1.h) r) : Holds P G B (.call f args hh) r := by
  refine step_call (orc := fun _ => none) (rec := rec2 _ _ _ _) (rec2_ok h1 h2) hP (fun f g args h e h' hh => by cases hh) ?_
  simp only [step, stepK, callK, asked, hf, hc, rec2_at]
  rcases he with he | he <;> subst he <;> simp only <;> rw [rec2_at'] <;> intro e <;> cases e
theorem h_leaves {fn : Func} {ts : Tm} {hh : Heap} {v : Value} (hv : aResults P fn ts hh = some v) : Holds P G B (.leaves fn ts [] .returning hh) (.en (.returned v) .run hh) := by
  intro F w tmps ds' m R ht hd hm
  simp only [DsR] at hd; subst hd
  simp only [MR] at hm; subst hm
  obtain ⟨v', h1, h2⟩ := aResults_ok (P := P) R ht hv
  exact ⟨v', h1, F, Nm.le_refl F, ⟨v', h2, rfl⟩, R⟩
end
end
end Go.Abs
