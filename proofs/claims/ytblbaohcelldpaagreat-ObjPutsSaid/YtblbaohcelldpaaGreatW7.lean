/- What the evaluator with nodes says of code and calls is so. -/
import Derived.Test.YtblbaohcelldpaaGreatW5
namespace Go.Abs
open Go
noncomputable section
set_option linter.unusedVariables false
section
variable {P : Program} {G : Nat} {B : Base} {D : Bool} {s : St} {r : Res} {ops : Array Oper} {k : Nat} {o : Oper} {l : List Oper}
theorem orc0_ok (B : Base) : OrcOk P G B (fun _ => none) := fun f g args h e h' hf => by cases hf
theorem h_opsCallP (hP : okProg P G = true) (hw : wantedA o ops.toList s.ts = some true) (hn : aOp P o (aev s.ts) s.h = none) {g : FuncId} {args : List Value} (hc : callOf P (aev s.ts) o.op = some (g, args))
    {c : List PanicEntry} {u : FrameMode} {h' : Heap} (h1 : Holds P G B (.call g args s.h) (.en (.panicked c) u h')) : Holds P G B (.ops D ops k (o :: l) s) (.ex (.panic c) { s with h := h' }) := by
  refine step_ops (orc := fun _ => none) (rec := rec1 _ _) (rec1_ok h1) hP ?_
  simp only [step, stepK, opsK, hw, hn, stepOp, hc, rec1_at]
theorem h_opsDefer (hP : okProg P G = true) (hw : wantedA o ops.toList s.ts = some true) {f : Operand} {as : Array Operand} {ats : Array TypeId} (ho : o.op = .defer { callee := .value f, args := as, argTypes := ats }) {fn : Fn} {first cap : Array Value}
    (hf : aev s.ts f = .func fn first cap) (h : Holds P G B (.ops D ops (k + 1) l { put s o undef with ds := { target := .fn fn cap, args := first ++ as.map (aev s.ts) } :: s.ds }) r) : Holds P G B (.ops D ops k (o :: l) s) r := by
  refine step_ops (orc := fun _ => none) (rec := rec1 _ _) (rec1_ok h) hP ?_
  have h1 : aOp P o (aev s.ts) s.h = none := by unfold aOp; rw [ho]; rfl
  have h2 : callOf P (aev s.ts) (.defer { callee := .value f, args := as, argTypes := ats }) = none := rfl
  simp only [step, stepK, opsK, hw, h1, stepOp, h2, ho, hf, rec1_at]
theorem h_opsPanic (hP : okProg P G = true) (hw : wantedA o ops.toList s.ts = some true) {x : Operand} (ho : o.op = .panic x) {t : TypeId} {v : Value} (hx : aev s.ts x = .iface t v) (hm : isMk t = false) :
    Holds P G B (.ops D ops k (o :: l) s) (.ex (.panic [{ v := .iface t v, recovered := false }]) s) := by
  refine step_ops (orc := fun _ => none) (rec := fun _ => none) (fun c r h => by cases h) hP ?_
  have h1 : aOp P o (aev s.ts) s.h = none := by unfold aOp; rw [ho]; rfl
  have h2 : callOf P (aev s.ts) (.panic x) = none := rfl
  simp only [step, stepK, opsK, hw, h1, stepOp, h2, ho, hx, hm]
theorem h_opsRec (hP : okProg P G = true) (hw : wantedA o ops.toList s.ts = some true) {as : Array Operand} {ats : Array TypeId} (ho : o.op = .call { callee := .builtin .recover, args := as, argTypes := ats }) (hD : D = true) {v : Value} {older : List PanicEntry}
    (hu : s.u = .panicking ({ v := v, recovered := false, goexit := false } :: older)) (h : Holds P G B (.ops D ops (k + 1) l { put s o v with u := .panicking ({ v := v, recovered := true } :: older) }) r) : Holds P G B (.ops D ops k (o :: l) s) r := by
  refine step_ops (orc := fun _ => none) (rec := rec1 _ _) (rec1_ok h) hP ?_
  have h1 : aOp P o (aev s.ts) s.h = none := by unfold aOp; rw [ho]; rfl
  have h2 : callOf P (aev s.ts) (.call { callee := .builtin .recover, args := as, argTypes := ats }) = none := rfl
  subst hD
  simp only [step, stepK, opsK, hw, h1, stepOp, h2, ho, hu, rec1_at]
theorem h_opsRec0 (hP : okProg P G = true) (hw : wantedA o ops.toList s.ts = some true) {as : Array Operand} {ats : Array TypeId} (ho : o.op = .call { callee := .builtin .recover, args := as, argTypes := ats }) (hD : D = true)
    (hu : s.u = .returning) (h : Holds P G B (.ops D ops (k + 1) l (Abs.put s o .nilIface)) r) : Holds P G B (.ops D ops k (o :: l) s) r := by
  refine step_ops (orc := fun _ => none) (rec := rec1 _ _) (rec1_ok h) hP ?_
  have h1 : aOp P o (aev s.ts) s.h = none := by unfold aOp; rw [ho]; rfl
  have h2 : callOf P (aev s.ts) (.call { callee := .builtin .recover, args := as, argTypes := ats }) = none := rfl
  subst hD
  simp only [step, stepK, opsK, hw, h1, stepOp, h2, ho, hu, rec1_at]
theorem h_callE (hP : okProg P G = true) {f : FuncId} {args : List Value} {hh : Heap} {fn : Func} {c : Code} (hf : P.funcs[f]? = some fn) (hc : fn.body = some c) {s1 : St} {e : Exit} {u : FrameMode} (he : (e = .normal ∧ u = .returning) ∨ (e = .ret ∧ u = .returning) ∨ ∃ ch, e = .panic ch ∧ u = .panicking ch)
    (h1 : Holds P G B (.code false c ⟨Tm.of args fn.ntmps, [], hh, .run⟩) (.ex e s1)) (h2 : Holds P G B (.leaves fn s1.ts s1.ds u s1.h) r) : Holds P G B (.call f args hh) r := by
  refine step_call (orc := fun _ => none) (rec := rec2 _ _ _ _) (rec2_ok h1 h2) hP (orc0_ok B) ?_
  simp only [step, stepK, callK, asked, hf, hc, rec2_at]
  rcases he with ⟨he, hu⟩ | ⟨he, hu⟩ | ⟨ch, he, hu⟩ <;> subst he <;> subst hu <;> simp only <;> rw [rec2_at'] <;> intro e <;> cases e
theorem h_leaves0 (hP : okProg P G = true) {fn : Func} {ts : Tm} {hh : Heap} {v : Value} (hv : aResults P fn ts hh = some v) : Holds P G B (.leaves fn ts [] .returning hh) (.en (.returned v) .run hh) := by
  refine step_leaves (orc := fun _ => none) (rec := fun _ => none) (fun c r h => by cases h) hP ?_
  simp only [step, stepK, leavesK, hv]
theorem h_leavesP (hP : okProg P G = true) {fn : Func} {ts : Tm} {hh : Heap} {c : List PanicEntry} : Holds P G B (.leaves fn ts [] (.panicking c) hh) (.en (.panicked c) .run hh) := by
  refine step_leaves (orc := fun _ => none) (rec := fun _ => none) (fun c r h => by cases h) hP ?_
  simp only [step, stepK, leavesK]
theorem h_leavesD (hP : okProg P G = true) {fn : Func} {ts : Tm} {d : Deferred} {ds : List Deferred} {u : FrameMode} {hh : Heap} (hu : u ≠ .run) {g : FuncId} {cap : Array Value} (hd : d.target = .fn (.func g) cap) (hb : hasBody P g = true)
    {e : Ending} {u' u2 : FrameMode} {h' : Heap} (he : (∃ v, e = .returned v ∧ u2 = settle u') ∨ ∃ c, e = .panicked c ∧ u2 = raised u' c)
    (h1 : Holds P G B (.callD g (d.args.toList ++ cap.toList) u hh) (.en e u' h')) (h2 : Holds P G B (.leaves fn ts ds u2 h') r) : Holds P G B (.leaves fn ts (d :: ds) u hh) r := by
  refine step_leaves (orc := fun _ => none) (rec := rec2 _ _ _ _) (rec2_ok h1 h2) hP ?_
  cases u with
  | run => exact absurd rfl hu
  | returning =>
    simp only [step, stepK, leavesK, hd, hb, rec2_at]
    rcases he with ⟨v, he, h3⟩ | ⟨c, he, h3⟩ <;> subst he <;> subst h3 <;> simp only <;> rw [rec2_at'] <;> intro e <;> cases e
  | panicking c =>
    simp only [step, stepK, leavesK, hd, hb, rec2_at]
    rcases he with ⟨v, he, h3⟩ | ⟨c, he, h3⟩ <;> subst he <;> subst h3 <;> simp only <;> rw [rec2_at'] <;> intro e <;> cases e
theorem h_callD (hP : okProg P G = true) {f : FuncId} {args : List Value} {u : FrameMode} {hh : Heap} {fn : Func} {c : Code} (hf : P.funcs[f]? = some fn) (hc : fn.body = some c) {e : Exit} {ts : Tm} {h' : Heap} {u' : FrameMode} {v : Value} (he : e = .normal ∨ e = .ret)
    (h1 : Holds P G B (.code true c ⟨Tm.of args fn.ntmps, [], hh, u⟩) (.ex e ⟨ts, [], h', u'⟩)) (hv : aResults P fn ts h' = some v) : Holds P G B (.callD f args u hh) (.en (.returned v) u' h') := by
  refine step_callD (orc := fun _ => none) (rec := rec1 _ _) (rec1_ok h1) hP ?_
  simp only [step, stepK, callDK, hf, hc, rec1_at]
  rcases he with he | he <;> subst he <;> simp only [hv]
theorem h_callDP (hP : okProg P G = true) {f : FuncId} {args : List Value} {u : FrameMode} {hh : Heap} {fn : Func} {c : Code} (hf : P.funcs[f]? = some fn) (hc : fn.body = some c) {ts : Tm} {h' : Heap} {u' : FrameMode} {ch : List PanicEntry}
    (h1 : Holds P G B (.code true c ⟨Tm.of args fn.ntmps, [], hh, u⟩) (.ex (.panic ch) ⟨ts, [], h', u'⟩)) : Holds P G B (.callD f args u hh) (.en (.panicked ch) u' h') := by
  refine step_callD (orc := fun _ => none) (rec := rec1 _ _) (rec1_ok h1) hP ?_
  simp only [step, stepK, callDK, hf, hc, rec1_at]
theorem holds_canonD {c : Code} {s : St} {r : Res} {live : List Nat} (h : Holds P G B (.loop false c ⟨tmOf s.ts.n live (live.map s.ts.get), s.ds, s.h, .run⟩) r) : Holds P G B (.loop false c s) r := by
  cases r with
  | en _ _ _ => exact h.elim
  | ex e s2 =>
    intro c0 rest F a cs w hok hs
    refine h c0 rest F a cs w hok ⟨hs.1, hs.2.1.canon, hs.2.2.1, hs.2.2.2⟩
theorem opsCall_none {o : Oper} (h : isCallOp o.op = false) {ρ : Operand → Value} {g : FuncId} {args : List Value} : callOf P ρ o.op ≠ some (g, args) := by
  intro hc
  unfold callOf at hc
  split at hc
  · rename_i e; rw [e] at h; cases h
  · rename_i e; rw [e] at h; cases h
  · cases hc
theorem wpe_ok (hP : okProg P G = true) {W : How} (hkn : KnOk P G W) (hlp : LpOk P G W) : ∀ n c Q, wpe P (real P) W n c Q → ∃ r, (∀ B, Holds P G B c r) ∧ Q r
  | 0, c, Q, h => h.elim
  | n + 1, c, Q, h => by
    have ih := fun c Q => wpe_ok hP hkn hlp n c Q
    replace h : wStep P (real P) W (wpe P (real P) W n) Q c := h
    cases c with
    | code D c s =>
      replace h : wCode P (real P) W c D s (wpe P (real P) W n) Q := h
      cases c with
      | skip => exact ⟨_, fun _ => h_skip, h⟩
      | label l => exact ⟨_, fun _ => h_label, h⟩
      | ret => exact ⟨_, fun _ => h_ret, h⟩
      | exit id => exact ⟨_, fun _ => h_exit, h⟩
      | seq a b =>
        obtain ⟨r, h1, h2⟩ := ih _ _ h
        cases r with
        | en _ _ _ => exact (h1 noBase).elim
        | ex e s1 =>
          by_cases he : e = .normal
          · subst he
            obtain ⟨r2, h3, h4⟩ := ih _ _ h2
            exact ⟨r2, fun B => h_seq (h1 B) (h3 B), h4⟩
          · refine ⟨_, fun B => h_seq' hP (h1 B) (fun s' e => he (by simp only [Res.ex.injEq] at e; exact e.1)), ?_⟩
            cases e <;> first | exact absurd rfl he | exact h2
      | cond c a b =>
        simp only [wCode] at h
        split at h
        · rename_i t ht
          have h := branch_elim h
          cases t
          · obtain ⟨r, h1, h2⟩ := ih _ _ h; exact ⟨r, fun B => h_cond hP ht (h1 B), h2⟩
          · obtain ⟨r, h1, h2⟩ := ih _ _ h; exact ⟨r, fun B => h_cond hP ht (h1 B), h2⟩
        · exact h.elim
      | block id c =>
        obtain ⟨r, h1, h2⟩ := ih _ _ h
        refine ⟨_, fun B => h_block hP (h1 B), ?_⟩
        cases r with
        | en _ _ _ => exact (h1 noBase).elim
        | ex e s1 =>
          cases e <;> first | exact h2 | skip
          rename_i i
          simp only [wBlock, blkRes] at h2 ⊢
          split at h2 <;> simp_all
      | loop c =>
        simp only [wCode] at h
        split at h
        · obtain ⟨r, h1, h2⟩ := ih _ _ h; exact ⟨r, fun B => h_loop hP (h1 B), h2⟩
        · rename_i live S hS
          split at h
          · obtain ⟨r, h1, h2⟩ := hlp _ _ _ _ hS _ _ _ _ _ _ h
            exact ⟨r, fun B => h_loop hP (holds_canonD (h1 B)), h2⟩
          · exact h.elim
      | scope c =>
        obtain ⟨r, h1, h2⟩ := ih _ _ h
        cases r with
        | en _ _ _ => exact (h1 noBase).elim
        | ex e s1 =>
          by_cases hg : ∃ l, e = .goto l
          · obtain ⟨l, e⟩ := hg; subst e; exact h2.elim
          · refine ⟨_, fun B => h_scope hP (h1 B) (fun l s' e => hg ⟨l, by simp only [Res.ex.injEq] at e; exact e.1⟩), ?_⟩
            cases e <;> first | exact h2 | exact absurd ⟨_, rfl⟩ hg
      | region id ops d =>
        cases d with
        | false => obtain ⟨r, h1, h2⟩ := ih _ _ h; exact ⟨r, fun B => h_region hP (h1 B), h2⟩
        | true =>
          simp only [wCode] at h
          split at h
          · rename_i hc
            obtain ⟨ts', h', h1, h2⟩ := wDrG_draw hP ih hkn.2 hc h
            exact ⟨_, fun B => h_region' hP (h1 B), h2⟩
          · exact h.elim
      | rangeFunc f p x y => exact h.elim
      | goto l => exact h.elim
      | refuse y => exact h.elim
    | loop D c s =>
      obtain ⟨r, h1, h2⟩ := ih _ _ h
      cases r with
      | en _ _ _ => exact (h1 noBase).elim
      | ex e s1 =>
        by_cases he : e = .normal
        · subst he
          obtain ⟨r2, h3, h4⟩ := ih _ _ h2
          exact ⟨r2, fun B => h_loopN (h1 B) (h3 B), h4⟩
        · refine ⟨_, fun B => h_loopX (h1 B) (fun s' e => he (by simp only [Res.ex.injEq] at e; exact e.1)), ?_⟩
          cases e <;> first | exact absurd rfl he | exact h2
    | ops D ops k todo s =>
      cases todo with
      | nil => exact ⟨_, fun _ => h_ops0, h⟩
      | cons o r =>
        simp only [wStep, wOps] at h
        obtain ⟨ts', hts, h⟩ := wGuardS_ok h
        rcases h with ⟨hw, h⟩ | ⟨hw, h⟩
        · split at h
          · obtain ⟨⟨g, args⟩, hc, h⟩ := opt_elim h
            obtain ⟨r1, h1, h2⟩ := ih _ _ h
            cases r1 with
            | ex _ _ => exact (h1 noBase).elim
            | en e u h' =>
              cases e with
              | returned v =>
                obtain ⟨r2, h3, h4⟩ := ih _ _ h2
                exact ⟨r2, fun B => holds_ts hts (h_opsCall (s := { s with ts := ts' }) hP hw (callOf_noVal hc) hc (h1 B) (h3 B)), h4⟩
              | panicked c => exact ⟨_, fun B => holds_ts hts (h_opsCallP (s := { s with ts := ts' }) hP hw (callOf_noVal hc) hc (h1 B)), h2⟩
              | outgrown => exact h2.elim
          · split at h
            · rename_i f as ats ho
              split at h
              · rename_i fn first cap hf
                obtain ⟨r2, h3, h4⟩ := ih _ _ h
                exact ⟨r2, fun B => holds_ts hts (h_opsDefer (s := { s with ts := ts' }) hP hw ho hf (h3 B)), h4⟩
              · exact h.elim
            · rename_i x ho
              split at h
              · rename_i t v hx
                split at h
                · exact h.elim
                · rename_i hm
                  exact ⟨_, fun B => holds_ts hts (h_opsPanic (s := { s with ts := ts' }) hP hw ho hx hm), h⟩
              · exact h.elim
            · rename_i as ats ho
              split at h
              · rename_i v older hu _
                obtain ⟨r2, h3, h4⟩ := ih _ _ h
                exact ⟨r2, fun B => holds_ts hts (h_opsRec (s := { s with ts := ts' }) hP hw ho rfl hu (h3 B)), h4⟩
              · rename_i hu _
                obtain ⟨r2, h3, h4⟩ := ih _ _ h
                exact ⟨r2, fun B => holds_ts hts (h_opsRec0 (s := { s with ts := ts' }) hP hw ho rfl hu (h3 B)), h4⟩
              · exact h.elim
            · obtain ⟨v, H', ho, h⟩ := wOpC_ok h
              obtain ⟨r2, h3, h4⟩ := ih _ _ h
              exact ⟨r2, fun B => holds_ts hts (h_opsVal (s := { s with ts := ts' }) hP hw ho (h3 B)), h4⟩
        · obtain ⟨r2, h3, h4⟩ := ih _ _ h
          exact ⟨r2, fun B => holds_ts hts (h_opsSkip (s := { s with ts := ts' }) hP hw (h3 B)), h4⟩
    | draw _ _ => exact h.elim
    | call f args hh =>
      simp only [wStep] at h
      split at h
      · rename_i S hS
        obtain ⟨v, H', h1, h2⟩ := hkn.1 _ _ hS _ _ _ h
        exact ⟨.en (.returned v) .run H', h1, h2⟩
      · split at h
        · rename_i S hS
          obtain ⟨v, h1, h2⟩ := hkn.2 _ _ hS _ _ h
          exact ⟨.en (.returned v) .run _, fun B => h1 B _, h2⟩
        obtain ⟨fn, hf, h⟩ := opt_elim h
        obtain ⟨c, hc, h⟩ := opt_elim h
        obtain ⟨r, h1, h2⟩ := ih _ _ h
        cases r with
        | en _ _ _ => exact (h1 noBase).elim
        | ex e s1 =>
          cases e <;> (try (exact h2.elim))
          · obtain ⟨r2, h3, h4⟩ := ih _ _ h2
            exact ⟨r2, fun B => h_callE hP hf hc (.inl ⟨rfl, rfl⟩) (h1 B) (h3 B), h4⟩
          · obtain ⟨r2, h3, h4⟩ := ih _ _ h2
            exact ⟨r2, fun B => h_callE hP hf hc (.inr (.inl ⟨rfl, rfl⟩)) (h1 B) (h3 B), h4⟩
          · obtain ⟨r2, h3, h4⟩ := ih _ _ h2
            exact ⟨r2, fun B => h_callE hP hf hc (.inr (.inr ⟨_, rfl, rfl⟩)) (h1 B) (h3 B), h4⟩
    | callD f args u hh =>
      simp only [wStep] at h
      obtain ⟨fn, hf, h⟩ := opt_elim h
      obtain ⟨c, hc, h⟩ := opt_elim h
      obtain ⟨r, h1, h2⟩ := ih _ _ h
      unfold wBodyD at h2
      split at h2
      · obtain ⟨v, hv, hq⟩ := opt_elim h2
        exact ⟨_, fun B => h_callD hP hf hc (.inl rfl) (h1 B) hv, hq⟩
      · obtain ⟨v, hv, hq⟩ := opt_elim h2
        exact ⟨_, fun B => h_callD hP hf hc (.inr rfl) (h1 B) hv, hq⟩
      · exact ⟨_, fun B => h_callDP hP hf hc (h1 B), h2⟩
      · exact h2.elim
    | leaves fn ts ds u hh =>
      simp only [wStep] at h
      cases ds with
      | nil =>
        simp only [wLeaves] at h
        split at h
        · obtain ⟨v, hv, hq⟩ := opt_elim h
          exact ⟨_, fun B => h_leaves0 hP hv, hq⟩
        · exact ⟨_, fun B => h_leavesP hP, h⟩
        · exact h.elim
      | cons d ds =>
        simp only [wLeaves] at h
        split at h
        · exact h.elim
        · rename_i g cap hu hd
          split at h
          · rename_i hb
            obtain ⟨r, h1, h2⟩ := ih _ _ h
            split at h2
            · obtain ⟨r2, h3, h4⟩ := ih _ _ h2
              exact ⟨r2, fun B => h_leavesD hP (fun e => hu e) hd hb (.inl ⟨_, rfl, rfl⟩) (h1 B) (h3 B), h4⟩
            · obtain ⟨r2, h3, h4⟩ := ih _ _ h2
              exact ⟨r2, fun B => h_leavesD hP (fun e => hu e) hd hb (.inr ⟨_, rfl, rfl⟩) (h1 B) (h3 B), h4⟩
            · exact h2.elim
          · exact h.elim
        · exact h.elim
end
end
end Go.Abs
