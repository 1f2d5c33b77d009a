/- The evaluator's commands and what each says of a run. -/
import Derived.Test.YtblbaohcelldpaaGreatB2
namespace Go.Abs
open Go
set_option linter.unusedVariables false
noncomputable section
def ChR (F : Nm) : List PanicEntry → List PanicEntry → Prop
  | [], l' => l' = []
  | e :: l, l' => ∃ v' r', VR F e.v v' ∧ ChR F l r' ∧ l' = { v := v', recovered := e.recovered, goexit := e.goexit } :: r'
def DsR (F : Nm) : List Deferred → List Deferred → Prop
  | [], l' => l' = []
  | d :: l, l' => ∃ fn cap cap' args' r', d.target = .fn fn cap ∧ VRA F cap cap' ∧ VRA F d.args args' ∧ DsR F l r' ∧ l' = { target := .fn fn cap', args := args' } :: r'
def MR (F : Nm) : FrameMode → FrameMode → Prop
  | .run, m => m = .run
  | .returning, m => m = .returning
  | .panicking c, m => ∃ c', ChR F c c' ∧ m = .panicking c'
def ER (F : Nm) : Exit → Exit → Prop
  | .panic c, e' => ∃ c', ChR F c c' ∧ e' = .panic c'
  | .outgrown, _ => False
  | e, e' => e' = e
def EnR (F : Nm) : Ending → Ending → Prop
  | .returned v, e' => ∃ v', VR F v v' ∧ e' = .returned v'
  | .panicked c, e' => ∃ c', ChR F c c' ∧ e' = .panicked c'
  | .outgrown, _ => False
theorem ChR.mono {F F' : Nm} (h : Nm.le F F') : ∀ {l l' : List PanicEntry}, ChR F l l' → ChR F' l l'
  | [], _, e => e
  | _ :: _, _, ⟨v', r', h1, h2, e⟩ => ⟨v', r', h1.mono h, ChR.mono h h2, e⟩
theorem DsR.mono {F F' : Nm} (h : Nm.le F F') : ∀ {l l' : List Deferred}, DsR F l l' → DsR F' l l'
  | [], _, e => e
  | _ :: _, _, ⟨fn, cap, cap', args', r', h0, h1, h2, h3, e⟩ => ⟨fn, cap, cap', args', r', h0, h1.mono h, h2.mono h, DsR.mono h h3, e⟩
theorem MR.mono {F F' : Nm} (h : Nm.le F F') {m m' : FrameMode} (hm : MR F m m') : MR F' m m' := by
  cases m with
  | run => exact hm
  | returning => exact hm
  | panicking c => obtain ⟨c', h1, e⟩ := hm; exact ⟨c', h1.mono h, e⟩
theorem ChR.append {F : Nm} : ∀ {l l' m m' : List PanicEntry}, ChR F l l' → ChR F m m' → ChR F (l ++ m) (l' ++ m')
  | [], _, _, _, e, h => by simp only [ChR] at e; subst e; exact h
  | _ :: _, _, _, _, ⟨v', r', h1, h2, e⟩, h => by subst e; exact ⟨v', _, h1, ChR.append h2 h, rfl⟩
theorem ChR.dropWhile {F : Nm} : ∀ {l l' : List PanicEntry}, ChR F l l' → ChR F (l.dropWhile (!·.goexit)) (l'.dropWhile (!·.goexit))
  | [], _, e => by simp only [ChR] at e; subst e; rfl
  | x :: l, _, ⟨v', r', h1, h2, e⟩ => by
    subst e
    cases hx : x.goexit with
    | true =>
      rw [List.dropWhile_cons_of_neg (by simp [hx]), List.dropWhile_cons_of_neg (by simp)]
      exact ⟨v', r', h1, h2, by rw [hx]⟩
    | false =>
      rw [List.dropWhile_cons_of_pos (by simp [hx]), List.dropWhile_cons_of_pos (by simp)]
      exact ChR.dropWhile h2
theorem MR.settle {F : Nm} {m m' : FrameMode} (h : MR F m m') : MR F (settle m) (settle m') := by
  cases m with
  | run => simp only [MR] at h; subst h; exact rfl
  | returning => simp only [MR] at h; subst h; exact rfl
  | panicking c =>
    obtain ⟨c', hc, e⟩ := h
    subst e
    cases c with
    | nil => simp only [ChR] at hc; subst hc; exact ⟨[], rfl, rfl⟩
    | cons x l =>
      obtain ⟨v', r', h1, h2, e⟩ := hc
      subst e
      obtain ⟨xv, xr, xg⟩ := x
      cases xr with
      | false => exact ⟨_, ⟨v', r', h1, h2, rfl⟩, rfl⟩
      | true =>
        have hd := h2.dropWhile
        simp only [Go.settle]
        cases hl : l.dropWhile (!·.goexit) with
        | nil => rw [hl] at hd; simp only [ChR] at hd; rw [hd]; rfl
        | cons y ys =>
          rw [hl] at hd
          obtain ⟨v2, r2, g1, g2, g3⟩ := hd
          rw [g3]
          exact ⟨_, ⟨v2, r2, g1, g2, rfl⟩, rfl⟩
theorem MR.raised {F : Nm} {m m' : FrameMode} (h : MR F m m') {c c' : List PanicEntry} (hc : ChR F c c') : MR F (raised m c) (raised m' c') := by
  cases m with
  | run => simp only [MR] at h; subst h; exact ⟨c', hc, rfl⟩
  | returning => simp only [MR] at h; subst h; exact ⟨c', hc, rfl⟩
  | panicking d => obtain ⟨d', hd, e⟩ := h; subst e; exact ⟨_, hc.append hd, rfl⟩
structure St where
  ts : Tm
  ds : List Deferred
  h : Heap
  u : FrameMode
inductive Cmd where
  | code (D : Bool) (c : Code) (s : St)
  | loop (D : Bool) (c : Code) (s : St)
  | ops (D : Bool) (ops : Array Oper) (k : Nat) (todo : List Oper) (s : St)
  | draw (ops : Array Oper) (s : St)
  | call (f : FuncId) (args : List Value) (h : Heap)
  | callD (f : FuncId) (args : List Value) (u : FrameMode) (h : Heap)
  | leaves (fn : Func) (ts : Tm) (ds : List Deferred) (u : FrameMode) (h : Heap)
inductive Res where
  | ex (e : Exit) (s : St)
  | en (e : Ending) (u : FrameMode) (h : Heap)
def okOper (G : Nat) (o : Oper) : Bool := o.op.operands.all (okOpd G)
def okCode (G : Nat) : Code → Bool
  | .region _ ops _ => ops.all (okOper G)
  | .seq a b => okCode G a && okCode G b
  | .cond c a b => okOpd G c && okCode G a && okCode G b
  | .block _ c => okCode G c
  | .loop c => okCode G c
  | .scope c => okCode G c
  | _ => true
def okFunc (G : Nat) (fn : Func) : Bool := match fn.body with
  | some c => fn.name != "runtime.NumGoroutine" && okCode G c
  | none => true
def okProg (P : Program) (G : Nat) : Bool := P.follows .mixedOrders && P.funcs.all (okFunc G)
section
variable (P : Program) (G : Nat) (w0 : Base)
def SR (D : Bool) (c0 : Frame) (rest : List Frame) (F : Nm) (s : St) (a : Act) (cs : List Frame) (w : World) : Prop :=
  Rel G F s.h w0 w ∧ TR F s.ts a.tmps ∧ DsR F s.ds a.defers ∧
    match D with
    | true => ∃ m, cs = { c0 with mode := m } :: rest ∧ MR F s.u m
    | false => cs = rest
def Ends (D : Bool) (c0 : Frame) (rest : List Frame) (F : Nm) (e : Exit) (s : St) : Exit → Act → List Frame → World → Prop :=
  fun e' a' cs' w' => ∃ F', Nm.le F F' ∧ ER F' e e' ∧ SR G w0 D c0 rest F' s a' cs' w'
def CallH (f : FuncId) (args : List Value) (h : Heap) (e : Ending) (h' : Heap) : Prop :=
  ∀ F w args', Rel G F h w0 w → VRL F args args'.toList → Calls P f args' w fun e' w' => ∃ F', Nm.le F F' ∧ EnR F' e e' ∧ Rel G F' h' w0 w'
def Holds : Cmd → Res → Prop
  | .code D c s, .ex e s' => ∀ c0 rest F a cs w, okCode G c = true → SR G w0 D c0 rest F s a cs w → WP P D c (Ends G w0 D c0 rest F e s') a cs w
  | .loop D c s, .ex e s' => ∀ c0 rest F a cs w, okCode G c = true → SR G w0 D c0 rest F s a cs w → WPat P D [.code c, .inLoop c] (Ends G w0 D c0 rest F e s') a cs w
  | .ops D ops k todo s, .ex e s' => todo = ops.toList.drop k → ops.all (okOper G) = true → ∀ c0 rest F a cs w, SR G w0 D c0 rest F s a cs w →
      WPat P D [.inRegion ops (List.range' k todo.length)] (Ends G w0 D c0 rest F e s') a cs w
  | .draw ops s, .ex e s' => ops.all (okOper G) = true → ∀ c0 rest F a cs w, SR G w0 false c0 rest F s a cs w →
      wpAny P .any ops (fun e' a' w' => Ends G w0 false c0 rest F e s' e' a' cs w') ops.size (Array.replicate ops.size false) a { w with drawn := w.drawn + 1 }
  | .call f args h, .en e _ h' => CallH P G w0 f args h e h'
  | .callD f args u h, .en e u' h' => ∀ F w args' m, Rel G F h w0 w → VRL F args args'.toList → MR F u m → CallsD P f args' m w fun e' m' w' => ∃ F', Nm.le F F' ∧ EnR F' e e' ∧ MR F' u' m' ∧ Rel G F' h' w0 w'
  | .leaves fn ts ds u h, .en e _ h' => ∀ F w tmps ds' m, Rel G F h w0 w → TR F ts tmps → DsR F ds ds' → MR F u m →
      Leaves P fn tmps (fun e' w' => ∃ F', Nm.le F F' ∧ EnR F' e e' ∧ Rel G F' h' w0 w') ds' m w
  | _, _ => False
end
def aResult (P : Program) (ts : Tm) (h : Heap) : ResultVar → Option Value
  | .tmp t => some (ts.get t)
  | .cell a t => match ts.get a with
    | .pointer (some ad) => aLoad P h t ad
    | _ => none
def aResultsL (P : Program) (ts : Tm) (h : Heap) : List ResultVar → Option (List Value)
  | [] => some []
  | r :: rs => match aResult P ts h r, aResultsL P ts h rs with
    | some v, some l => some (v :: l)
    | _, _ => none
def aResults (P : Program) (fn : Func) (ts : Tm) (h : Heap) : Option Value :=
  match aResultsL P ts h fn.results.toList with
  | some [v] => some v
  | some l => some (.tuple l.toArray)
  | none => none
section
variable {P : Program} {G : Nat} {F : Nm} {H : Heap} {w0 : Base} {w : World}
theorem aResult_ok (R : Rel G F H w0 w) {ts : Tm} {tmps : Array Value} (ht : TR F ts tmps) {r : ResultVar} {v : Value} (h : aResult P ts H r = some v) :
    ∃ v', ((match r with | .tmp t => Pure.pure (tmps.getD t undef) | .cell a t => do loadVar t (← asAddr (tmps.getD a undef)) : Sem Value)).run P w = .ok v' w ∧ VR F v v' := by
  cases r with
  | tmp t =>
    simp only [aResult, Option.some.injEq] at h; subst h
    exact ⟨_, rfl, ht.2 t⟩
  | cell a t =>
    simp only [aResult] at h
    have hg := ht.2 a
    split at h <;> (try (cases h; done))
    rename_i ad e
    rw [e] at hg; simp only [VR] at hg; obtain ⟨ad', har, e'⟩ := hg
    obtain ⟨v', h1, h2⟩ := aLoad_ok (P := P) R har h
    exact ⟨v', by simp [e', asAddr, h1], h2⟩
theorem aResultsL_ok (R : Rel G F H w0 w) {ts : Tm} {tmps : Array Value} (ht : TR F ts tmps) : ∀ (rs : List ResultVar) (l : List Value), aResultsL P ts H rs = some l →
    ∃ l', (rs.mapM fun (r : ResultVar) => (match r with | .tmp t => Pure.pure (tmps.getD t undef) | .cell a t => do loadVar t (← asAddr (tmps.getD a undef)) : Sem Value)).run P w = .ok l' w ∧ VRL F l l'
  | [], l, h => by simp only [aResultsL, Option.some.injEq] at h; subst h; exact ⟨[], rfl, by simp [VRL]⟩
  | r :: rs, l, h => by
    simp only [aResultsL] at h
    split at h <;> (try (cases h; done))
    rename_i v l2 hv hl
    simp only [Option.some.injEq] at h; subst h
    obtain ⟨v', h1, h2⟩ := aResult_ok (P := P) R ht hv
    obtain ⟨l', h3, h4⟩ := aResultsL_ok R ht rs l2 hl
    refine ⟨v' :: l', ?_, by simp only [VRL]; exact ⟨v', l', h2, h4, rfl⟩⟩
    rw [List.mapM_cons]
    rw [Sem.run_bind, h1]; simp only [Result.andThen_ok]
    rw [Sem.run_bind, h3]; rfl
theorem aResults_ok (R : Rel G F H w0 w) {ts : Tm} {tmps : Array Value} (ht : TR F ts tmps) {fn : Func} {v : Value} (h : aResults P fn ts H = some v) :
    ∃ v', (results fn tmps).run P w = .ok v' w ∧ VR F v v' := by
  unfold aResults at h
  have key : ∀ l, aResultsL P ts H fn.results.toList = some l → ∃ l', VRL F l l' ∧ (results fn tmps).run P w = .ok (if h : l'.toArray.size = 1 then l'.toArray[0] else .tuple l'.toArray) w := by
    intro l hl
    obtain ⟨l', h1, h2⟩ := aResultsL_ok R ht _ l hl
    refine ⟨l', h2, ?_⟩
    unfold results
    rw [Sem.run_bind, Array.mapM_eq_mapM_toList, Sem.run_map]
    exact congrArg (fun r : Result (List Value) => (r.andThen fun a w' => Result.ok a.toArray w').andThen fun a w' => Sem.run P (Pure.pure (if h : a.size = 1 then a[0] else Value.tuple a)) w') h1
  split at h
  · rename_i x hl
    simp only [Option.some.injEq] at h; subst h
    obtain ⟨l', h1, h2⟩ := key _ hl
    simp only [VRL] at h1; obtain ⟨v', r', g1, g2, e⟩ := h1; subst g2; subst e
    exact ⟨v', by rw [h2]; simp, g1⟩
  · rename_i l hne hl
    simp only [Option.some.injEq] at h; subst h
    obtain ⟨l', h1, h2⟩ := key _ hl
    have hlen := h1.length
    refine ⟨.tuple l'.toArray, ?_, by simp only [VR]; exact ⟨_, VRA.ofL (by simpa using h1), rfl⟩⟩
    rw [h2, dif_neg]
    intro hc
    have : l.length = 1 := by simpa [hlen] using hc
    match l, this with
    | [x], _ => exact hne x rfl
  · cases h
end
end
end Go.Abs
