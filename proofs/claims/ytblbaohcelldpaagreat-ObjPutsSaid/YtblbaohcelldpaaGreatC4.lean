/- Short words for values. -/
import Derived.Test.YtblbaohcelldpaaGreatC3
import Derived.OpenShut
namespace Go.Abs
open Go
set_option linter.unusedVariables false
noncomputable section
def vb (b : Bool) : Value := .bool b
def vu (n : Nat) : Value := .int .u8 n
def vi (n : Nat) : Value := .int .i64 n
def vm (n : Nat) : Value := .int .i64 (-n)
def vk (k : IntKind) (n : Int) : Value := .int k n
def vw (n : Nat) : Value := .int .u16 n
def vd (n : Nat) : Value := .int .u32 n
def vq (n : Nat) : Value := .int .u64 n
def vs (l : List Nat) : Value := .string ⟨(l.map UInt8.ofNat).toArray⟩
def vr (l : List (Nat × Nat)) : Value := .string ⟨(l.flatMap fun x => List.replicate x.1 (UInt8.ofNat x.2)).toArray⟩
def vp (b o : Nat) : Value := .pointer (some ⟨b, o, none⟩)
def vl (b o n c : Nat) : Value := .slice (some ⟨b, o, none⟩) n c
def vP : Value := .pointer none
def vL : Value := .slice none 0 0
def vM : Value := .map none
def vI (t : TypeId) (v : Value) : Value := .iface t v
def va (l : List Value) : Value := .agg l.toArray
def vt (l : List Value) : Value := .tuple l.toArray
def vf (f : FuncId) (x y : List Value) : Value := .func (.func f) x.toArray y.toArray
def us (l : List Nat) : List Value := l.map vu
def rp (n : Nat) (v : Value) : List Value := List.replicate n v
def ao (t sz : Nat) (l : List Value) : AObj := .cells l t sz false true
def re (v : Value) : Ending := .returned v
def pe (v : Value) : PanicEntry := { v := v, recovered := false }
end
end Go.Abs
namespace Go.Abs
open Go
noncomputable section
section
variable {P : Program} {G : Nat}
theorem closed_callG (hP : okProg P G = true) {orc : Orc} (horc : ∀ B, OrcOk P G B orc) {gl : List (Nat × AObj)} {f : FuncId} {n : Nat}
    (h : retTrue (ev P orc n (.call f [] (hOf G gl []))) = true) (w : World) (hgl : ∀ x ∈ gl, x.1 < G ∧ x.2.own = false ∧ objR (startN G) (allOf w) w x.1 x.2) :
    Calls P f #[] w fun e w' => e = .returned (.bool true) ∧ ∃ F H, Rel G F H (allOf w) w' := by
  have hget : ∀ m o, (hOf G gl []).get m = some o → m < G ∧ o.own = false ∧ objR (startN G) (allOf w) w m o := by
    intro m o hm
    rw [hOf_get, if_neg (by simp only [List.length_nil]; omega)] at hm
    exact hgl _ (glTr_mem _ _ _ hm)
  have hR : Rel G (startN G) (hOf G gl []) (allOf w) w := by
    constructor
    · intro n o hn; exact (hget n o hn).2.2
    · intro n m o o' hn hm hne ho; rw [(hget n o hn).2.1] at ho; cases ho
    · intro n hn
      have hn : G ≤ n := hn
      simp only [startN]; rw [if_neg (by omega)]
    · intro g hg; simp only [startN]; rw [if_pos hg]
    · exact Nat.le_refl _
    · intro i _; rfl
    · intro b i v h; cases h
    · intro b i v h; cases h
    · rfl
    · rfl
    · rfl
  unfold retTrue at h
  split at h
  · rename_i u H h2
    have := ev_ok_all hP horc n (allOf w) _ _ h2 (startN G) w #[] hR (by simp [VRL])
    refine this.mono fun e w' ⟨F, _, he, R⟩ => ?_
    simp only [EnR] at he
    obtain ⟨v', h1, h2⟩ := he
    simp only [VR] at h1
    subst h1
    exact ⟨h2, F, H, R⟩
  · cases h
theorem objR_var {w : World} {g : Nat} (hg : g < G) {c : Array Value} {t : TypeId} {fz : Nat × Nat} (h : w.heap[g]? = some (.cells c t fz)) {vs : List Value} {elem sz : Nat}
    (hv : VRL (startN G) vs (c.toList.take vs.length)) (hl : vs.length ≤ c.size) : objR (startN G) (allOf w) w g (.cells vs elem sz true false) :=
  ⟨g, 0, 0, c, fz, by simp only [startN]; rw [if_pos hg], ⟨t, h, fun h => by cases h⟩, by simpa using hv, by omega, fun h => (by cases h), fun h => (by cases h)⟩
end
end
end Go.Abs
/- A listed package variable that is a table of integers, told of a heap. -/
namespace Go.Abs
open Go
theorem ints_of_trod {P : Program} {w : World} {t e : TypeId} {n : Nat} {k : IntKind} (hu : P.underlying t = some (.array n e)) (he : P.underlying e = some (.int k)) (hc : P.cellsOf e = 1)
    {l : List Int} (hn : n = l.length) (hct : P.cellsOf t = n) {H : Type} {enc : TypeId × Value → H} {base : Nat} {spare : Nat → Bool} {held : Bool} {fuel : Nat} {cs : List Value} {p : List MemPlace}
    (hd : DataW.trod enc P w base spare held fuel t cs = some (.agg (l.map fun v => .lit (.int k v)), p)) : cs = l.map (Value.int k) := by
  obtain ⟨xs, m, rfl, hx, hlen, hxn, hel⟩ := DataW.trod_array hu hd
  simp only [Prod.mk.injEq, DataW.agg.injEq] at hx
  obtain ⟨hx1, _⟩ := hx
  apply List.ext_getElem?
  intro i
  rw [List.getElem?_map]
  rcases Nat.lt_or_ge i n with hi | hi
  · have h1 := hel i hi
    rw [hc, Nat.mul_one] at h1
    have hxi : i < xs.length := by omega
    rw [List.getElem?_eq_getElem hxi] at h1
    obtain ⟨v, e1, e2, _⟩ := DataW.trod_int he h1
    have h2 : (l.map fun v => (DataW.lit (Lit.int k v) : DataW H))[i]? = (xs.map (·.1))[i]? := by rw [hx1]
    rw [List.getElem?_map, List.getElem?_map, List.getElem?_eq_getElem hxi, e2, List.getElem?_eq_getElem (by omega : i < l.length)] at h2
    simp only [Option.map_some, Option.some.injEq, DataW.lit.injEq, Lit.int.injEq, true_and] at h2
    rw [List.getElem?_eq_getElem (by omega : i < l.length), h2]
    have h3 : ((cs.drop i).take 1)[0]? = some (Value.int k v) := by rw [e1]; rfl
    rw [List.getElem?_take, if_pos (by omega), List.getElem?_drop] at h3
    simpa using h3
  · rw [List.getElem?_eq_none (by omega), List.getElem?_eq_none (by omega)]; rfl
theorem laid_ints {P : Program} {G : Nat} {w : World} {name : String} {g : Nat} {t e : TypeId} {n : Nat} {k : IntKind} {elem sz : Nat} (l : List Int) (hg : P.globalNamed name = some g) (ht : (P.globals[g]?).map (·.type) = some t)
    (hu : P.underlying t = some (.array n e)) (he : P.underlying e = some (.int k)) (hc : P.cellsOf e = 1) (hn : n = l.length) (hct : P.cellsOf t = n) (hG : g < G) {r : List (String × DataW Unit)}
    (h : laidMet P ((name, .agg (l.map fun v => .lit (.int k v))) :: r) w) : objR (startN G) (allOf w) w g (.cells (l.map (Value.int k)) elem sz true false) := by
  obtain ⟨ps, ⟨g0, t0, cs0, f0, p0, q0, hg0, ht0, hv0, hd0, _, _⟩, _, _⟩ := h
  obtain rfl := Option.some.inj (hg.symm.trans hg0)
  obtain rfl := Option.some.inj (ht.symm.trans ht0)
  have hcs := ints_of_trod hu he hc hn hct hd0
  simp only [World.var?, hg, Option.bind_some] at hv0
  split at hv0
  · rename_i c t' fz hb
    simp only [Option.some.injEq] at hv0; subst hv0
    refine objR_var hG hb ?_ ?_
    · have e1 : c.toList.take (l.map (Value.int k)).length = l.map (Value.int k) := by rw [hcs]; exact List.take_of_length_le (Nat.le_refl _)
      rw [e1]
      have hp : ∀ l : List Int, plainL (l.map (Value.int k)) = true := by
        intro l
        induction l with
        | nil => rfl
        | cons v l ih => simp only [List.map_cons, plainL, ih, Bool.and_true, plain]
      exact (VRL.plain_eq _ _ (hp l)).2 rfl
    · have := congrArg List.length hcs
      simp only [Array.length_toList] at this
      omega
  · cases hv0
end Go.Abs
/- How pieces of a run are put together: each rule alone. -/
namespace Go.Abs
open Go
noncomputable section
section
variable {P : Program} {G : Nat} {B : Base} {D : Bool} {s : St} {r : Res}
open Classical in
def rec1 (c : Cmd) (r : Res) : Cmd → Option Res := fun c' => if c' = c then some r else none
theorem rec1_ok {c : Cmd} (h : Holds P G B c r) : ∀ c' r', rec1 c r c' = some r' → Holds P G B c' r' := by
  intro c' r' e; unfold rec1 at e; split at e
  · rename_i h1; subst h1; simp only [Option.some.injEq] at e; subst e; exact h
  · cases e
theorem rec1_at (c : Cmd) (r : Res) : rec1 c r c = some r := by simp [rec1]
open Classical in
def rec2 (c : Cmd) (r : Res) (d : Cmd) (q : Res) : Cmd → Option Res := fun c' => if c' = c then some r else if c' = d then some q else none
theorem rec2_ok {c d : Cmd} {q : Res} (h : Holds P G B c r) (h' : Holds P G B d q) : ∀ c' r', rec2 c r d q c' = some r' → Holds P G B c' r' := by
  intro c' r' e; unfold rec2 at e; split at e
  · rename_i h1; subst h1; simp only [Option.some.injEq] at e; subst e; exact h
  · split at e
    · rename_i h1; subst h1; simp only [Option.some.injEq] at e; subst e; exact h'
    · cases e
theorem rec2_at (c : Cmd) (r : Res) (d : Cmd) (q : Res) : rec2 c r d q c = some r := by simp [rec2]
theorem rec2_at' (c : Cmd) (r : Res) (d : Cmd) (q : Res) (h : d ≠ c) : rec2 c r d q d = some q := by simp [rec2, h]
theorem h_skip : Holds P G B (.code D .skip s) (.ex .normal s) := by
  intro c0 rest F a cs w _ hs
  exact WP.skip ⟨F, Nm.le_refl F, rfl, hs⟩
theorem h_label {l : Nat} : Holds P G B (.code D (.label l) s) (.ex .normal s) := by
  intro c0 rest F a cs w _ hs
  exact WP.label ⟨F, Nm.le_refl F, rfl, hs⟩
theorem h_ret : Holds P G B (.code D .ret s) (.ex .ret s) := by
  intro c0 rest F a cs w _ hs
  exact WP.ret ⟨F, Nm.le_refl F, rfl, hs⟩
theorem h_exit {id : Nat} : Holds P G B (.code D (.exit id) s) (.ex (.exit id) s) := by
  intro c0 rest F a cs w _ hs
  exact WP.exit ⟨F, Nm.le_refl F, rfl, hs⟩
theorem h_seq {x y : Code} {s1 : St} (h1 : Holds P G B (.code D x s) (.ex .normal s1)) (h2 : Holds P G B (.code D y s1) r) : Holds P G B (.code D (.seq x y) s) r := by
  cases r with
  | en _ _ _ => exact h2.elim
  | ex e s2 =>
    intro c0 rest F a cs w hok hs
    simp only [okCode, Bool.and_eq_true] at hok
    refine WP.seq ((h1 c0 rest F a cs w hok.1 hs).mono fun e' a' cs' w' ⟨F', hle, he, hs'⟩ => ?_)
    simp only [ER] at he; subst he
    exact (h2 c0 rest F' a' cs' w' hok.2 hs').mono fun _ _ _ _ q => Ends.mono hle q
theorem h_seq' (hP : okProg P G = true) {x y : Code} (h1 : Holds P G B (.code D x s) r) (hr : ∀ s', r ≠ .ex .normal s') : Holds P G B (.code D (.seq x y) s) r := by
  refine step_code (orc := fun _ => none) (rec := rec1 _ _) (rec1_ok h1) hP ?_
  simp only [step, stepK, codeK, rec1_at]
  split
  · rename_i s' e; simp only [Option.some.injEq] at e; exact absurd e (hr s')
  · rfl
theorem h_cond (hP : okProg P G = true) {c : Operand} {x y : Code} {t : Bool} (hc : aev s.ts c = .bool t) (h : Holds P G B (.code D (match t with | true => x | false => y) s) r) : Holds P G B (.code D (.cond c x y) s) r := by
  refine step_code (orc := fun _ => none) (rec := rec1 _ _) (rec1_ok h) hP ?_
  cases t <;> simp only [step, stepK, codeK, hc, rec1_at]
def blkRes (id : Nat) : Res → Res
  | .ex (.exit i) s' => match Nat.beq i id with
    | true => .ex .normal s'
    | false => .ex (.exit i) s'
  | r => r
theorem h_block (hP : okProg P G = true) {id : Nat} {c : Code} (h : Holds P G B (.code D c s) r) : Holds P G B (.code D (.block id c) s) (blkRes id r) := by
  refine step_code (orc := fun _ => none) (rec := rec1 _ _) (rec1_ok h) hP ?_
  simp only [step, stepK, codeK, rec1_at]
  split
  · rename_i e; simp only [Option.some.injEq] at e; subst e
    simp only [blkRes]
    split <;> simp_all
  · rename_i hne
    cases r with
    | en _ _ _ => rfl
    | ex e s1 =>
      cases e <;> first | rfl | exact absurd rfl (hne _ _)
theorem h_scope (hP : okProg P G = true) {c : Code} (h : Holds P G B (.code D c s) r) (hr : ∀ l s', r ≠ .ex (.goto l) s') : Holds P G B (.code D (.scope c) s) r := by
  refine step_code (orc := fun _ => none) (rec := rec1 _ _) (rec1_ok h) hP ?_
  simp only [step, stepK, codeK, rec1_at]
  split
  · rename_i e; simp only [Option.some.injEq] at e; exact absurd e (hr _ _)
  · rfl
theorem h_loop (hP : okProg P G = true) {c : Code} (h : Holds P G B (.loop D c s) r) : Holds P G B (.code D (.loop c) s) r := by
  refine step_code (orc := fun _ => none) (rec := rec1 _ _) (rec1_ok h) hP ?_
  simp only [step, stepK, codeK, rec1_at]
theorem h_loopN {c : Code} {s1 : St} (h : Holds P G B (.code D c s) (.ex .normal s1)) (h2 : Holds P G B (.loop D c s1) r) : Holds P G B (.loop D c s) r := by
  refine step_loop' (orc := fun _ => none) (rec := rec2 _ _ _ _) (rec2_ok h h2) ?_
  simp only [step, stepK, loopK, rec2_at]
  rw [rec2_at']
  intro e; cases e
theorem h_loopX {c : Code} (h : Holds P G B (.code D c s) r) (hr : ∀ s', r ≠ .ex .normal s') : Holds P G B (.loop D c s) r := by
  refine step_loop' (orc := fun _ => none) (rec := rec1 _ _) (rec1_ok h) ?_
  simp only [step, stepK, loopK, rec1_at]
  split
  · rename_i s' e; simp only [Option.some.injEq] at e; exact absurd e (hr s')
  · rfl
theorem h_region (hP : okProg P G = true) {id : Nat} {ops : Array Oper} (h : Holds P G B (.ops D ops 0 ops.toList s) r) : Holds P G B (.code D (.region id ops false) s) r := by
  refine step_code (orc := fun _ => none) (rec := rec1 _ _) (rec1_ok h) hP ?_
  simp only [step, stepK, codeK, rec1_at]
theorem h_region' (hP : okProg P G = true) {id : Nat} {ops : Array Oper} (h : Holds P G B (.draw ops s) r) : Holds P G B (.code false (.region id ops true) s) r := by
  refine step_code (orc := fun _ => none) (rec := rec1 _ _) (rec1_ok h) hP ?_
  simp only [step, stepK, codeK, rec1_at]
section
variable {ops : Array Oper} {k : Nat} {o : Oper} {l : List Oper}
theorem h_ops0 : Holds P G B (.ops D ops k [] s) (.ex .normal s) := by
  intro _ _ c0 rest F a cs w hs
  exact WPat.done ⟨F, Nm.le_refl F, rfl, hs⟩
theorem h_opsSkip (hP : okProg P G = true) (hw : wantedA o ops.toList s.ts = some false) (h : Holds P G B (.ops D ops (k + 1) l (put s o undef)) r) : Holds P G B (.ops D ops k (o :: l) s) r := by
  refine step_ops (orc := fun _ => none) (rec := rec1 _ _) (rec1_ok h) hP ?_
  simp only [step, stepK, opsK, hw, rec1_at]
theorem h_opsVal (hP : okProg P G = true) (hw : wantedA o ops.toList s.ts = some true) {v : Value} {h' : Heap} (ho : aOp P o (aev s.ts) s.h = some (v, h'))
    (h : Holds P G B (.ops D ops (k + 1) l { put s o v with h := h' }) r) : Holds P G B (.ops D ops k (o :: l) s) r := by
  refine step_ops (orc := fun _ => none) (rec := rec1 _ _) (rec1_ok h) hP ?_
  simp only [step, stepK, opsK, hw, ho, rec1_at]
theorem h_opsCall (hP : okProg P G = true) (hw : wantedA o ops.toList s.ts = some true) (hn : aOp P o (aev s.ts) s.h = none) {g : FuncId} {args : List Value} (hc : callOf P (aev s.ts) o.op = some (g, args))
    {v : Value} {u : FrameMode} {h' : Heap} (h1 : Holds P G B (.call g args s.h) (.en (.returned v) u h')) (h : Holds P G B (.ops D ops (k + 1) l { put s o v with h := h' }) r) : Holds P G B (.ops D ops k (o :: l) s) r := by
  refine step_ops (orc := fun _ => none) (rec := rec2 _ _ _ _) (rec2_ok h1 h) hP ?_
  simp only [step, stepK, opsK, hw, hn, stepOp, hc, rec2_at]
  rw [rec2_at']
  intro e; cases e
end
theorem h_call (hP : okProg P G = true) {f : FuncId} {args : List Value} {hh : Heap} {fn : Func} {c : Code} (hf : P.funcs[f]? = some fn) (hc : fn.body = some c) {s1 : St} {e : Exit} (he : e = .normal ∨ e = .ret)
    (h1 : Holds P G B (.code false c ⟨Tm.of args fn.ntmps, [], hh, .run⟩) (.ex e s1)) (h2 : Holds P G B (.leaves fn s1.ts s1.ds .returning s1.h) r) : Holds P G B (.call f args hh) r := by
  refine step_call (orc := fun _ => none) (rec := rec2 _ _ _ _) (rec2_ok h1 h2) hP (fun f g args h e h' hh => by cases hh) ?_
  simp only [step, stepK, callK, asked, hf, hc, rec2_at]
  rcases he with he | he <;> subst he <;> simp only <;> rw [rec2_at'] <;> intro e <;> cases e
theorem h_leaves {fn : Func} {ts : Tm} {hh : Heap} {v : Value} (hv : aResults P fn ts hh = some v) : Holds P G B (.leaves fn ts [] .returning hh) (.en (.returned v) .run hh) := by
  intro F w tmps ds' m R ht hd hm
  simp only [DsR] at hd; subst hd
  simp only [MR] at hm; subst hm
  obtain ⟨v', h1, h2⟩ := aResults_ok (P := P) R ht hv
  exact ⟨v', h1, F, Nm.le_refl F, ⟨v', h2, rfl⟩, R⟩
end
end
end Go.Abs
