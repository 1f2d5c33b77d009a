/- From what is known of a call to what it does in any heap; what is no longer of use is left out. -/
import Derived.Test.YtblbaohcelldpaaD6
namespace Go.Abs
open Go
noncomputable section
set_option linter.unusedVariables false
section
variable {P : Program} {G : Nat} {B : Base}
theorem plainL_iff (l : List Value) : plainL l = true ↔ ∀ v ∈ l, plain v = true := by
  induction l with
  | nil => simp [plainL]
  | cons v l ih => simp [plainL, ih]

theorem lift {f : FuncId} {args : List Value} {ins : List AObj} {v : Value} {upd : List (Option AObj)} {new : List AObj} (hu : upd.length = ins.length) (hnew : new.all (·.own) = true)
    (hv : ∀ B, CallH P G B f args (hOf G [] (ins.map some)) (.returned v) (hOf G [] (upd ++ new.map some))) {H : Heap} {ns : List Nat} (hl : ns.length = ins.length) (hnd : ns.Nodup)
    (hi : ∀ o ∈ ins, plainO o) (hup : ∀ o, some o ∈ upd → plainO o) (hn : ∀ o ∈ new, plainO o)
    (hobj : ∀ (i : Nat) (o : AObj), ins[i]? = some o → ∃ n : Nat, ns[i]? = some n ∧ G ≤ n ∧ H.get n = some o) (B : Base) :
    CallH P G B f (vrenL (tau G ns H.next) args) H (.returned (vren (tau G ns H.next) v)) (pushAll (putAll H ns upd) new) := by
  have hV : Valid P G ⟨f, args, [], ins, .returned v, upd, new⟩ := ⟨hu, hnew, hv⟩
  have := hV.call (H := H) (ns := ns) hl hnd (fun i o h => by
    obtain ⟨n, h1, h2, h3⟩ := hobj i o h
    exact ⟨n, h1, h2, by rw [oren_plain (hi o (List.mem_of_getElem? h))]; exact h3⟩) (fun x hx => by cases hx) B
  have e1 : upd.map (·.map (oren (tau G ns H.next))) = upd := by
    have : ∀ l : List (Option AObj), (∀ o, some o ∈ l → plainO o) → l.map (·.map (oren (tau G ns H.next))) = l := by
      intro l
      induction l with
      | nil => intro _; rfl
      | cons o l ih =>
        intro h
        rw [List.map_cons, ih fun o h' => h o (List.mem_cons_of_mem _ h')]
        cases o with
        | none => rfl
        | some o => rw [Option.map_some, oren_plain (h o (List.mem_cons_self ..))]
    exact this upd hup
  have e2 : new.map (oren (tau G ns H.next)) = new := by
    have : ∀ l : List AObj, (∀ o ∈ l, plainO o) → l.map (oren (tau G ns H.next)) = l := by
      intro l
      induction l with
      | nil => intro _; rfl
      | cons o l ih =>
        intro h
        rw [List.map_cons, ih fun o h' => h o (List.mem_cons_of_mem _ h'), oren_plain (h o (List.mem_cons_self ..))]
    exact this new hn
  simp only [e1, e2] at this
  exact this

/-- What is left of a call when what it no longer needs is left out. -/
theorem call_gc {f : FuncId} {args : List Value} {ins : List (Option AObj)} {v v' : Value} {objs objs' : List (Option AObj)} {l : List Nat}
    (h : CallH P G B f args (hOf G [] ins) (.returned v) (hOf G [] objs)) (hn : Names G ins.length l (G + objs.length) [v] objs [v'] objs') :
    CallH P G B f args (hOf G [] ins) (.returned v') (hOf G [] objs') := by
  intro F w args' R ha
  refine (h F w args' R ha).mono fun e' w' ⟨F', h1, h2, R'⟩ => ?_
  have ho : objsOf G (hOf G [] objs) = objs := by
    apply List.ext_getElem?
    intro i
    rw [objsOf_get, hOf_get]
    have hnx : (hOf G [] objs).next = G + objs.length := rfl
    rw [hnx]
    by_cases c : i < objs.length
    · rw [if_pos (by omega), if_pos (by omega)]
      have : G + i - G = i := by omega
      rw [this, List.getElem?_eq_getElem c]; simp
    · rw [if_neg (by omega), List.getElem?_eq_none (by omega)]
  have hw := R'.weaken (k0 := ins.length) (l := l) (vals := [v]) (vals' := [v']) (objs' := objs') (by rw [ho]; exact hn)
  refine ⟨_, fun n x hx => ?_, ?_, hw⟩
  · have hlt : n < G + ins.length := by
      rcases Nat.lt_or_ge n (G + ins.length) with c | c
      · exact c
      · have := R.fresh n c; rw [this] at hx; cases hx
    simp only [tau_lt hlt]
    exact h1 n x hx
  · simp only [EnR] at h2 ⊢
    obtain ⟨v2, h3, h4⟩ := h2
    have he : v = vren (tau (G + ins.length) l (hOf G [] objs).next) v' := by
      have := hn.1
      simp only [List.map_cons, List.map_nil, List.cons.injEq, and_true] at this
      exact this
    rw [he] at h3
    exact ⟨v2, (VR_ren _ _).1 h3, h4⟩

/-! ### Summaries -/
def SumOk (P : Program) (G : Nat) (f : FuncId) (S : List Value → Heap → VK → Prop) : Prop := ∀ args H K, S args H K → ∃ v H', (∀ B, CallH P G B f args H (.returned v) H') ∧ K v H'
def lookN {α : Type} : List (Nat × α) → Nat → Option α
  | [], _ => none
  | x :: l, n => match Nat.beq x.1 n with
    | true => some x.2
    | false => lookN l n
theorem lookN_mem {α : Type} : ∀ (l : List (Nat × α)) (n : Nat) (a : α), lookN l n = some a → (n, a) ∈ l
  | [], n, a, h => by cases h
  | x :: l, n, a, h => by
    unfold lookN at h
    split at h
    · rename_i e
      have e := Nat.eq_of_beq_eq_true e
      simp only [Option.some.injEq] at h; subst h; subst e
      exact List.mem_cons_self ..
    · exact List.mem_cons_of_mem _ (lookN_mem l n a h)
theorem kn_ok {l : List (FuncId × (List Value → Heap → VK → Prop))} {sy : Nat → Bool} {ag : Bool} {lp : Nat → Option (List Nat × (Code → Nat → List Value → Heap → (Res → Prop) → Prop))}
    (h : ∀ x ∈ l, SumOk P G x.1 x.2) : KnOk P G ⟨sy, ag, lookN l, lp, fun _ => none⟩ := ⟨fun f S hS => h _ (lookN_mem l f S hS), fun f S hS => by cases hS⟩
theorem pu_ok {l : List (FuncId × (List Value → Heap → (Value → Prop) → Prop))} {sy : Nat → Bool} {ag : Bool} {lp : Nat → Option (List Nat × (Code → Nat → List Value → Heap → (Res → Prop) → Prop))}
    (h : ∀ x ∈ l, PureOk P G x.1 x.2) : KnOk P G ⟨sy, ag, fun _ => none, lp, lookN l⟩ := ⟨fun f S hS => (by cases hS), fun f S hS => h _ (lookN_mem l f S hS)⟩
/-! ### Loops, as summaries -/
def LoopOk (P : Program) (G : Nat) (live : List Nat) (S : Code → Nat → List Value → Heap → (Res → Prop) → Prop) : Prop :=
  ∀ c n vals h Q, S c n vals h Q → ∃ r, (∀ B, Holds P G B (.loop false c ⟨tmOf n live vals, [], h, .run⟩) r) ∧ Q r
theorem lp_ok {l : List (Nat × (List Nat × (Code → Nat → List Value → Heap → (Res → Prop) → Prop)))} {sy : Nat → Bool} {ag : Bool} {kn : FuncId → Option (List Value → Heap → VK → Prop)} {pu : FuncId → Option (List Value → Heap → (Value → Prop) → Prop)}
    (h : ∀ x ∈ l, LoopOk P G x.2.1 x.2.2) : LpOk P G ⟨sy, ag, kn, lookN l, pu⟩ := fun k live S hS => h _ (lookN_mem l k _ hS)
theorem holds_objs {c : Code} {n : Nat} {live : List Nat} {vals : List Value} {h : Heap} {r : Res} (hle : G ≤ h.next)
    (hh : Holds P G B (.loop false c ⟨tmOf n live vals, [], hOf G [] (objsOf G h), .run⟩) r) : Holds P G B (.loop false c ⟨tmOf n live vals, [], h, .run⟩) r := by
  cases r with
  | en _ _ _ => exact hh.elim
  | ex e s2 =>
    intro c0 rest F a cs w hok hs
    refine hh c0 rest F a cs w hok ⟨hs.1.part (fun n o hn => ?_) ?_, hs.2⟩
    · rw [hOf_get] at hn
      split at hn
      · rename_i hr
        rw [objsOf_get] at hn
        split at hn
        · simp only [Option.getD_some] at hn
          rw [← hn]; show h.get n = _; congr 1; omega
        · cases hn
      · simp only [glTr, Tr.get_lf] at hn; cases hn
    · show G + (objsOf G h).length = h.next
      rw [objsOf_len]; omega
/-- A loop by its rounds, from any heap that holds the objects of its start. -/
theorem lp_rule (hP : okProg P G = true) {W : How} (hkn : KnOk P G W) (hlp : LpOk P G W) {α : Type} {k0 N fuel : Nat} {live live2 : List Nat} (m : α → Nat) (I : α → List Value × List (Option AObj))
    (R : Exit → List Value → List (Option AObj) → Prop) {c : Code}
    (hbody : ∀ a, Is (wpe P (real P) W fuel (.code false c (stOf G N live (I a))) (roundQ G live live2 N
      (fun vals objs => ∃ a' l, m a' < m a ∧ Names G k0 l (G + objs.length) vals objs (I a').1 (I a').2)
      (fun e vals objs => ∃ l v o, Names G k0 l (G + objs.length) vals objs v o ∧ R e v o))))
    (a : α) (hk : (I a).2.length = k0) {vals : List Value} {h : Heap} (hv : vals = (I a).1) (ho : objsOf G h = (I a).2) (hle : G ≤ h.next) :
    ∃ e v o, R e v o ∧ ∀ B, Holds P G B (.loop false c ⟨tmOf N live vals, [], h, .run⟩) (.ex e (stOf G N live2 (v, o))) := by
  obtain ⟨e, v, o, h1, h2⟩ := loop_rule (R := fun _ => R) (m := m) (fun a => by
    obtain ⟨r, h1, h2⟩ := wpe_ok hP hkn hlp _ _ _ (hbody a).out
    exact ⟨r, h1, round_ok (fun vals objs ⟨a', l, q1, q2⟩ => ⟨a', l, q1, q2, fun _ _ _ h => h⟩) (fun e vals objs q => q) h2⟩) a hk
  refine ⟨e, v, o, h1, fun B => holds_objs hle ?_⟩
  rw [ho, hv]; exact h2 B
theorem lp_none {sy : Nat → Bool} {ag : Bool} {kn : FuncId → Option (List Value → Heap → VK → Prop)} {pu : FuncId → Option (List Value → Heap → (Value → Prop) → Prop)} : LpOk P G ⟨sy, ag, kn, fun _ => none, pu⟩ := fun _ _ _ h => by cases h
theorem kn_none {sy : Nat → Bool} {ag : Bool} {lp : Nat → Option (List Nat × (Code → Nat → List Value → Heap → (Res → Prop) → Prop))} : KnOk P G ⟨sy, ag, fun _ => none, lp, fun _ => none⟩ := ⟨fun _ _ h => (by cases h), fun _ _ h => (by cases h)⟩
end
end
end Go.Abs
