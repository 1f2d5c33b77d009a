/- The evaluator with nodes: whole pieces of code; loops by a law of their own. -/
import Derived.Test.YtblbaohcelldpaaD3
namespace Go.Abs
open Go
noncomputable section
set_option linter.unusedVariables false

/-! ### A frame of which few slots are known -/
def top : Value := .chan (some 0)
def topFill : Nat → Tr Value → Tr Value
  | 0, t => t
  | n + 1, t => topFill n (t.set n (some top))
def setsT : List Nat → List Value → Tr Value → Tr Value
  | i :: is, v :: vs, t => (setsT is vs t).set i (some v)
  | _, _, t => t
def tmOf (n : Nat) (is : List Nat) (vs : List Value) : Tm := ⟨setsT is vs (topFill n .lf), n⟩
def lk : List Nat → List Value → Nat → Option Value
  | i :: is, v :: vs, j => if j = i then some v else lk is vs j
  | _, _, _ => none
theorem topFill_get : ∀ (n : Nat) (t : Tr Value) (j : Nat), (topFill n t).get j = if j < n then some top else t.get j
  | 0, t, j => by simp [topFill]
  | n + 1, t, j => by
    simp only [topFill, topFill_get n, Tr.get_set]
    by_cases e : j = n
    · subst e; rw [if_neg (by omega), if_pos rfl, if_pos (by omega)]
    · by_cases h : j < n
      · rw [if_pos h, if_pos (by omega)]
      · rw [if_neg h, if_neg e, if_neg (by omega)]
theorem setsT_get : ∀ (is : List Nat) (vs : List Value) (t : Tr Value) (j : Nat), (setsT is vs t).get j = match lk is vs j with | some v => some v | none => t.get j
  | [], vs, t, j => by simp [setsT, lk]
  | i :: is, [], t, j => by simp [setsT, lk]
  | i :: is, v :: vs, t, j => by
    simp only [setsT, Tr.get_set, lk, setsT_get is vs]
    by_cases e : j = i
    · rw [if_pos e, if_pos e]
    · rw [if_neg e, if_neg e]
theorem tmOf_get (n : Nat) (is : List Nat) (vs : List Value) (j : Nat) : (tmOf n is vs).get j = match lk is vs j with | some v => v | none => if j < n then top else undef := by
  unfold Tm.get tmOf
  simp only [setsT_get, topFill_get]
  cases lk is vs j with
  | some v => rfl
  | none =>
    simp only
    by_cases h : j < n
    · rw [if_pos h, if_pos h]
    · rw [if_neg h, if_neg h, Tr.get_lf]
theorem lk_map (f : Nat → Value) : ∀ (is : List Nat) (j : Nat), lk is (is.map f) j = if j ∈ is then some (f j) else none
  | [], j => by simp [lk]
  | i :: is, j => by
    simp only [List.map_cons, lk, lk_map f is]
    by_cases e : j = i
    · subst e; simp
    · simp [e]
theorem lk_len : ∀ {is : List Nat} {vs vs' : List Value} {f : Value → Value}, vs = vs'.map f → ∀ j, lk is vs j = (lk is vs' j).map f
  | [], _, _, _, _, j => by simp [lk]
  | i :: is, vs, [], f, h, j => by simp only [List.map_nil] at h; subst h; simp [lk]
  | i :: is, vs, v :: vs', f, h, j => by
    simp only [List.map_cons] at h; subst h
    simp only [lk]
    by_cases e : j = i
    · simp [e]
    · simp [e, lk_len (is := is) (f := f) rfl j]

theorem objsOf_len (G : Nat) (h : Heap) : (objsOf G h).length = h.next - G := by
  have : ∀ n k, (objsOf.go h n k).length = n := fun n => by
    induction n with
    | zero => intro k; rfl
    | succ n ih => intro k; simp [objsOf.go, ih]
  exact this _ _

/-! ### The same state in other names, less known of it -/
section
variable {P : Program} {G : Nat} {B : Base}
/-- Of slots and objects that are there ('vals', 'objs'), 'l' names those that become the objects behind the first k0 ones. -/
def Names (G k0 : Nat) (l : List Nat) (next : Nat) (vals : List Value) (objs : List (Option AObj)) (vals' : List Value) (objs' : List (Option AObj)) : Prop :=
  vals = vals'.map (vren (tau (G + k0) l next)) ∧ objs'.length = k0 + l.length ∧ l.Nodup ∧ (∀ x ∈ l, G + k0 ≤ x ∧ x < next) ∧ G + k0 ≤ next ∧
    ∀ i o, objs'[i]? = some (some o) → objs[tau (G + k0) l next (G + i) - G]? = some (some (oren (tau (G + k0) l next) o))

theorem tau_cases {n0 : Nat} {l : List Nat} {next n : Nat} : (n < n0 ∧ tau n0 l next n = n) ∨ (∃ m, n0 ≤ n ∧ n < n0 + l.length ∧ l[n - n0]? = some m ∧ tau n0 l next n = m) ∨ (n0 + l.length ≤ n ∧ tau n0 l next n = next + (n - n0 - l.length)) := by
  rcases Nat.lt_or_ge n n0 with h | h
  · exact .inl ⟨h, tau_lt h⟩
  · rcases Nat.lt_or_ge n (n0 + l.length) with h2 | h2
    · have h3 : n - n0 < l.length := by omega
      exact .inr (.inl ⟨l[n - n0], h, h2, by simp [h3], tau_in h (by simp [h3])⟩)
    · exact .inr (.inr ⟨h2, tau_new h2⟩)

theorem Rel.weaken {F : Nm} {H : Heap} {w : World} (R : Rel G F H B w) {k0 : Nat} {l : List Nat} {vals vals' : List Value} {objs' : List (Option AObj)}
    (hn : Names G k0 l H.next vals (objsOf G H) vals' objs') : Rel G (fun n => F (tau (G + k0) l H.next n)) (hOf G [] objs') B w := by
  obtain ⟨_, hlen, hnd, hl, hle, hobj⟩ := hn
  have hget : ∀ n o, (hOf G [] objs').get n = some o → n < G + k0 + l.length ∧ H.get (tau (G + k0) l H.next n) = some (oren (tau (G + k0) l H.next) o) := by
    intro n o h
    rw [hOf_get] at h
    split at h
    · rename_i hr
      have h2 : objs'[n - G]? = some (some o) := by
        rw [List.getElem?_eq_getElem (by omega)] at h ⊢
        simpa using h
      have h3 := hobj _ _ h2
      have e1 : G + (n - G) = n := by omega
      rw [e1, objsOf_get] at h3
      have hge : G ≤ tau (G + k0) l H.next n := by
        rcases tau_cases (n0 := G + k0) (l := l) (next := H.next) (n := n) with ⟨a, b⟩ | ⟨m, a, b, c, d⟩ | ⟨a, b⟩
        · rw [b]; omega
        · rw [d]; have := (hl m (List.mem_of_getElem? c)).1; omega
        · omega
      split at h3
      · simp only [Option.some.injEq] at h3
        have e2 : G + (tau (G + k0) l H.next n - G) = tau (G + k0) l H.next n := by omega
        rw [e2] at h3
        exact ⟨by omega, h3⟩
      · cases h3
    · simp only [glTr, Tr.get_lf] at h; cases h
  have hinj : ∀ n m, n < G + k0 + l.length → m < G + k0 + l.length → tau (G + k0) l H.next n = tau (G + k0) l H.next m → n = m := by
    intro n m h1 h2 e
    rcases tau_cases (n0 := G + k0) (l := l) (next := H.next) (n := n) with ⟨a, b⟩ | ⟨x, a, b, c, d⟩ | ⟨a, b⟩ <;>
      rcases tau_cases (n0 := G + k0) (l := l) (next := H.next) (n := m) with ⟨a', b'⟩ | ⟨x', a', b', c', d'⟩ | ⟨a', b'⟩
    · rw [b, b'] at e; exact e
    · rw [b, d'] at e; subst e; have := (hl _ (List.mem_of_getElem? c')).1; omega
    · omega
    · rw [d, b'] at e; subst e; have := (hl _ (List.mem_of_getElem? c)).1; omega
    · rw [d, d'] at e; subst e
      have h4 : n - (G + k0) < l.length := by omega
      have := (List.getElem?_inj h4 hnd).1 (c.trans c'.symm)
      omega
    · omega
    · omega
    · omega
    · omega
  constructor
  · intro n o h
    obtain ⟨h1, h2⟩ := hget n o h
    exact objR_ren (R.obj _ _ h2)
  · intro n m o o' h h' hne how
    obtain ⟨h1, h2⟩ := hget n o h
    obtain ⟨h1', h2'⟩ := hget m o' h'
    exact R.inj _ _ _ _ h2 h2' (fun e => hne (hinj n m h1 h1' e)) (by rw [oren_own]; exact how)
  · intro n h
    simp only [hOf, hlen] at h
    rw [tau_new (by omega)]
    exact R.fresh _ (by omega)
  · intro g hg
    simp only [tau_lt (show g < G + k0 by omega)]
    exact R.glob g hg
  · exact R.base
  · exact R.frame
  · exact R.os
  · exact R.out
  · exact R.tape

/-- Behind a run: this state, in names that are those from before below 'n0'. -/
def EndsB (P : Program) (G : Nat) (B : Base) (n0 : Nat) (rest : List Frame) (F : Nm) (e : Exit) (s : St) : Exit → Act → List Frame → World → Prop :=
  fun e' a' cs' w' => ∃ F', (∀ n, n < n0 → F' n = F n ∨ F n = none) ∧ e' = e ∧ SR G B false default rest F' s a' cs' w'
def flat : Exit → Bool
  | .normal | .exit _ | .ret => true
  | _ => false
theorem SR.weaken {F : Nm} {s : St} {a : Act} {cs rest : List Frame} {w : World} {c0 : Frame} (hs : SR G B false c0 rest F s a cs w) (hd : s.ds = []) {live : List Nat}
    {k0 : Nat} {l : List Nat} {vals' : List Value} {objs' : List (Option AObj)} (hn : Names G k0 l s.h.next (live.map s.ts.get) (objsOf G s.h) vals' objs') :
    SR G B false c0 rest (fun n => F (tau (G + k0) l s.h.next n)) ⟨tmOf s.ts.n live vals', [], hOf G [] objs', .run⟩ a cs w := by
  obtain ⟨h1, h2, h3, h4⟩ := hs
  refine ⟨h1.weaken hn, ⟨h2.1, fun i => ?_⟩, by rw [hd] at h3; exact h3, h4⟩
  rw [tmOf_get]
  have hlk := lk_map s.ts.get live i
  rw [lk_len hn.1 i] at hlk
  have hi := h2.2 i
  split
  · rename_i v hv
    rw [hv] at hlk
    simp only [Option.map_some] at hlk
    split at hlk
    · simp only [Option.some.injEq] at hlk
      rw [← hlk] at hi
      exact (VR_ren _ _).1 hi
    · cases hlk
  · rename_i hv
    rw [hv] at hlk
    simp only [Option.map_none] at hlk
    split at hlk
    · cases hlk
    · rename_i hm
      split
      · trivial
      · rename_i hge
        have : a.tmps.getD i undef = undef := by
          rw [Array.getD_eq_getD_getElem?, Array.getElem?_eq_none (by rw [h2.1]; show (tmOf s.ts.n live vals').n ≤ i; exact Nat.le_of_not_lt hge)]; rfl
        rw [this]; exact VR.undef

/-! ### Loops -/
/-- How a round ends: with the loop's next head, or behind the loop. -/
def RoundQ {α : Type} (G k0 N : Nat) (live live2 : List Nat) (m : α → Nat) (I : α → List Value × List (Option AObj)) (R : α → Exit → List Value → List (Option AObj) → Prop) (a : α) : Res → Prop
  | .ex .normal s1 => s1.ts.n = N ∧ s1.ds = [] ∧ ∃ a' l, m a' < m a ∧ Names G k0 l s1.h.next (live.map s1.ts.get) (objsOf G s1.h) (I a').1 (I a').2 ∧ ∀ e v o, R a' e v o → R a e v o
  | .ex e s1 => flat e = true ∧ s1.ts.n = N ∧ s1.ds = [] ∧ ∃ l v o, Names G k0 l s1.h.next (live2.map s1.ts.get) (objsOf G s1.h) v o ∧ R a e v o
  | _ => False
def stOf (G N : Nat) (live : List Nat) (I : List Value × List (Option AObj)) : St := ⟨tmOf N live I.1, [], hOf G [] I.2, .run⟩

theorem loop_rule {α : Type} {k0 N : Nat} {live live2 : List Nat} {m : α → Nat} {I : α → List Value × List (Option AObj)} {R : α → Exit → List Value → List (Option AObj) → Prop} {c : Code}
    (hbody : ∀ a, ∃ r, (∀ B, Holds P G B (.code false c (stOf G N live (I a))) r) ∧ RoundQ G k0 N live live2 m I R a r) (a : α) (hk : (I a).2.length = k0) :
    ∃ e v o, R a e v o ∧ ∀ B, Holds P G B (.loop false c (stOf G N live (I a))) (.ex e (stOf G N live2 (v, o))) := by
  have key : ∀ n a, m a < n → ∃ e v o, flat e = true ∧ R a e v o ∧ ∀ B rest F b cs w, okCode G c = true → SR G B false default rest F (stOf G N live (I a)) b cs w →
      WPat P false [.code c, .inLoop c] (EndsB P G B (G + k0) rest F e (stOf G N live2 (v, o))) b cs w := by
    intro n
    induction n with
    | zero => intro a h; omega
    | succ n ih =>
      intro a hlt
      obtain ⟨r, hr, hq⟩ := hbody a
      cases r with
      | en _ _ _ => exact (hr ⟨default, fun _ => False, fun _ h => h.elim⟩).elim
      | ex e s1 =>
        by_cases he : e = .normal
        · subst he
          obtain ⟨q1, q2, a', l, q4, q5, q6⟩ := hq
          obtain ⟨e, v, o, f1, f2, f3⟩ := ih a' (by omega)
          refine ⟨e, v, o, f1, q6 _ _ _ f2, ?_⟩
          intro B rest F b cs w hok hs
          refine WPat.two rfl ((hr B default rest F b cs w hok hs).mono fun e' a1 cs' w' ⟨F', hle, he, hs'⟩ => ?_)
          simp only [ER] at he; subst he
          have hw := hs'.weaken q2 q5
          rw [q1] at hw
          refine WPat.inLoop ((f3 B rest _ a1 cs' w' hok hw).mono fun e2 a2 cs2 w2 ⟨F2, k1, k2, k3⟩ => ⟨F2, fun n hn => ?_, k2, k3⟩)
          have k1' := k1 n hn
          simp only [tau_lt hn] at k1'
          cases hF : F n with
          | none => exact .inr rfl
          | some x => rw [hle n x hF] at k1'; exact .inl (k1'.resolve_right (by simp))
        · have hq' : flat e = true ∧ s1.ts.n = N ∧ s1.ds = [] ∧ ∃ l v o, Names G k0 l s1.h.next (live2.map s1.ts.get) (objsOf G s1.h) v o ∧ R a e v o := by
            cases e <;> first | exact absurd rfl he | exact hq
          obtain ⟨q0, q1, q2, l, v, o, q5, q6⟩ := hq'
          refine ⟨e, v, o, q0, q6, ?_⟩
          intro B rest F b cs w hok hs
          refine WPat.two rfl ((hr B default rest F b cs w hok hs).mono fun e' a1 cs' w' ⟨F', hle, he', hs'⟩ => ?_)
          have hw := hs'.weaken q2 q5
          rw [q1] at hw
          have hee : e' = e := by cases e <;> first | exact he' | (simp [flat] at q0)
          subst hee
          have hend : EndsB P G B (G + k0) rest F e' (stOf G N live2 (v, o)) e' a1 cs' w' := by
            refine ⟨_, fun n hn => ?_, rfl, hw⟩
            simp only [tau_lt hn]
            cases hF : F n with
            | none => exact .inr rfl
            | some x => exact .inl (hle n x hF)
          cases e' <;> first | exact absurd rfl he | exact hend
  obtain ⟨e, v, o, h1, h2, h3⟩ := key (m a + 1) a (by omega)
  refine ⟨e, v, o, h2, ?_⟩
  intro B c0 rest F b cs w hok hs
  refine (h3 B rest F b cs w hok hs).mono fun e' a' cs' w' ⟨F', k1, k2, k3⟩ => ⟨F', fun n x hx => ?_, ?_, k3⟩
  · have hn : n < G + k0 := by
      rcases Nat.lt_or_ge n (G + k0) with h | h
      · exact h
      · have := hs.1.fresh n (by simp only [stOf, hOf]; omega)
        rw [this] at hx; cases hx
    rcases k1 n hn with h | h
    · rw [h]; exact hx
    · rw [h] at hx; cases hx
  · subst k2
    cases e' <;> first | rfl | (simp [flat] at h1)
end
end
end Go.Abs
