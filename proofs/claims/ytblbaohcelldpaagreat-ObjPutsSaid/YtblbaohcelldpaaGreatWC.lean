/- Loops as summaries, put together; functions of lists that stay, asked of one's own. -/
import Derived.Test.YtblbaohcelldpaaGreatWB
namespace Go.Abs
open Go
noncomputable section
set_option linter.unusedVariables false
section
variable {P : Program} {G : Nat} {B : Base}
theorem rel_pad {F : Nm} {w : World} {objs : List (Option AObj)} (R : Rel G F (hOf G [] objs) B w) : Rel G F (hOf G [] (objs ++ [none])) B w := by
  have key : ∀ n o, (hOf G [] (objs ++ [none])).get n = some o → (hOf G [] objs).get n = some o := by
    intro n o h
    obtain ⟨h1, h2, h3⟩ := hOf_at h
    rw [List.getElem?_append] at h3
    split at h3
    · have := hOf_of (G := G) h3
      rw [show G + (n - G) = n by omega] at this; exact this
    · rename_i hge
      rw [List.getElem?_singleton] at h3
      split at h3 <;> cases h3
  constructor
  · intro n o h; exact R.obj n o (key n o h)
  · intro n m o o' h h' hne how; exact R.inj n m o o' (key n o h) (key m o' h') hne how
  · intro n h
    refine R.fresh n ?_
    have h : G + (objs ++ [none]).length ≤ n := h
    rw [List.length_append] at h
    show G + objs.length ≤ n
    omega
  · exact R.glob
  · exact R.base
  · exact R.frame
  · intro b i v hz; exact ⟨(R.froz b i v hz).1, fun n o h how => (R.froz b i v hz).2 n o (key n o h) how⟩
  · exact R.zprot
  · exact R.os
  · exact R.out
  · exact R.tape
theorem wk_pad {n0 : Nat} {vals : List Value} {objs : List (Option AObj)} : Wk G n0 vals objs vals (objs ++ [none]) :=
  ⟨rfl, fun B F w R => ⟨F, Agree.refl _ _, rel_pad R, fun i v v' x h1 h2 h => by rw [h1] at h2; simp only [Option.some.injEq] at h2; subst h2; exact h⟩⟩
theorem wk_nilS {n0 b : Nat} {rest : List Value} {objs : List (Option AObj)} : Wk G n0 (.slice none 0 0 :: rest) objs (mkS b 0 :: rest) (objs ++ [none]) :=
  (wk_weak (.cons .nilM (WeakL.refl _)) (WeakOs.refl _)).trans wk_pad
theorem wk_tau {n0 : Nat} {τ : Nat → Nat} {vals vals' : List Value} {objs objs' : List (Option AObj)} (hv : vals = vals'.map (vren τ)) (hG : G ≤ n0) (h0 : ∀ n, n < n0 → τ n = n) (hge : ∀ n, G ≤ n → G ≤ τ n) (hfr : ∀ n, G + objs'.length ≤ n → G + objs.length ≤ τ n)
    (hinj : ∀ (i j : Nat) o o', objs'[i]? = some (some o) → objs'[j]? = some (some o') → τ (G + i) = τ (G + j) → i = j) (ho : ∀ (i : Nat) o, objs'[i]? = some (some o) → objs[τ (G + i) - G]? = some (some (oren τ o))) : Wk G n0 vals objs vals' objs' := by
  refine ⟨by rw [hv, List.length_map], fun B F w R => ⟨F.re τ, ⟨fun n hn => .inl (by simp only [Nm.re, h0 n hn]), zle_refl _⟩, ?_, fun i v v' x h1 h2 hx => ?_⟩⟩
  · have hget : ∀ n o, (hOf G [] objs').get n = some o → G ≤ n ∧ objs'[n - G]? = some (some o) ∧ (hOf G [] objs).get (τ n) = some (oren τ o) := by
      intro n o h
      obtain ⟨h1, h2, h3⟩ := hOf_at h
      have h4 := hOf_of (G := G) (ho _ _ h3)
      have e1 : G + (n - G) = n := by omega
      rw [e1] at h4
      have h5 := hge n h1
      rw [show G + (τ n - G) = τ n by omega] at h4
      exact ⟨h1, h3, h4⟩
    constructor
    · intro n o h
      exact objR_ren (R.obj _ _ (hget n o h).2.2)
    · intro n m o o' h h' hne how
      obtain ⟨g1, g2, g3⟩ := hget n o h
      obtain ⟨k1, k2, k3⟩ := hget m o' h'
      refine R.inj _ _ _ _ g3 k3 (fun e => hne ?_) (by rw [oren_own]; exact how)
      have := hinj (n - G) (m - G) o o' g2 k2 (by rw [show G + (n - G) = n by omega, show G + (m - G) = m by omega]; exact e)
      omega
    · intro n h
      exact R.fresh _ (hfr n h)
    · intro g hg
      simp only [Nm.re, h0 g (by omega)]; exact R.glob g hg
    · exact R.base
    · exact R.frame
    · intro b i v hz
      exact ⟨(R.froz b i v hz).1, fun n o hn how => (R.froz b i v hz).2 _ _ (hget n o hn).2.2 (by rw [oren_own]; exact how)⟩
    · exact R.zprot
    · exact R.os
    · exact R.out
    · exact R.tape
  · rw [hv, List.getElem?_map, h2] at h1
    simp only [Option.map_some, Option.some.injEq] at h1
    rw [← h1] at hx
    exact (VR_ren _ _).1 hx
theorem wk_drop {k0 : Nat} {vals : List Value} {pre extra : List (Option AObj)} (hk : pre.length = k0) (hv : belowL (G + k0) vals = true) (ho : ∀ (i : Nat) o, pre[i]? = some (some o) → belowO (G + k0) (some o) = true) : Wk G (G + k0) vals (pre ++ extra) vals pre := by
  have hτ : ∀ n, n < G + k0 → (if n < G + k0 then n else n + extra.length) = n := fun n h => if_pos h
  refine wk_tau (τ := fun n => if n < G + k0 then n else n + extra.length) ?_ (by omega) hτ (fun n hn => ?_) (fun n hn => ?_) (fun i j o o' hi hj e => ?_) (fun i o hi => ?_)
  · rw [← vrenL_map, vrenL_below hτ vals hv]
  · show G ≤ if n < G + k0 then n else n + extra.length
    split <;> omega
  · show G + (pre ++ extra).length ≤ if n < G + k0 then n else n + extra.length
    rw [if_neg (by omega), List.length_append]; omega
  · have h1 := (List.getElem?_eq_some_iff.1 hi).1
    have h2 := (List.getElem?_eq_some_iff.1 hj).1
    simp only [hτ _ (show G + i < G + k0 by omega), hτ _ (show G + j < G + k0 by omega)] at e
    omega
  · have h1 := (List.getElem?_eq_some_iff.1 hi).1
    simp only [hτ _ (show G + i < G + k0 by omega), Nat.add_sub_cancel_left]
    rw [List.getElem?_append_left h1, hi]
    exact congrArg (fun x => some (some x)) (oren_below hτ (ho i o hi)).symm
theorem wk_outG {k0 j k : Nat} {va rest : List Value} {objs pre : List (Option AObj)} {vs : List Value} {e sz : Nat} (hj : k0 ≤ j) (ho : objs[j]? = some (some (.cells vs e sz true true))) (hv : belowL 0 vs = true) (hva : belowL (100 + k0) va = true) (hr : belowL (100 + k0) rest = true) (hk : k ≠ 0)
    (hp : pre.length = k0) (hpre : ∀ (i : Nat) o, pre[i]? = some (some o) → objs[i]? = some (some o) ∧ belowO (100 + k0) (some o) = true) :
    Wk 100 (100 + k0) (va ++ .slice (some ⟨100 + j, 0, none⟩) k k :: rest) objs (va ++ mkS (100 + k0) k :: rest) (pre ++ [some (.cells vs e sz true true)]) := by
  have hlt : j < objs.length := (List.getElem?_eq_some_iff.1 ho).1
  have hτ : ∀ n, n < 100 + k0 → tau (100 + k0) [100 + j] (100 + objs.length) n = n := fun n h => tau_lt h
  have hτ0 : tau (100 + k0) [100 + j] (100 + objs.length) (100 + k0) = 100 + j := tau_in (Nat.le_refl _) (by simp)
  have hn : Names 100 k0 [100 + j] (100 + objs.length) (va ++ .slice (some ⟨100 + j, 0, none⟩) k k :: rest) objs (va ++ .slice (some ⟨100 + k0, 0, none⟩) k k :: rest) (pre ++ [some (.cells vs e sz true true)]) := by
    refine ⟨?_, by rw [List.length_append, hp]; rfl, by simp, fun x hx => ?_, by omega, fun i o hi => ?_⟩
    · rw [List.map_append, List.map_cons, ← vrenL_map, ← vrenL_map, vrenL_below hτ va hva, vrenL_below hτ rest hr]
      simp only [vren, hτ0]
    · simp only [List.mem_singleton] at hx; omega
    · rw [List.getElem?_append] at hi
      split at hi
      · rename_i hlt2
        obtain ⟨h1, h2⟩ := hpre i o hi
        rw [hτ _ (by omega), show 100 + i - 100 = i by omega, oren_below hτ h2]; exact h1
      · rename_i hge
        have hi0 : i = k0 := by
          have := (List.getElem?_eq_some_iff.1 hi).1
          simp only [List.length_singleton] at this; omega
        subst hi0
        rw [hp, Nat.sub_self] at hi
        simp only [List.getElem?_cons_zero, Option.some.injEq] at hi; subst hi
        rw [hτ0, show 100 + j - 100 = j by omega, ho]
        have : vrenL (tau (100 + i) [100 + j] (100 + objs.length)) vs = vs := vrenL_below (n0 := 0) (fun n h => by omega) vs hv
        simp only [oren, this]
  refine (wk_names hn).trans (wk_weak ?_ (WeakOs.refl _))
  have happ : ∀ l m m' : List Value, WeakL m m' → WeakL (l ++ m) (l ++ m') := by
    intro l m m' h
    induction l with
    | nil => exact h
    | cons v l ih => exact .cons (.refl v) ih
  exact happ _ _ _ (.cons (.mark hk) (WeakL.refl _))
theorem Weak.unmark {a : Addr} {l c : Nat} (hl : l ≠ 0) : Weak (.iface mkM (.slice (some a) l c)) (.slice (some a) l c) := fun _ _ h => by
  rcases h.M_cases with ⟨_, h⟩ | ⟨e, _⟩
  · exact h
  · exact absurd e hl
theorem wk_nilG {n0 b : Nat} {va rest : List Value} {objs : List (Option AObj)} : Wk G n0 (va ++ .slice none 0 0 :: rest) objs (va ++ mkS b 0 :: rest) (objs ++ [none]) := by
  have happ : ∀ l m m' : List Value, WeakL m m' → WeakL (l ++ m) (l ++ m') := by
    intro l m m' h
    induction l with
    | nil => exact h
    | cons v l ih => exact .cons (.refl v) ih
  exact (wk_weak (happ _ _ _ (.cons .nilM (WeakL.refl _))) (WeakOs.refl _)).trans wk_pad
abbrev LK := Exit → List Value → List (Option AObj) → Prop
abbrev LF := Code → Nat → List Value → List (Option AObj) → LK → Prop
def lpS (live2 : List Nat) (F : LF) : LpS := fun c n vals ds h Q => match ds with
  | [] => match Nat.ble 100 h.next with
    | true => F c n vals (objsOf 100 h) (fun e v o => Q (.ex e (stOf 100 n live2 [] (v, o))))
    | false => False
  | _ => False
theorem lp_mk (hP : okProg P 100 = true) {W : How} (hkn : KnOk P 100 W) (hlp : LpOk P 100 W) {live live2 : List Nat} {F : LF}
    (h : ∀ c n vals obs K, F c n vals obs K → ∃ (α : Type) (k0 fuel : Nat) (m : α → Nat) (I : α → List Value × List (Option AObj)) (R : α → LK) (a : α), obs.length = k0 ∧ Wk 100 (100 + k0) vals obs (I a).1 (I a).2 ∧ (∀ e v o, R a e v o → K e v o) ∧
      ∀ a, Is (wpe P (real P) W fuel (.code false c (stOf 100 n live [] (I a))) (roundQ 100 live live2 n []
      (fun vals objs => ∃ a', m a' < m a ∧ Wk 100 (100 + k0) vals objs (I a').1 (I a').2 ∧ ∀ e v o, R a' e v o → R a e v o)
      (fun e vals objs => ∃ v o, Wk 100 (100 + k0) vals objs v o ∧ R a e v o)))) : LoopOk P 100 live (lpS live2 F) := by
  intro c n vals ds hh Q hs
  unfold lpS at hs
  split at hs
  · split at hs
    · rename_i hle
      obtain ⟨α, k0, fuel, m, I, R, a, h1, h2, h3, h4⟩ := h _ _ _ _ _ hs
      obtain ⟨e, v, o, g1, g2⟩ := lp_rule hP hkn hlp (live := live) (live2 := live2) (ds := []) rfl m I R h4 a h1 h2 (Nat.le_of_ble_eq_true hle)
      exact ⟨_, g2, h3 _ _ _ g1⟩
    · exact hs.elim
  · exact hs.elim
theorem callh_weak {f : FuncId} {args args' : List Value} {H H' : Heap} {e : Ending} (hw : WeakL args args') (h : CallH P G B f args' H e H') : CallH P G B f args H e H' :=
  fun F w x R ha => h F w x R (hw.ok ha)
theorem callh_bump {f : FuncId} {args : List Value} {H : Heap} {objs : List (Option AObj)} {e : Ending} (h : CallH P G B f args H e (hOf G [] objs)) : CallH P G B f args H e (hOf G [] (objs ++ [none])) := by
  intro F w x R ha
  exact (h F w x R ha).mono fun e' w' ⟨F', h1, h2, R'⟩ => ⟨F', h1, h2, rel_pad R'⟩
theorem VRL.app {F : Nm} : ∀ {l m l' m' : List Value}, VRL F l l' → VRL F m m' → VRL F (l ++ m) (l' ++ m')
  | [], m, l', m', h, h2 => by simp only [VRL] at h; subst h; exact h2
  | v :: l, m, l', m', h, h2 => by
    simp only [VRL] at h
    obtain ⟨v', r', g1, g2, e⟩ := h
    subst e
    simp only [List.cons_append, VRL]
    exact ⟨v', r' ++ m', g1, VRL.app g2 h2, rfl⟩
theorem own_deep {f : FuncId} {pre post : List Value} {rows vs : List Value} {v : Value} {H : Heap} {n k c elem size : Nat} {lo : Bool}
    (hS : ∀ B H, CallH P G B f (pre ++ .iface mkD (.agg ⟨rows⟩) :: post) H (.returned v) H) (hget : H.get n = some (.cells vs elem size lo true)) (hf : flatRows size rows = some vs) (hb : belowL 0 vs = true) (hs : 0 < size) (hk : k = rows.length) (hc : k ≤ c)
    (hpre : belowL 0 pre = true) (hpost : belowL 0 post = true) (hv : plain v = true) (B : Base) : CallH P G B f (pre ++ .slice (some ⟨n, 0, none⟩) k c :: post) H (.returned v) H := by
  subst hk
  intro F w args' R ha
  have hGn := R.next_le
  obtain ⟨b, d, o, cc, fz, hF, ⟨t, hw, ht⟩, hvl, hsz, hex, hown⟩ := R.obj _ _ hget
  have hnz : ∀ j, F.z b j = none := by
    intro j
    cases hz : F.z b j with
    | none => rfl
    | some v => exact absurd (by simp [blk, hF]) ((R.froz b j v hz).2 _ _ hget rfl)
  let zz : Nat → Nat → Option Value := fun b' j => if b' = b ∧ o ≤ j ∧ j < o + vs.length then cc[j]? else F.z b' j
  have hzz : zle F.z zz := by
    intro b' j v hz
    show (if b' = b ∧ o ≤ j ∧ j < o + vs.length then cc[j]? else F.z b' j) = some v
    rw [if_neg]
    · exact hz
    · intro hc; rw [hc.1, hnz] at hz; cases hz
  let F1 : Nm := ⟨F.f, zz⟩
  let F2 : Nm := ⟨fun m => if m < G then F m else none, zz⟩
  have hFG : ∀ m, m < G → F m = some (m, 0, 0) := R.glob
  let B2 : Base := ⟨w, fun i => i < w.heap.size, fun i h => h, zz⟩
  have hfz : ∀ b' i v, zz b' i = some v → ∃ c t fz, w.heap[b']? = some (.cells c t fz) ∧ c[i]? = some v := by
    intro b' i v hz
    have hz : (if b' = b ∧ o ≤ i ∧ i < o + vs.length then cc[i]? else F.z b' i) = some v := hz
    split at hz
    · rename_i hcc; exact ⟨cc, t, fz, by rw [hcc.1]; exact hw, hz⟩
    · exact (R.froz b' i v hz).1
  have hno : ∀ m o', (hOf G [] []).get m ≠ some o' := by
    intro m o' h
    obtain ⟨_, h2, _⟩ := hOf_at h
    simp only [List.length_nil] at h2; omega
  have R2 : Rel G F2 (hOf G [] []) B2 w := by
    constructor
    · intro m o' h; exact absurd h (hno m o')
    · intro m m' o' o2 h; exact absurd h (hno m o')
    · intro m h
      have h : G + 0 ≤ m := h
      show (if m < G then F m else none) = none
      rw [if_neg (by omega)]
    · intro g hg
      show (if g < G then F g else none) = _
      rw [if_pos hg]; exact R.glob g hg
    · exact Nat.le_refl _
    · intro i _; rfl
    · intro b' i v hz; exact ⟨hfz b' i v hz, fun m o' h => absurd h (hno m o')⟩
    · intro b' i v hz _; exact hz
    · rfl
    · rfl
    · rfl
  obtain ⟨a, x, e, hx, hy⟩ := VRL.split ha
  have hag : Agree 0 F F2 := ⟨fun n hn => absurd hn (Nat.not_lt_zero n), hzz⟩
  simp only [VRL] at hy
  obtain ⟨y, q', hy, hq, e2⟩ := hy
  subst e2
  have hy2 : VR F2 (.iface mkD (.agg ⟨rows⟩)) y := by
    simp only [VR] at hy
    obtain ⟨a', d', o', q1, q2, q3, q4⟩ := hy
    rw [hF] at q1; simp only [Option.some.injEq, Prod.mk.injEq] at q1
    obtain ⟨e1, e2, e3⟩ := q1
    subst q4
    obtain ⟨rows', k1, k2⟩ := flat_inv (F := F2) rows vs _ hf hb (VRL.below hag _ _ hb hvl)
    refine VR.D_mk (rows' := rows') (sz := size) k1 (by omega) q3 hs fun r rr hr => ?_
    obtain ⟨cs, g1, g2, g3⟩ := k2 r rr hr
    refine ⟨cs, g1, g2, fun j y hj => ?_⟩
    have := g3 j y hj
    rw [List.getElem?_take] at this
    split at this
    · rename_i hlt
      rw [List.getElem?_drop] at this
      show (if a'.block = b ∧ o ≤ a'.off + r * size + j ∧ a'.off + r * size + j < o + vs.length then cc[a'.off + r * size + j]? else F.z a'.block (a'.off + r * size + j)) = some y
      rw [if_pos ⟨e1.symm, by omega, by omega⟩]
      have e5 : a'.off + r * size + j = o + (r * size + j) := by omega
      rw [e5, ← this]; simp
    · cases this
  have ha2 : VRL F2 (pre ++ .iface mkD (.agg ⟨rows⟩) :: post) args'.toList := by
    rw [e]
    refine VRL.app (VRL.below hag _ _ hpre hx) ?_
    simp only [VRL]
    exact ⟨y, q', hy2, VRL.below hag _ _ hpost hq, rfl⟩
  refine (hS B2 (hOf G [] []) F2 w args' R2 ha2).mono fun e1 w' ⟨F3, hle, he, R3⟩ => ?_
  let F4 : Nm := ⟨F.f, fun b' j => if b' = b then F.z b' j else F3.z b' j⟩
  have hF4 : Nm.le F F4 := by
    refine ⟨fun n x h => h, fun b' j v hz => ?_⟩
    show (if b' = b then F.z b' j else F3.z b' j) = some v
    split
    · exact hz
    · exact hle.zs b' j v (hzz b' j v hz)
  have hwb : b < w.heap.size := by
    rcases Nat.lt_or_ge b w.heap.size with h | h
    · exact h
    · rw [Array.getElem?_eq_none h] at hw; cases hw
  have hold : ∀ m o', H.get m = some o' → ∀ b', blk F m = some b' → w'.heap[b']? = w.heap[b']? := by
    intro m o' h b' hb'
    obtain ⟨b2, g1, g2, _⟩ := R.blk_lt h
    rw [hb'] at g1; simp only [Option.some.injEq] at g1; subst g1
    exact R3.frame b' g2
  refine ⟨F4, hF4, ?_, ?_⟩
  · simp only [EnR] at he ⊢
    obtain ⟨v2, h3, h4⟩ := he
    exact ⟨v2, (VR.plain_eq _ _ hv).2 ((VR.plain_eq _ _ hv).1 h3), h4⟩
  · constructor
    · intro m o' h; exact objR_mono hF4 (objR_other (R.obj m o' h) (hold m o' h))
    · exact R.inj
    · exact R.fresh
    · exact R.glob
    · have := R.base; have := R3.base
      have e : B2.w.heap.size = w.heap.size := rfl
      omega
    · intro i hi
      have h1 := B.lt i hi
      have h2 := R.base
      rw [R3.frame i (show i < w.heap.size by omega)]; exact R.frame i hi
    · intro b' i v hz
      have hz : (if b' = b then F.z b' i else F3.z b' i) = some v := hz
      split at hz
      · rename_i hbb; rw [hbb, hnz] at hz; cases hz
      · rename_i hbb
        refine ⟨(R3.froz b' i v hz).1, fun m o' h how hblk => ?_⟩
        obtain ⟨b2, g1, g2, _⟩ := R.blk_lt h
        have hblk : blk F m = some b' := hblk
        rw [hblk] at g1; simp only [Option.some.injEq] at g1; subst g1
        have hz2 : zz b' i = some v := R3.zprot b' i v hz g2
        have hz2 : (if b' = b ∧ o ≤ i ∧ i < o + vs.length then cc[i]? else F.z b' i) = some v := hz2
        rw [if_neg (fun hc => hbb hc.1)] at hz2
        exact (R.froz b' i v hz2).2 m o' h how hblk
    · intro b' i v hz hp
      have hz : (if b' = b then F.z b' i else F3.z b' i) = some v := hz
      have h1 := B.lt b' hp
      have h2 := R.base
      split at hz
      · exact R.zprot b' i v hz hp
      · rename_i hbb
        have hz2 : zz b' i = some v := R3.zprot b' i v hz (show b' < w.heap.size by omega)
        have hz2 : (if b' = b ∧ o ≤ i ∧ i < o + vs.length then cc[i]? else F.z b' i) = some v := hz2
        rw [if_neg (fun hc => hbb hc.1)] at hz2
        exact R.zprot b' i v hz2 hp
    · rw [R3.os]; exact R.os
    · rw [R3.out]; exact R.out
    · rw [R3.tape]; exact R.tape
theorem n_quoI {m d : Nat} {K : Int → Prop} (hd : 0 < d) (hm : m ≤ 9223372036854775807) (hk : K ((m / d : Nat) : Int)) : (real P).ari .quo .i64 (m : Int) .i64 (d : Int) K := by
  refine ⟨((m / d : Nat) : Int), ?_, hk⟩
  have hlt : m / d ≤ 9223372036854775807 := Nat.le_trans (Nat.div_le_self _ _) hm
  have e : IntKind.i64.wrap ((m : Int).tdiv (d : Int)) = ((m / d : Nat) : Int) := by
    rw [show ((m : Int).tdiv (d : Int)) = ((m / d : Nat) : Int) by simp]
    generalize m / d = q at hlt
    simp [IntKind.wrap, IntKind.signed, IntKind.bits]; omega
  have hd0 : ¬ (d : Int) = 0 := by omega
  simp only [intBin, e]
  rw [show decide ((d : Int) = 0) = false by simpa using hd0]; rfl
end
end
end Go.Abs
/- Are two structs of integers the same? -/
namespace Go.Abs
open Go
set_option linter.unusedVariables false
section
variable {P : Program}
def eqPairsF (P : Program) (rec : TypeId → List Value → List Value → Option (List (Int × Int))) (xs ys : List Value) : List Field → Option (List (Int × Int))
  | [] => some []
  | f :: fs => match f.name == "_" with
    | true => none
    | false => match P.underlying f.type with
      | some (.int _) => match xs[f.offset]?, ys[f.offset]? with
        | some (.int k a), some (.int k' b) => match decide (k = k') with
          | true => match eqPairsF P rec xs ys fs with
            | some l => some ((a, b) :: l)
            | none => none
          | false => none
        | _, _ => none
      | some (.struct _) => match aSize P f.type with
        | some n => match rec f.type ((xs.drop f.offset).take n) ((ys.drop f.offset).take n), eqPairsF P rec xs ys fs with
          | some l, some l' => some (l ++ l')
          | _, _ => none
        | none => none
      | _ => none
def eqPairs (P : Program) : Nat → TypeId → List Value → List Value → Option (List (Int × Int))
  | 0, _, _, _ => none
  | d + 1, t, xs, ys => match P.underlying t with
    | some (.struct fs) => match P.stoodInHeld t with
      | true => none
      | false => eqPairsF P (eqPairs P d) xs ys fs.toList
    | _ => none
def allEq (l : List (Int × Int)) : Bool := l.all fun (a, b) => a == b
theorem pure_underlying {t : TypeId} {d : TypeDesc} (h : P.underlying t = some d) : pureSem P (underlying t) = some d := pureSem_underlying h
theorem pure_isAgg {t : TypeId} {d : TypeDesc} (h : P.underlying t = some d) : pureSem P (isAgg t) = some (isAggD d) := by
  unfold isAgg; rw [pureSem_bind, pure_underlying h, Option.bind_some]
  cases d <;> rfl
theorem pure_sizeOf {t : TypeId} {n : Nat} (h : aSize P t = some n) : pureSem P (sizeOf t) = some n := by
  unfold aSize at h
  cases e : P.info? t with
  | none => rw [e] at h; cases h
  | some i =>
    rw [e] at h; simp only [Option.map_some, Option.some.injEq] at h; subst h
    simp [sizeOf, typeInfo, program, pureSem_bind, pureSem, e]
    rfl
theorem pure_part_int {t : TypeId} {d : IntKind} (hu : P.underlying t = some (.int d)) {cs : List Value} {off : Nat} {v : Value} (h : cs[off]? = some v) : pureSem P (part t ⟨cs⟩ off) = some v := by
  unfold part
  rw [pureSem_bind, pure_isAgg hu, Option.bind_some]
  simp [isAggD, h]
  rfl
theorem pure_part_struct {t : TypeId} {fs : Array Field} (hu : P.underlying t = some (.struct fs)) {cs : List Value} {off n : Nat} (hn : aSize P t = some n) : pureSem P (part t ⟨cs⟩ off) = some (.agg ⟨(cs.drop off).take n⟩) := by
  unfold part
  rw [pureSem_bind, pure_isAgg hu, Option.bind_some]
  simp only [isAggD, if_true]
  rw [pureSem_bind, pure_sizeOf hn, Option.bind_some]
  simp
  rfl
theorem pure_equal_int {t : TypeId} {q k : IntKind} {a b : Int} (hu : P.underlying t = some (.int q)) (n : Nat) : pureSem P (Op.equalIn (n + 1) t (.int k a) (.int k b)) = some (a == b) := by
  simp only [Op.equalIn, pureSem_bind, pure_underlying hu, Option.bind_some, if_true]
  rfl
theorem pure_struct {t : TypeId} {fs : Array Field} (hu : P.underlying t = some (.struct fs)) (hp : P.stoodInHeld t = false) (d : Nat) (xs ys : Array Value) :
    pureSem P (Op.equalIn (d + 1) t (.agg xs) (.agg ys)) = pureSem P (Op.eqFields d xs ys fs.toList) := by
  have e0 : pureSem P (program) = some P := rfl
  simp only [Op.equalIn, pureSem_bind, pure_underlying hu, Option.bind_some, e0, hp, Bool.false_eq_true, if_false]
  rw [← Array.forIn_toList]
  have e1 : pureSem P (pure PUnit.unit : Sem PUnit) = some PUnit.unit := rfl
  generalize fs.toList = l
  clear hu
  induction l with
  | nil => rfl
  | cons f fs ih =>
    simp only [List.forIn_cons, Op.eqFields]
    by_cases hn : f.name = "_"
    · simp only [hn, ne_eq, not_true_eq_false, if_false, pureSem_bind]
      exact ih
    · simp only [hn, ne_eq, not_false_eq_true, if_true, pureSem_bind]
      cases h1 : pureSem P (part f.type xs f.offset) with
      | none => simp
      | some a =>
        simp only [Option.bind_some]
        cases h2 : pureSem P (part f.type ys f.offset) with
        | none => simp
        | some b =>
          simp only [Option.bind_some]
          cases h3 : pureSem P (Op.equalIn d f.type a b) with
          | none => simp
          | some r =>
            simp only [Option.bind_some]
            cases r
            · rfl
            · exact ih
theorem pairsF_ok {rec : TypeId → List Value → List Value → Option (List (Int × Int))} {d : Nat} (hrec : ∀ t l l' ps, rec t l l' = some ps → pureSem P (Op.equalIn (d + 1) t (.agg ⟨l⟩) (.agg ⟨l'⟩)) = some (allEq ps)) {xs ys : List Value} :
    ∀ (fs : List Field) (ps : List (Int × Int)), eqPairsF P rec xs ys fs = some ps → pureSem P (Op.eqFields (d + 1) ⟨xs⟩ ⟨ys⟩ fs) = some (allEq ps)
  | [], ps, h => by simp only [eqPairsF, Option.some.injEq] at h; subst h; rfl
  | f :: fs, ps, h => by
    have ih := fun ps h => pairsF_ok hrec (xs := xs) (ys := ys) fs ps h
    unfold eqPairsF at h
    split at h
    · cases h
    · rename_i hn
      have hn : f.name ≠ "_" := by simpa using hn
      split at h
      · rename_i q hu
        split at h
        · rename_i k a k' b h1 h2
          split at h
          · rename_i hk
            simp only [decide_eq_true_eq] at hk; subst hk
            split at h
            · rename_i l hl
              simp only [Option.some.injEq] at h; subst h
              simp only [Op.eqFields, hn, ne_eq, not_false_eq_true, if_true, pureSem_bind, pure_part_int hu h1, pure_part_int hu h2, Option.bind_some, pure_equal_int hu]
              cases hab : a == b
              · simp [allEq, hab]; rfl
              · simp only [Bool.not_true, Bool.false_eq_true, if_false, ih _ hl]
                simp [allEq, hab]
            · cases h
          · cases h
        · cases h
      · rename_i gs hu
        split at h
        · rename_i n hsz
          split at h
          · rename_i l l' hl hl'
            simp only [Option.some.injEq] at h; subst h
            simp only [Op.eqFields, hn, ne_eq, not_false_eq_true, if_true, pureSem_bind, pure_part_struct hu hsz, Option.bind_some, hrec _ _ _ _ hl]
            cases hab : allEq l
            · simp only [Bool.not_false, if_true]
              simp only [allEq] at hab ⊢
              rw [List.all_append, hab]; rfl
            · simp only [Bool.not_true, Bool.false_eq_true, if_false, ih _ hl']
              simp only [allEq] at hab ⊢
              rw [List.all_append, hab]; rfl
          · cases h
        · cases h
      · cases h
theorem pairs_ok : ∀ (d : Nat) (t : TypeId) (l l' : List Value) (ps : List (Int × Int)) (n : Nat), d ≤ n → eqPairs P d t l l' = some ps → pureSem P (Op.equalIn (n + 1) t (.agg ⟨l⟩) (.agg ⟨l'⟩)) = some (allEq ps)
  | 0, t, l, l', ps, n, hn, h => by cases h
  | d + 1, t, l, l', ps, n, hn, h => by
    unfold eqPairs at h
    split at h
    · rename_i fs hu
      split at h
      · cases h
      · rename_i hp
        rw [pure_struct hu hp]
        obtain ⟨m, rfl⟩ : ∃ m, n = m + 1 := ⟨n - 1, by omega⟩
        exact pairsF_ok (fun t l l' ps h => pairs_ok d t l l' ps m (by omega) h) _ _ h
    · cases h
theorem pure_eqGuard {op : BinOp} {t : TypeId} {x y : Operand} {xs ys : Array Value} (hm : P.eqGuardType P.depth t = false) : pureSem P (eqGuard op t x y (.agg xs) (.agg ys)) = some () := by
  have e0 : pureSem P (program) = some P := rfl
  cases op <;> simp [eqGuard, pureSem_bind, e0, hm] <;> rfl
theorem ag_eql {t : TypeId} {l l' : List Value} {ps : List (Int × Int)} (h : eqPairs P 5 t l l' = some ps) (hm : P.eqGuardType P.depth t = false) (hl : plainL l = true) (hl' : plainL l' = true) (H : Heap) (x y : Operand) :
    aBin P H .eql t x y (.agg ⟨l⟩) (.agg ⟨l'⟩) = some (.bool (allEq ps)) := by
  have e : pureSem P (do eqGuard .eql t x y (.agg ⟨l⟩) (.agg ⟨l'⟩); binOp .eql t (.agg ⟨l⟩) (.agg ⟨l'⟩)) = some (.bool (allEq ps)) := by
    rw [pureSem_bind, pure_eqGuard hm, Option.bind_some, show binOp .eql t (.agg ⟨l⟩) (.agg ⟨l'⟩) = (do pure (.bool ((← Op.equalIn (9999 + 1) t (.agg ⟨l⟩) (.agg ⟨l'⟩))))) from rfl, pureSem_bind, pairs_ok 5 t l l' ps 9999 (by omega) h]
    rfl
  simp only [aBin, plain, plainA, hl, hl', Bool.and_self, pureVal, e]
theorem ag_neq {t : TypeId} {l l' : List Value} {ps : List (Int × Int)} (h : eqPairs P 5 t l l' = some ps) (hm : P.eqGuardType P.depth t = false) (hl : plainL l = true) (hl' : plainL l' = true) (H : Heap) (x y : Operand) :
    aBin P H .neq t x y (.agg ⟨l⟩) (.agg ⟨l'⟩) = some (.bool (!allEq ps)) := by
  have e : pureSem P (do eqGuard .neq t x y (.agg ⟨l⟩) (.agg ⟨l'⟩); binOp .neq t (.agg ⟨l⟩) (.agg ⟨l'⟩)) = some (.bool (!allEq ps)) := by
    rw [pureSem_bind, pure_eqGuard hm, Option.bind_some, show binOp .neq t (.agg ⟨l⟩) (.agg ⟨l'⟩) = (do pure (.bool (!(← Op.equalIn (9999 + 1) t (.agg ⟨l⟩) (.agg ⟨l'⟩))))) from rfl, pureSem_bind, pairs_ok 5 t l l' ps 9999 (by omega) h]
    rfl
  simp only [aBin, plain, plainA, hl, hl', Bool.and_self, pureVal, e]
theorem n_agEql {t : TypeId} {l l' : List Value} {ps : List (Int × Int)} {X Y : Prop} (h : eqPairs P 5 t l l' = some ps) (hm : P.eqGuardType P.depth t = false) (hl : plainL l = true) (hl' : plainL l' = true)
    (h1 : allEq ps = true → X) (h2 : allEq ps = false → Y) : (real P).agEq .eql t l l' X Y := ⟨_, fun H x y => ag_eql h hm hl hl' H x y, h1, h2⟩
theorem n_agNeq {t : TypeId} {l l' : List Value} {ps : List (Int × Int)} {X Y : Prop} (h : eqPairs P 5 t l l' = some ps) (hm : P.eqGuardType P.depth t = false) (hl : plainL l = true) (hl' : plainL l' = true)
    (h1 : allEq ps = false → X) (h2 : allEq ps = true → Y) : (real P).agEq .neq t l l' X Y := ⟨_, fun H x y => ag_neq h hm hl hl' H x y, fun e => h1 (by simpa using e), fun e => h2 (by simpa using e)⟩
end
end Go.Abs
