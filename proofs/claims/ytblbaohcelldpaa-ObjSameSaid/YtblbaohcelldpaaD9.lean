/- A contract at a heap, where some of the names that are handed in hold no object. -/
import Derived.Test.YtblbaohcelldpaaD8
namespace Go.Abs
open Go
noncomputable section
set_option linter.unusedVariables false
section
variable {P : Program} {G : Nat}
theorem liftO {f : FuncId} {args : List Value} {e : Ending} {ins upd : List (Option AObj)} {new : List AObj} (hu : upd.length = ins.length) (hhole : ∀ i : Nat, ins[i]? = some none → upd[i]? = some none) (hnew : new.all (·.own) = true)
    (hcall : ∀ B, CallH P G B f args (hOf G [] ins) e (hOf G [] (upd ++ new.map some))) {H : Heap} {ns : List Nat} (hl : ns.length = ins.length) (hnd : ns.Nodup) (hnlt : ∀ m ∈ ns, G ≤ m ∧ m < H.next)
    (hobj : ∀ (i : Nat) (o : AObj), ins[i]? = some (some o) → ∃ n : Nat, ns[i]? = some n ∧ H.get n = some (oren (tau G ns H.next) o)) (B : Base) :
    CallH P G B f (vrenL (tau G ns H.next) args) H (eren (tau G ns H.next) e) (pushAll (putAll H ns (upd.map (·.map (oren (tau G ns H.next))))) (new.map (oren (tau G ns H.next)))) := by
  intro F w args' R ha
  have hGn := R.next_le
  generalize hτ : tau G ns H.next = τ at *
  have hτlt : ∀ n, n < G → τ n = n := fun n h => by rw [← hτ]; exact tau_lt h
  have hτin : ∀ n m : Nat, G ≤ n → ns[n - G]? = some m → τ n = m := fun n m h h2 => by rw [← hτ]; exact tau_in h h2
  have hτnew : ∀ n, G + ns.length ≤ n → τ n = H.next + (n - G - ns.length) := fun n h => by rw [← hτ]; exact tau_new h
  have hin : ∀ n, G ≤ n → n < G + ns.length → ∃ m, ns[n - G]? = some m ∧ τ n = m ∧ m ∈ ns ∧ m < H.next ∧ ∀ o, ins[n - G]? = some (some o) → H.get m = some (oren τ o) := by
    intro n h1 h2
    have h3 : n - G < ns.length := by omega
    have h4 : ns[n - G]? = some ns[n - G] := by simp [h3]
    have h5 : ns[n - G] ∈ ns := List.getElem_mem h3
    refine ⟨_, h4, hτin n _ h1 h4, h5, (hnlt _ h5).2, fun o ho => ?_⟩
    obtain ⟨m, g1, g2⟩ := hobj _ _ ho
    rw [h4] at g1; simp only [Option.some.injEq] at g1; subst g1; exact g2
  let B2 : Base := ⟨w, fun i => i < w.heap.size ∧ ∀ n o, n ∈ ns → H.get n = some o → o.own = true → blk F n ≠ some i, fun i h => h.1⟩
  have hins : ∀ n o, (hOf G [] ins).get n = some o → G ≤ n ∧ n < G + ns.length ∧ ins[n - G]? = some (some o) := by
    intro n o h
    rw [hOf_get] at h
    split at h
    · rename_i hg
      refine ⟨hg.1, by omega, ?_⟩
      rw [List.getElem?_eq_getElem (by omega)] at h ⊢
      simpa using h
    · simp only [glTr, Tr.get_lf] at h; cases h
  have R2 : Rel G (fun n => F (τ n)) (hOf G [] ins) B2 w := by
    constructor
    · intro n o h
      obtain ⟨h1, h2, h3⟩ := hins n o h
      obtain ⟨m, g1, g2, hm, g4, g5⟩ := hin n h1 h2
      have h5 := R.obj m _ (g5 o h3)
      have h6 : objR F B2 w m (oren τ o) := by
        cases o with
        | cells vs elem sz lo ow =>
          obtain ⟨b, d, s, c', fz, q1, q2, q3, q4, q5, q6⟩ := h5
          refine ⟨b, d, s, c', fz, q1, q2, q3, q4, q5, fun ho => ⟨fun hp => ?_, (q6 ho).2⟩⟩
          exact hp.2 m _ hm (g5 _ h3) (by simp only [oren, AObj.own]; exact ho) (by simp [blk, q1])
      rw [← g2] at h6
      exact objR_ren h6
    · intro n m o o' hn hm hne ho
      obtain ⟨h1, h2, h3⟩ := hins n o hn
      obtain ⟨h1', h2', h3'⟩ := hins m o' hm
      obtain ⟨a, g1, g2, g3, g4, g5⟩ := hin n h1 h2
      obtain ⟨a', g1', g2', g3', g4', g5'⟩ := hin m h1' h2'
      have hne' : a ≠ a' := by
        intro e; subst e
        have h4 : n - G < ns.length := by omega
        have := (List.getElem?_inj h4 hnd).1 (g1.trans g1'.symm)
        omega
      have := R.inj a a' _ _ (g5 o h3) (g5' o' h3') hne' (by rw [oren_own]; exact ho)
      simp only [blk, g2, g2'] at this ⊢; exact this
    · intro n hn
      have hn : G + ins.length ≤ n := hn
      simp only [hτnew n (by omega)]
      exact R.fresh _ (by omega)
    · intro g hg
      simp only [hτlt g hg]; exact R.glob g hg
    · exact Nat.le_refl _
    · intro i _; rfl
    · rfl
    · rfl
    · rfl
  refine (hcall B2 _ w args' R2 ((VRL_ren _ _).1 ha)).mono fun e1 w' ⟨F3, hle, he, R3⟩ => ?_
  -- the names behind the call
  let F4 : Nm := fun n => if H.next ≤ n then F3 (G + ns.length + (n - H.next)) else open Classical in if h : ∃ i, ns[i]? = some n then F3 (G + Classical.choose h) else F n
  have hF4in : ∀ i m, ns[i]? = some m → F4 m = F3 (G + i) := by
    intro i m hi
    have hm := (hnlt m (List.mem_of_getElem? hi)).2
    have hex : ∃ i, ns[i]? = some m := ⟨i, hi⟩
    simp only [F4]; rw [if_neg (by omega), dif_pos hex]
    have h2 := Classical.choose_spec hex
    have hlt : i < ns.length := (List.getElem?_eq_some_iff.1 hi).1
    have := (List.getElem?_inj hlt hnd).1 (hi.trans h2.symm)
    rw [← this]
  have hF4out : ∀ n, n < H.next → n ∉ ns → F4 n = F n := by
    intro n h hn
    simp only [F4]; rw [if_neg (by omega), dif_neg (fun ⟨i, hi⟩ => hn (List.mem_of_getElem? hi))]
  have hF4 : ∀ n, F3 n = F4 (τ n) := by
    intro n
    rcases Nat.lt_or_ge n G with h | h
    · have h1 : F4 (τ n) = F n := by
        rw [hτlt n h]; exact hF4out n (by omega) (fun hm => by have := (hnlt n hm).1; omega)
      rw [h1]
      have := R.glob n h
      rw [this]; exact hle n _ (by simp only [hτlt n h]; exact this)
    · rcases Nat.lt_or_ge n (G + ns.length) with h2 | h2
      · obtain ⟨m, g1, g2, g3, g4, g5⟩ := hin n h h2
        rw [g2, hF4in _ _ g1]; congr 1; omega
      · have h1 : F4 (τ n) = F3 (G + ns.length + (H.next + (n - G - ns.length) - H.next)) := by
          simp only [F4, hτnew n h2]; rw [if_pos (by omega)]
        rw [h1]; congr 1; omega
  have hF3 : F3 = fun n => F4 (τ n) := funext hF4
  have hleF : Nm.le F F4 := by
    intro n x hx
    have hlt : n < H.next := by
      rcases Nat.lt_or_ge n H.next with h | h
      · exact h
      · rw [R.fresh n h] at hx; cases hx
    by_cases hm : n ∈ ns
    · obtain ⟨i, hi⟩ := List.getElem?_of_mem hm
      have hil : i < ns.length := (List.getElem?_eq_some_iff.1 hi).1
      rw [hF4in i n hi]
      refine hle _ _ ?_
      show F (τ (G + i)) = some x
      rw [hτin (G + i) n (by omega) (by rw [Nat.add_sub_cancel_left]; exact hi)]; exact hx
    · rw [hF4out n hlt hm]; exact hx
  refine ⟨F4, hleF, (EnR_ren _ _).2 (by rw [← hF3]; exact he), ?_⟩
  rw [hF3] at R3
  -- what the heap holds
  have hul : ns.length = (upd.map (·.map (oren τ))).length := by rw [List.length_map]; omega
  have hcases : ∀ n o, (pushAll (putAll H ns (upd.map (·.map (oren τ)))) (new.map (oren τ))).get n = some o →
      (∃ k p, n = τ k ∧ o = oren τ p ∧ (hOf G [] (upd ++ new.map some)).get k = some p ∧ ((k < G + ns.length ∧ n ∈ ns) ∨ (G + ns.length ≤ k ∧ H.next ≤ n ∧ p.own = true))) ∨ (n ∉ ns ∧ n < H.next ∧ H.get n = some o) := by
    intro n o h
    rw [pushAll_get, putAll_next] at h
    split at h
    · rename_i hr
      left
      rw [List.getElem?_map] at h
      rw [List.length_map] at hr
      cases hc : new[n - H.next]? with
      | none => rw [hc] at h; cases h
      | some p =>
        rw [hc] at h; simp only [Option.map_some, Option.some.injEq] at h
        refine ⟨G + ns.length + (n - H.next), p, ?_, h.symm, ?_, .inr ⟨by omega, hr.1, ?_⟩⟩
        · rw [hτnew _ (by omega)]; omega
        · rw [hOf_get, if_pos (by rw [List.length_append, List.length_map]; omega), List.getElem?_append_right (by omega), List.getElem?_map]
          have : G + ns.length + (n - H.next) - G - upd.length = n - H.next := by omega
          rw [this, hc]; rfl
        · exact List.all_eq_true.1 hnew p (List.mem_of_getElem? hc)
    · rename_i hr
      by_cases hm : n ∈ ns
      · left
        obtain ⟨i, hi⟩ := List.getElem?_of_mem hm
        have hil : i < ns.length := (List.getElem?_eq_some_iff.1 hi).1
        rw [(putAll_get ns _ H n hul hnd).1 i hi, List.getElem?_map] at h
        have hiu : i < upd.length := by omega
        rw [List.getElem?_eq_getElem hiu] at h
        simp only [Option.map_some, Option.getD_some, Option.map_eq_some_iff] at h
        obtain ⟨p, hp, e⟩ := h
        refine ⟨G + i, p, (hτin (G + i) n (by omega) (by rw [Nat.add_sub_cancel_left]; exact hi)).symm, e.symm, ?_, .inl ⟨by omega, hm⟩⟩
        rw [hOf_get, if_pos (by rw [List.length_append, List.length_map]; omega), Nat.add_sub_cancel_left, List.getElem?_append_left hiu, List.getElem?_eq_getElem hiu]
        simpa using hp
      · right
        rw [(putAll_get ns _ H n hul hnd).2 hm] at h
        exact ⟨hm, R.live_lt h, h⟩
  have hprot : ∀ b, ¬ B2.prot b → w.heap.size ≤ b ∨ ∃ n o, n ∈ ns ∧ H.get n = some o ∧ o.own = true ∧ blk F n = some b := by
    intro b hb
    rcases Nat.lt_or_ge b w.heap.size with h | h
    · right
      refine Classical.byContradiction fun hc => hb ⟨h, fun n o hn ho hown hblk => hc ⟨n, o, hn, ho, hown, hblk⟩⟩
    · exact .inl h
  have hnprot : ∀ b, ¬ B2.prot b → ¬ B.prot b := by
    intro b hb hB
    rcases hprot b hb with h | ⟨n, o, h1, h2, h3, h4⟩
    · have := B.lt b hB; have := R.base; omega
    · obtain ⟨b', g1, _, g3⟩ := R.blk_lt h2
      rw [h4] at g1; simp only [Option.some.injEq] at g1; subst g1
      exact g3 h3 hB
  have hother : ∀ n o, n ∉ ns → H.get n = some o → ∀ b, blk F n = some b → B2.prot b := by
    intro n o hn ho b hb
    obtain ⟨b', g1, g2, _⟩ := R.blk_lt ho
    rw [hb] at g1; simp only [Option.some.injEq] at g1; subst g1
    refine ⟨g2, fun m o' hm ho' hown hblk => ?_⟩
    have := R.inj m n o' o ho' ho (fun e => hn (e ▸ hm)) hown
    exact this (by rw [hblk, hb])
  constructor
  · intro n o h
    rcases hcases n o h with ⟨k, p, e1, e2, e3, e4⟩ | ⟨h1, h2, h3⟩
    · subst e1; subst e2
      have h5 := R3.obj k p e3
      have h6 : objR (fun n => F4 (τ n)) B w' k p := by
        cases p with
        | cells vs elem sz lo ow =>
          obtain ⟨b, d, s, c', fz, q1, q2, q3, q4, q5, q6⟩ := h5
          exact ⟨b, d, s, c', fz, q1, q2, q3, q4, q5, fun ho => ⟨hnprot b (q6 ho).1, (q6 ho).2⟩⟩
      exact objR_ren' h6
    · have h5 := R.obj n o h3
      have h6 : objR F B w' n o := objR_other h5 fun b hb => R3.frame b (hother n o h1 h3 b hb)
      cases o with
      | cells vs elem sz lo ow =>
        obtain ⟨b, d, s, c', fz, q1, q2, q3, q4, q5, q6⟩ := h6
        exact ⟨b, d, s, c', fz, hleF _ _ q1, q2, VRL.mono hleF _ _ q3, q4, q5, q6⟩
  · intro n m o o' hn hm hne ho
    have hA : ∀ n o, (∃ k p, n = τ k ∧ o = oren τ p ∧ (hOf G [] (upd ++ new.map some)).get k = some p) → ∃ b, blk F4 n = some b ∧ (o.own = true → ¬ B2.prot b) := by
      rintro n o ⟨k, p, e1, e2, e3⟩
      subst e1; subst e2
      obtain ⟨b, g1, _, g3⟩ := R3.blk_lt e3
      exact ⟨b, g1, fun h => g3 (by rw [oren_own] at h; exact h)⟩
    rcases hcases n o hn with ⟨k, p, e1, e2, e3, e4⟩ | ⟨h1, h2, h3⟩ <;> rcases hcases m o' hm with ⟨k', p', e1', e2', e3', e4'⟩ | ⟨h1', h2', h3'⟩
    · subst e1; subst e2; subst e1'
      exact R3.inj k k' p p' e3 e3' (fun e => hne (by rw [e])) (by rw [oren_own] at ho; exact ho)
    · obtain ⟨b, hb, hown⟩ := hA n o ⟨k, p, e1, e2, e3⟩
      obtain ⟨b', hb', hlt', _⟩ := R.blk_lt h3'
      intro e
      rw [hb] at e
      simp only [blk, hF4out m h2' h1'] at e
      have e' : blk F m = some b := e.symm
      exact hown ho (hother m o' h1' h3' b e')
    · obtain ⟨b', hb', hown'⟩ := hA m o' ⟨k', p', e1', e2', e3'⟩
      intro e
      simp only [blk, hF4out n h2 h1] at e
      have e' : blk F n = some b' := by rw [← hb']; exact e
      -- n is ours to write; the callee's m lies in another block
      have hp := hother n o h1 h3 b' e'
      rcases e4' with ⟨hk, hmem⟩ | ⟨_, _, hown2⟩
      · -- m is one of the names handed in, in n's block
        have hkG : G ≤ k' := by
          rcases Nat.lt_or_ge k' G with c | c
          · rw [hOf_get, if_neg (by omega)] at e3'
            simp only [glTr, Tr.get_lf] at e3'; cases e3'
          · exact c
        obtain ⟨a, g1, g2, g3, g4, g5⟩ := hin k' hkG hk
        have hupd : upd[k' - G]? = some (some p') := by
          rw [hOf_get, if_pos (by rw [List.length_append, List.length_map]; omega), List.getElem?_append_left (by omega)] at e3'
          rw [List.getElem?_eq_getElem (by omega)] at e3' ⊢
          simpa using e3'
        have hio : ∃ o2, ins[k' - G]? = some (some o2) := by
          have hlt : k' - G < ins.length := by omega
          cases ho2 : ins[k' - G] with
          | none =>
            have := hhole (k' - G) (by rw [List.getElem?_eq_getElem hlt, ho2])
            rw [hupd] at this; cases this
          | some o2 => exact ⟨o2, by rw [List.getElem?_eq_getElem hlt, ho2]⟩
        obtain ⟨o2, ho2⟩ := hio
        have hlive := g5 o2 ho2
        rw [e1', g2] at hb'
        have hex : ∃ x, F a = some x := by
          obtain ⟨b2, q1, _⟩ := R.blk_lt hlive
          cases hFa : F a with
          | none => simp [blk, hFa] at q1
          | some x => exact ⟨x, rfl⟩
        obtain ⟨x, hx⟩ := hex
        have hFa : blk F a = some b' := by
          simp only [blk, hleF a x hx] at hb'
          simp only [blk, hx]; exact hb'
        have := R.inj n a o _ h3 hlive (fun e => h1 (e ▸ g3)) ho
        exact this (by rw [e', hFa])
      · exact hown' (by rw [e2', oren_own]; exact hown2) hp
    · have := R.inj n m o o' h3 h3' hne ho
      simp only [blk, hF4out n h2 h1, hF4out m h2' h1'] at this ⊢; exact this
  · intro n hn
    rw [pushAll_next, putAll_next, List.length_map] at hn
    simp only [F4]; rw [if_pos (by omega)]
    have := R3.fresh (G + ns.length + (n - H.next)) (by show G + (upd ++ new.map some).length ≤ _; rw [List.length_append, List.length_map]; omega)
    rw [← hF4] at this; exact this
  · intro g hg
    exact hleF _ _ (R.glob g hg)
  · have := R.base; have := R3.base
    have e : B2.w.heap.size = w.heap.size := rfl
    omega
  · intro i hi
    have h1 := B.lt i hi
    have h2 := R.base
    have h3 : B2.prot i := ⟨by omega, fun n o _ ho hown hblk => by
      obtain ⟨b, g1, _, g3⟩ := R.blk_lt ho
      rw [hblk] at g1; simp only [Option.some.injEq] at g1; subst g1
      exact g3 hown hi⟩
    rw [R3.frame i h3]; exact R.frame i hi
  · rw [R3.os]; exact R.os
  · rw [R3.out]; exact R.out
  · rw [R3.tape]; exact R.tape
end
end
end Go.Abs
