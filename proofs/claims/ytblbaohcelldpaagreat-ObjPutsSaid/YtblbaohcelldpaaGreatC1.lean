/- Whatever order is drawn, the region comes to what its run in the text's order comes to. -/
import Derived.Test.YtblbaohcelldpaaGreatB8
namespace Go.Abs
open Go
set_option linter.unusedVariables false
noncomputable section
section
variable {P : Program} {G : Nat} {w0 : Base} {rec : Cmd → Option Res}
def unl (listed : Array Bool) : Nat := (listed.toList.filter (!·)).length
theorem unl_set {listed : Array Bool} {i : Nat} (h : listed.getD i true = false) : unl (listed.setIfInBounds i true) + 1 = unl listed := by
  have key : ∀ (l : List Bool) (i : Nat), l[i]? = some false → ((l.set i true).filter (!·)).length + 1 = (l.filter (!·)).length := by
    intro l
    induction l with
    | nil => intro i hi; simp at hi
    | cons b l ih =>
      intro i hi
      cases i with
      | zero => simp only [List.getElem?_cons_zero, Option.some.injEq] at hi; subst hi; simp
      | succ i =>
        simp only [List.getElem?_cons_succ] at hi
        have := ih i hi
        simp only [List.set_cons_succ, List.filter_cons]
        cases b <;> simp <;> omega
  unfold unl
  rw [Array.toList_setIfInBounds]
  refine key _ _ ?_
  rw [Array.getD_eq_getD_getElem?] at h
  cases hg : listed[i]? with
  | none => rw [hg] at h; simp at h
  | some b => rw [hg] at h; simp only [Option.getD_some] at h; subst h; simpa using hg
theorem unl_pos {listed : Array Bool} {i : Nat} (h : listed.getD i true = false) : 0 < unl listed := by
  have := unl_set h; omega
theorem getD_set (listed : Array Bool) (i j : Nat) (hi : i < listed.size) : (listed.setIfInBounds i true).getD j false = true ↔ (listed.getD j false = true ∨ j = i) := by
  rw [Array.getD_eq_getD_getElem?, Array.getD_eq_getD_getElem?, Array.getElem?_setIfInBounds]
  by_cases h : i = j
  · subst h; simp [hi]
  · rw [if_neg h]; constructor
    · exact .inl
    · rintro (h2 | rfl)
      · exact h2
      · exact absurd rfl h
structure DInv (G : Nat) (w0 : Base) (ops : Array Oper) (recs : List DRec) (hs : List Heap) (s : St) (F0 : Nm) (listed : Array Bool) (a : Act) (w : World) : Prop where
  size : listed.size = ops.size
  closed : Closed ops.toList (fun i => listed.getD i false = true)
  st : ∃ F T k H, Nm.le F0 F ∧ TR F T a.tmps ∧ DsR F s.ds a.defers ∧ Slots recs s.ts (fun i => listed.getD i false = true) T ∧
    (∀ t e, (effs recs)[t]? = some e → (listed.getD e false = true ↔ t < k)) ∧ k ≤ (effs recs).length ∧ hs[k]? = some H ∧ Rel G F H w0 w
theorem mayAt_ok {ms es : List Nat} {i k : Nat} (h1 : ∀ t e, es[t]? = some e → (ms.getD i 0).testBit e = true → t < k) (h2 : ∀ t e, es[t]? = some e → t < k → (ms.getD e 0).testBit i = false) : mayAt ms es i k = true := by
  unfold mayAt
  rw [List.all_eq_true]
  rintro ⟨e, t⟩ hm
  rw [List.mem_zipIdx_iff_getElem?] at hm
  simp only [Bool.and_eq_true, Bool.or_eq_true, Bool.not_eq_true']
  refine ⟨?_, ?_⟩
  · cases hb : (ms.getD i 0).testBit e with
    | false => exact .inl rfl
    | true => exact .inr (Nat.ble_eq_true_of_le (h1 t e hm hb))
  · cases hlt : Nat.blt t k with
    | false => exact .inl rfl
    | true => exact .inr (h2 t e hm (Nat.le_of_ble_eq_true hlt))
theorem draw_sched {S : Cmd → Res → Prop} (hrec : ∀ c r, S c r → Holds P G w0 c r) (hP : okProg P G = true) {ops : Array Oper} {s : St} {recs : List DRec} {hs : List Heap} {ts' : Tm}
    (hok : ops.all (okOper G) = true) (hgo : recs.length = ops.toList.length ∧ ts' = tsOf recs s.ts recs.length ∧ hs.length = stg recs recs.length ∧ ∀ i r, recs[i]? = some r → RecOk P S ops.toList ops.toList s.ts (s.h :: hs) recs i r) (hchk : drawOk P ops.toList recs (s.h :: hs) = true)
    {F0 : Nm} {Q : Exit → Act → World → Prop}
    (hQ : ∀ F a w, Nm.le F0 F → TR F ts' a.tmps → DsR F s.ds a.defers → Rel G F (hs.getLastD s.h) w0 w → Q .normal a w) :
    ∀ (fuel : Nat) (listed : Array Bool) (a : Act) (w : World), DInv G w0 ops recs (s.h :: hs) s F0 listed a w → unl listed ≤ fuel → wpAny P .any ops Q fuel listed a w := by
  obtain ⟨g1, g2, g3, g4⟩ := hgo
  unfold drawOk at hchk
  simp only [Bool.and_eq_true] at hchk
  obtain ⟨⟨hstat, hchain⟩, hquiet⟩ := hchk
  have hlen : recs.length = ops.size := by simpa using g1
  have hop : ∀ {i : Nat} {r : DRec}, recs[i]? = some r → ops[i]? = some r.o := fun hi => by simpa using (g4 _ _ hi).op
  have hrecs : ∀ {i : Nat} {o : Oper}, ops[i]? = some o → ∃ r, recs[i]? = some r ∧ r.o = o := by
    intro i o ho
    have hi : i < recs.length := by rw [hlen]; exact (Array.getElem?_eq_some_iff.1 ho).1
    refine ⟨recs[i], by simp, ?_⟩
    have := hop (i := i) (r := recs[i]) (by simp)
    rw [ho] at this; simpa using this.symm
  have hdist : ∀ (i j : Nat) (ri rj : DRec), recs[i]? = some ri → recs[j]? = some rj → j ≠ i → ∀ d, ri.o.dst = some d → rj.o.dst ≠ some d := by
    intro i j ri rj hi hj hne d hd
    exact (stat_pair hstat (by simpa using hop hi) (by simpa using hop hj) (Ne.symm hne) hd).1
  -- where nothing more can come up all has come up
  have hall : ∀ listed : Array Bool, listed.size = ops.size → Region.ready .any ops listed = [] → ∀ i, i < ops.size → listed.getD i false = true := by
    intro listed hsz hrd i
    induction i using Nat.strongRecOn with
    | _ i ih =>
      intro hi
      cases hb : listed.getD i false with
      | true => rfl
      | false =>
        exfalso
        have : i ∈ Region.ready .any ops listed := by
          rw [mem_ready]
          refine ⟨?_, ops[i], by simp [hi], fun e he hbe => ?_⟩
          · rw [Array.getD_eq_getD_getElem?] at hb ⊢
            have : i < listed.size := by omega
            simp [this] at hb ⊢; exact hb
          · have hlt := stat_edge hstat (j := i) (oj := ops[i]) (by simp [hi]) he hbe
            exact ih e.on hlt (by omega)
        rw [hrd] at this; cases this
  have hend : ∀ listed a w, DInv G w0 ops recs (s.h :: hs) s F0 listed a w → Region.ready .any ops listed = [] → Q .normal a w := by
    intro listed a w inv hrd
    have hS := hall listed inv.size hrd
    obtain ⟨F, T, k, H, h1, h2, h3, h4, h5, h6, h7, h8⟩ := inv.st
    have hT : ∀ t, T.get t = ts'.get t := by
      rw [g2]
      have hts := slots_tsOf (ts := s.ts) hdist recs.length (Nat.le_refl _)
      intro t
      by_cases ht : t < s.ts.n
      · by_cases hw : ∃ (i : Nat) (r : DRec), recs[i]? = some r ∧ r.o.dst = some t
        · obtain ⟨i, r, hi, hd⟩ := hw
          have hlt : i < recs.length := (List.getElem?_eq_some_iff.1 hi).1
          rw [h4.2.1 i r hi (hS i (by omega)) t hd ht, hts.2.1 i r hi hlt t hd ht]
        · have hn : ∀ (i : Nat) (r : DRec), recs[i]? = some r → r.o.dst ≠ some t := fun i r hi hd => hw ⟨i, r, hi, hd⟩
          rw [h4.2.2 t (.inl fun i r hi _ => hn i r hi), hts.2.2 t (.inl fun i r hi _ => hn i r hi)]
      · rw [h4.2.2 t (.inr (Nat.le_of_not_lt ht)), hts.2.2 t (.inr (Nat.le_of_not_lt ht))]
    have hTR : TR F ts' a.tmps := by
      have hn : ts'.n = s.ts.n := by rw [g2]; exact (slots_tsOf (ts := s.ts) hdist recs.length (Nat.le_refl _)).1
      exact ⟨by rw [h2.1, hn, h4.1], fun i => by rw [← hT i]; exact h2.2 i⟩
    have hk : k = hs.length := by
      have e : (effs recs).length = hs.length := by rw [effs_len, g3]
      rcases Nat.lt_or_ge k (effs recs).length with hlt | hge
      · exfalso
        have he : (effs recs)[k]? = some (effs recs)[k] := by simp [hlt]
        have := (h5 k _ he).1 (hS _ (by
          have := ((effs_ok recs k _).1 he).1
          obtain ⟨r, hr, _⟩ := this
          have := (List.getElem?_eq_some_iff.1 hr).1
          omega))
        omega
      · omega
    subst hk
    refine hQ F a w h1 hTR h3 ?_
    have : (s.h :: hs)[hs.length]? = some (hs.getLastD s.h) := by
      cases hs with
      | nil => rfl
      | cons x xs => rw [List.getLastD_cons, List.length_cons, List.getElem?_cons_succ]; simp [List.getLastD_eq_getLast?, List.getLast?_eq_getElem?]; cases xs <;> simp
    rw [this] at h7; simp only [Option.some.injEq] at h7; subst h7; exact h8
  intro fuel
  induction fuel with
  | zero =>
    intro listed a w inv hu
    have hrd : Region.ready .any ops listed = [] := by
      cases hr : Region.ready .any ops listed with
      | nil => rfl
      | cons x xs =>
        have : x ∈ Region.ready .any ops listed := by rw [hr]; exact List.mem_cons_self ..
        have := unl_pos (mem_ready.1 this).1
        omega
    exact ⟨hrd, hend listed a w inv hrd⟩
  | succ fuel ih =>
    intro listed a w inv hu
    refine ⟨fun hrd => hend listed a w inv hrd, fun i hi => ?_⟩
    obtain ⟨hiu, o, ho, hafter⟩ := mem_ready.1 hi
    obtain ⟨r, hr, hro⟩ := hrecs ho
    subst hro
    have hilt : i < listed.size := by
      rw [inv.size]; exact (Array.getElem?_eq_some_iff.1 ho).1
    have hiS : ¬ listed.getD i false = true := by
      rw [Array.getD_eq_getD_getElem?] at hiu ⊢
      simp [hilt] at hiu ⊢; exact hiu
    have rok := g4 i r hr
    obtain ⟨F, T, k, H, h1, h2, h3, h4, h5, h6, h7, h8⟩ := inv.st
    have hanc : ∀ j, ((masks ops.toList).getD i 0).testBit j = true → listed.getD j false = true := fun j hj =>
      inv.closed.ready (i := i) (fun o' ho' e he hb => by
        have : o' = r.o := by have := ho'; rw [show ops.toList[i]? = ops[i]? from by simp, ho] at this; simpa using this.symm
        subst this; exact hafter e he hb) hj
    have hdesc : ∀ j, listed.getD j false = true → ((masks ops.toList).getD j 0).testBit i = false := by
      intro j hj
      cases hb : ((masks ops.toList).getD j 0).testBit i with
      | false => rfl
      | true => exact absurd (inv.closed.masks j i hj hb) hiS
    -- what it looks at is as it was in the text's order
    have hts := slots_tsOf (ts := s.ts) hdist i (by have := (List.getElem?_eq_some_iff.1 hr).1; omega)
    have hlook : ∀ d, looks ops.toList r.o d = true → T.get d = r.ts.get d := by
      intro d hd
      rw [rok.tm]
      by_cases hdl : d < s.ts.n
      · by_cases hw : ∃ (j : Nat) (rj : DRec), recs[j]? = some rj ∧ rj.o.dst = some d
        · obtain ⟨j, rj, hj, hdj⟩ := hw
          have hother : ∀ (S : Nat → Prop), ¬ S j → ∀ (i' : Nat) (r' : DRec), recs[i']? = some r' → S i' → r'.o.dst ≠ some d := by
            intro S hnS i' r' hi' hS'
            by_cases e : i' = j
            · subst e; exact absurd hS' hnS
            · exact hdist j i' rj r' hj hi' e d hdj
          by_cases hji : j = i
          · subst hji
            rw [h4.2.2 d (.inl (hother _ hiS)), hts.2.2 d (.inl (hother _ (by omega)))]
          · have hp := (stat_pair hstat (i := j) (j := i) (by simpa using hop hj) (by simpa using ho) hji hdj).2 hd
            by_cases hlt : j < i
            · rw [if_pos hlt] at hp
              have hjS := hanc j hp
              rw [h4.2.1 j rj hj hjS d hdj hdl, hts.2.1 j rj hj hlt d hdj hdl]
            · rw [if_neg hlt] at hp
              have hjS : ¬ listed.getD j false = true := fun hS => by rw [hdesc j hS] at hp; cases hp
              rw [h4.2.2 d (.inl (hother _ hjS)), hts.2.2 d (.inl (hother _ hlt))]
        · have hn : ∀ (i' : Nat) (r' : DRec), recs[i']? = some r' → r'.o.dst ≠ some d := fun i' r' hi' hd' => hw ⟨i', r', hi', hd'⟩
          rw [h4.2.2 d (.inl fun i' r' hi' _ => hn i' r' hi'), hts.2.2 d (.inl fun i' r' hi' _ => hn i' r' hi')]
      · rw [h4.2.2 d (.inr (Nat.le_of_not_lt hdl)), hts.2.2 d (.inr (Nat.le_of_not_lt hdl))]
    have hρ : ∀ x ∈ r.o.op.operands, VR F (aev r.ts x) (a.eval x) := by
      intro x hx
      have hxo := aev_ok (a := a) h8 h2 (okOper_mem hok ho x hx)
      have e : aev r.ts x = aev T x := by
        cases x with
        | tmp t =>
          have := hlook t (by unfold looks; rw [Bool.or_eq_true]; left; rw [Array.any_eq_true']; exact ⟨.tmp t, hx, by simp⟩)
          simp only [aev, this]
        | _ => rfl
      rw [e]; exact hxo
    have hwant : Region.wanted r.o (yielded ops a.tmps) = r.on := by
      refine wantedA_ok h2 ?_
      rw [← rok.on]
      unfold wantedA
      cases hgd : r.o.guard with
      | none => rfl
      | some gw =>
        obtain ⟨j, want⟩ := gw
        have e1 : ∀ d, (ops.toList[j]?).bind (·.dst) = some d → T.get d = r.ts.get d := fun d hd =>
          hlook d (by unfold looks; rw [Bool.or_eq_true]; right; rw [hgd]; simp only; rw [hd]; simp)
        have e2 : yieldedL ops.toList T j = yieldedL ops.toList r.ts j := by
          unfold yieldedL
          cases hd : (ops.toList[j]?).bind (·.dst) with
          | none => rfl
          | some d => simp only; rw [e1 d hd]
        have e3 : topAt ops.toList T j = topAt ops.toList r.ts j := by
          unfold topAt
          cases hd : (ops.toList[j]?).bind (·.dst) with
          | none => rfl
          | some d => simp only; rw [e1 d hd]
        simp only [e2, e3]
    -- behind it the region goes on
    have hgo2 : ∀ F' v' w' k' H', Nm.le F F' → VR F' r.v v' → (∀ t e, (effs recs)[t]? = some e → ((listed.getD e false = true ∨ e = i) ↔ t < k')) → k' ≤ (effs recs).length → (s.h :: hs)[k']? = some H' → Rel G F' H' w0 w' →
        wpAny P .any ops Q fuel (listed.setIfInBounds i true) (a.put r.o.dst v') w' := by
      intro F' v' w' k' H' hle hv he hk' hH' hR'
      refine ih _ _ _ ⟨by simpa using inv.size, ?_, F', putL T r.o.dst r.v, k', H', Nm.le_trans h1 hle, putL_ok (h2.mono hle) hv _, by rw [put_defers]; exact h3.mono hle, ?_, ?_, hk', hH', hR'⟩ (by have := unl_set hiu; omega)
      · intro j o' ho' hj e he' hb
        rw [getD_set _ _ _ hilt] at hj ⊢
        rcases hj with hj | rfl
        · exact .inl (inv.closed j o' ho' hj e he' hb)
        · have : o' = r.o := by have := ho'; rw [show ops.toList[j]? = ops[j]? from by simp, ho] at this; simpa using this.symm
          subst this
          exact .inl (hafter e he' hb)
      · exact (h4.put hr fun j r' hj hne d hd => hdist i j r r' hr hj hne d hd).congr fun j _ => (getD_set _ _ _ hilt).symm
      · intro t e hte
        rw [getD_set _ _ _ hilt]; exact he t e hte
    have hnoeff : r.eff = false → ∀ t e, (effs recs)[t]? = some e → ((listed.getD e false = true ∨ e = i) ↔ t < k) := by
      intro hre t e hte
      have hei : e ≠ i := by
        intro e'; subst e'
        obtain ⟨⟨r', hr', he'⟩, _⟩ := (effs_ok recs t e).1 hte
        rw [hr] at hr'; simp only [Option.some.injEq] at hr'; subst hr'; rw [hre] at he'; cases he'
      rw [← h5 t e hte]
      constructor
      · rintro (h | h)
        · exact h
        · exact absurd h hei
      · exact .inl
    unfold wpOp
    rw [ho]
    simp only [hwant]
    cases hon : r.on with
    | false =>
      simp only [Bool.false_eq_true, if_false]
      obtain ⟨hv, hre⟩ := rok.off hon
      refine hgo2 F undef w k H (Nm.le_refl F) ?_ (hnoeff hre) h6 h7 h8
      rw [hv]; exact (VR.plain_eq _ _ rfl).2 rfl
    | true =>
      simp only [if_true]
      left
      unfold Oper.wp
      cases hre : r.eff with
      | false =>
        have hq := rok.quiet hon hre
        have hz := zipIdx_all hquiet hr
        rw [hon, hre] at hz
        simp only [Bool.not_true, Bool.or_self, Bool.false_or] at hz
        have hz2 := zipIdx_all hz h7
        have hmay : mayAt (masks ops.toList) (effs recs) i k = true := by
          refine mayAt_ok (fun t e hte hb => ?_) (fun t e hte hlt => ?_)
          · exact (h5 t e hte).1 (hanc e hb)
          · exact hdesc e ((h5 t e hte).2 hlt)
        rw [hmay] at hz2
        simp only [Bool.not_true, Bool.false_or] at hz2
        unfold quietAt at hz2
        split at hz2
        · rename_i v H' hop'
          simp only [Bool.and_eq_true] at hz2
          have hv := beqV_eq _ _ hz2.1
          have hn := Nat.eq_of_beq_eq_true hz2.2
          have hH := quiet_same hq hop' hn
          simp only at hH; subst hH
          obtain ⟨F', v', w', n, hle, hrun, hn', hv', hR'⟩ := aOp_ok (P := P) h8 hρ hop'
          rw [hrun]
          rcases hn' with rfl | ⟨rfl, rfl⟩
          · rw [Oper.upon_value]
            exact hgo2 F' v' w' k H' hle (by rw [hv]; exact hv') (hnoeff hre) h6 h7 hR'
          · rw [Oper.upon_skip]
            exact hgo2 F' undef w' k H' hle (by rw [hv]; exact hv') (hnoeff hre) h6 h7 hR'
        · cases hz2
      | true =>
        obtain ⟨_, H1, H2, q1, q2, q3⟩ := rok.eff hre
        have hst := (effs_ok recs (stg recs i) i).2 ⟨⟨r, hr, hre⟩, rfl⟩
        have hsti : ¬ stg recs i < k := fun hlt => hiS ((h5 _ _ hst).2 hlt)
        have hkk : stg recs i = k := by
          rcases Nat.lt_or_ge k (stg recs i) with hlt | hge
          · exfalso
            -- the effect before it has come up
            have hlen2 : stg recs i < (effs recs).length := (List.getElem?_eq_some_iff.1 hst).1
            obtain ⟨m, hm⟩ : ∃ m, stg recs i = m + 1 := ⟨stg recs i - 1, by omega⟩
            have hprev : (effs recs)[m]? = some (effs recs)[m] := by simp
            have hb := chain_ok hchain hprev (by rw [← hm]; exact hst)
            have := (h5 m _ hprev).1 (hanc _ hb)
            omega
          · omega
        rw [hkk] at q1 q2
        rw [h7] at q1; simp only [Option.some.injEq] at q1; subst q1
        have hnew : ∀ t e, (effs recs)[t]? = some e → ((listed.getD e false = true ∨ e = i) ↔ t < k + 1) := by
          intro t e hte
          constructor
          · rintro (h | h)
            · have := (h5 t e hte).1 h; omega
            · subst h
              have := ((effs_ok recs t e).1 hte).2
              omega
          · intro hlt
            rcases Nat.lt_or_ge t k with h | h
            · exact .inl ((h5 t e hte).2 h)
            · have : t = k := by omega
              subst this
              rw [← hkk] at hte
              rw [hst] at hte; simp only [Option.some.injEq] at hte
              exact .inr hte.symm
        have hk1 : k + 1 ≤ (effs recs).length := by
          have := (List.getElem?_eq_some_iff.1 hst).1; omega
        rcases q3 with q3 | ⟨g, args, u, hcall, hrc⟩
        · obtain ⟨F', v', w', n, hle, hrun, hn', hv', hR'⟩ := aOp_ok (P := P) h8 hρ q3
          rw [hrun]
          rcases hn' with rfl | ⟨rfl, rfl⟩
          · rw [Oper.upon_value]
            exact hgo2 F' v' w' (k + 1) H2 hle hv' hnew hk1 q2 hR'
          · rw [Oper.upon_skip]
            exact hgo2 F' undef w' (k + 1) H2 hle hv' hnew hk1 q2 hR'
        · obtain ⟨args', hrun, hargs⟩ := callOf_run hP hρ hcall w
          rw [hrun, Oper.upon_enter]
          have HC := hrec _ _ hrc
          refine (HC F w args' h8 hargs).mono fun e' w' ⟨F', hle, he, hR'⟩ => ?_
          simp only [EnR] at he
          obtain ⟨v', hv', e⟩ := he
          subst e
          exact hgo2 F' v' w' (k + 1) H2 hle hv' hnew hk1 q2 hR'
theorem draw_ok {S : Cmd → Res → Prop} (hrec : ∀ c r, S c r → Holds P G w0 c r) (hP : okProg P G = true) {ops : Array Oper} {s : St} {recs : List DRec} {hs : List Heap} {ts' : Tm}
    (hgo : recs.length = ops.toList.length ∧ ts' = tsOf recs s.ts recs.length ∧ hs.length = stg recs recs.length ∧ ∀ i r, recs[i]? = some r → RecOk P S ops.toList ops.toList s.ts (s.h :: hs) recs i r)
    (hchk : drawOk P ops.toList recs (s.h :: hs) = true) {ts2 : Tm} (h2 : ∀ F tm, TR F ts' tm → TR F ts2 tm) : Holds P G w0 (.draw ops s) (.ex .normal { s with ts := ts2, h := hs.getLastD s.h }) := by
  intro hok c0 rest F a cs w hsr
  obtain ⟨k1, k2, k3, k4⟩ := hsr
  have hf : ∀ j, (Array.replicate ops.size false).getD j false = false := by
    intro j; rw [Array.getD_eq_getD_getElem?, Array.getElem?_replicate]; split <;> rfl
  refine draw_sched hrec hP hok hgo hchk (F0 := F) ?_ ops.size _ a _ ⟨by simp, ?_, F, s.ts, 0, s.h, Nm.le_refl F, k2, k3, ⟨rfl, ?_, fun _ _ => rfl⟩, ?_, Nat.zero_le _, rfl, k1.draws _⟩ ?_
  · intro F' a' w' hle q1 q2 q3
    exact ⟨F', hle, rfl, q3, h2 _ _ q1, q2, k4⟩
  · intro i o _ hi; rw [hf] at hi; cases hi
  · intro i r _ hi; rw [hf] at hi; cases hi
  · intro t e _; rw [hf]; simp
  · unfold unl
    exact Nat.le_trans (List.length_filter_le _ _) (by simp)
end
end
end Go.Abs
