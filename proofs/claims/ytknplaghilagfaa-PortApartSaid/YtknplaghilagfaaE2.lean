/- The ports as lists, and that the functions go as these. -/
import Derived.Test.YtknplaghilagfaaE1
import Derived.Test.YtknplaghilagfaaD6
namespace Go.Proofs.Ytknplaghilagfaa.Po
open Go Go.Abs
set_option linter.unusedVariables false
noncomputable section
structure Pt where
  up : Bool
  l : List ByteArray
abbrev Ps := Nat → Pt
def QR (q : Pt) (c : Nat → Option Value) : Prop := ∃ f : Nat, f < 32 ∧ q.l.length ≤ 32 ∧ (q.up = false → q.l = []) ∧ c 0 = some (.bool q.up) ∧ c 33 = some (.int .i64 f) ∧ c 34 = some (.int .i64 q.l.length) ∧
  (∀ i, i < 32 → ∃ s, c (1 + i) = some (.string s)) ∧ ∀ (i : Nat) (s : ByteArray), q.l[i]? = some s → c (1 + (f + i) % 32) = some (.string s)
def PR (ps : Ps) (vs : List Value) : Prop := vs.length = 560 ∧ ∀ p, p < 16 → QR (ps p) (fun i => vs[p * 35 + i]?)
def upd (ps : Ps) (p : Nat) (q : Pt) : Ps := fun i => if i = p then q else ps i
theorem QR.congr {q : Pt} {c c' : Nat → Option Value} (h : QR q c) (e : ∀ i, i < 35 → c' i = c i) : QR q c' := by
  obtain ⟨f, h1, h2, h3, h4, h5, h6, h7, h8⟩ := h
  refine ⟨f, h1, h2, h3, by rw [e _ (by omega)]; exact h4, by rw [e _ (by omega)]; exact h5, by rw [e _ (by omega)]; exact h6, fun i hi => ?_, fun i s hs => ?_⟩
  · rw [e _ (by omega)]; exact h7 i hi
  · rw [e _ (by omega)]; exact h8 i s hs
theorem PR.upd {ps : Ps} {vs vs' : List Value} (h : PR ps vs) {p : Nat} (hp : p < 16) {q : Pt} (hl : vs'.length = vs.length) (ho : ∀ i, i < p * 35 ∨ p * 35 + 35 ≤ i → vs'[i]? = vs[i]?)
    (hq : QR q (fun i => vs'[p * 35 + i]?)) : PR (upd ps p q) vs' := by
  refine ⟨by rw [hl]; exact h.1, fun p' hp' => ?_⟩
  unfold Po.upd
  by_cases e : p' = p
  · subst e; rw [if_pos rfl]; exact hq
  · rw [if_neg e]
    exact (h.2 p' hp').congr fun i hi => ho _ (by omega)
def atPort {α : Type} (ps : Ps) (n : Int) (d : α) (f : Pt → α × Pt) : α × Ps := if 1 ≤ n ∧ n ≤ 16 then ((f (ps (n - 1).toNat)).1, upd ps (n - 1).toNat (f (ps (n - 1).toNat)).2) else (d, ps)
theorem atPort_in {α : Type} {ps : Ps} {p : Nat} (hp : p < 16) (d : α) (f : Pt → α × Pt) : atPort ps ((p : Int) + 1) d f = ((f (ps p)).1, upd ps p (f (ps p)).2) := by
  unfold atPort
  rw [if_pos (by omega)]
  have : ((p : Int) + 1 - 1).toNat = p := by omega
  rw [this]
theorem atPort_out {α : Type} {ps : Ps} {n : Int} (h : ¬ (1 ≤ n ∧ n ≤ 16)) (d : α) (f : Pt → α × Pt) : atPort ps n d f = (d, ps) := if_neg h
def sendF (s : ByteArray) (q : Pt) : Int × Pt := if q.up = false then (8, q) else if 9216 < s.data.toList.length then (10, q) else if q.l.length = 32 then (9, q) else (0, ⟨q.up, q.l ++ [s]⟩)
def takeF (q : Pt) : (ByteArray × Bool) × Pt := match q.l with
  | [] => ((bytesOf [], false), q)
  | s :: l => ((s, true), ⟨q.up, l⟩)
def upF (q : Pt) : Int × Pt := if q.up = true then (13, q) else (0, ⟨true, q.l⟩)
def downF (q : Pt) : (Int × Int) × Pt := if q.up = true then ((q.l.length, 0), ⟨false, []⟩) else ((0, 13), q)
def sendP (ps : Ps) (n : Int) (s : ByteArray) := atPort ps n 8 (sendF s)
def takeP (ps : Ps) (n : Int) := atPort ps n (bytesOf [], false) takeF
def upP (ps : Ps) (n : Int) := atPort ps n 1 upF
def downP (ps : Ps) (n : Int) := atPort ps n (0, 1) downF
def isUpP (ps : Ps) (n : Int) : Bool := (atPort ps n false fun q => (q.up, q)).1
def listP (ps : Ps) (n : Int) : List ByteArray := (atPort ps n [] fun q => (q.l, q)).1
theorem upd_self (ps : Ps) (p : Nat) : upd ps p (ps p) = ps := by
  funext i; unfold upd; split
  · rename_i h; rw [h]
  · rfl
theorem port_of {n : Int} (h1 : ¬ n < 1) (h2 : ¬ 16 < n) : ∃ p : Nat, p < 16 ∧ n = (p : Int) + 1 := ⟨(n - 1).toNat, by omega, by omega⟩

theorem isUp_ok {ps : Ps} {vs : List Value} {n : Int} {K : RK} (h : PR ps vs) (hk : K (.bool (isUpP ps n)) [some (pob vs)]) : Is (gIsUp (real Try.prog) vs n K) := by
  refine ⟨?_⟩
  rw [gIsUp_eq]
  refine n_lss (fun h1 => ?_) (fun h1 => n_gtr (fun h2 => ?_) (fun h2 => ?_))
  · unfold isUpP at hk; rw [atPort_out (by omega)] at hk; exact hk
  · unfold isUpP at hk; rw [atPort_out (by omega)] at hk; exact hk
  · obtain ⟨p, hp, rfl⟩ := port_of h1 h2
    unfold isUpP at hk; rw [atPort_in hp] at hk
    obtain ⟨f, g1, g2, g3, c0, c33, c34, cs, cl⟩ := h.2 p hp
    refine n_sub (by omega) (by omega) (n_idx p (by omega) hp ?_)
    rw [Nat.zero_add]
    refine n_rdB c0 (fun e => ?_) (fun e => ?_)
    · simp only [e] at hk; exact hk
    · simp only [e] at hk; exact hk
theorem waits_ok {ps : Ps} {vs : List Value} {n : Int} {K : RK} (h : PR ps vs) (hk : K (.int .i64 (listP ps n).length) [some (pob vs)]) : Is (gWaits (real Try.prog) vs n K) := by
  refine ⟨?_⟩
  rw [gWaits_eq]
  refine n_lss (fun h1 => ?_) (fun h1 => n_gtr (fun h2 => ?_) (fun h2 => ?_))
  · unfold listP at hk; rw [atPort_out (by omega)] at hk; exact hk
  · unfold listP at hk; rw [atPort_out (by omega)] at hk; exact hk
  · obtain ⟨p, hp, rfl⟩ := port_of h1 h2
    unfold listP at hk; rw [atPort_in hp] at hk
    obtain ⟨f, g1, g2, g3, c0, c33, c34, cs, cl⟩ := h.2 p hp
    refine n_sub (by omega) (by omega) (n_idx p (by omega) hp ?_)
    rw [Nat.zero_add]
    exact n_rdI c34 hk
theorem up_ok {ps : Ps} {vs : List Value} {n : Int} {K : RK} (h : PR ps vs) (hk : ∀ vs', PR (upP ps n).2 vs' → K (.int .i64 (upP ps n).1) [some (pob vs')]) : Is (gUp (real Try.prog) vs n K) := by
  refine ⟨?_⟩
  rw [gUp_eq]
  refine n_lss (fun h1 => ?_) (fun h1 => n_gtr (fun h2 => ?_) (fun h2 => ?_))
  · unfold upP at hk; rw [atPort_out (by omega)] at hk; exact n_eql (fun h => by omega) (fun _ => hk vs h)
  · unfold upP at hk; rw [atPort_out (by omega)] at hk; exact n_eql (fun h => by omega) (fun _ => hk vs h)
  · obtain ⟨p, hp, rfl⟩ := port_of h1 h2
    unfold upP at hk; rw [atPort_in hp] at hk
    obtain ⟨f, g1, g2, g3, c0, c33, c34, cs, cl⟩ := h.2 p hp
    refine n_sub (by omega) (by omega) (n_idx p (by omega) hp ?_)
    rw [Nat.zero_add]
    refine n_rdB c0 (fun e => ?_) (fun e => ?_)
    · simp only [upF, e, if_true, upd_self] at hk
      exact n_eql (fun h => by omega) (fun _ => hk vs h)
    · simp only [upF, e, Bool.false_eq_true, if_false] at hk
      refine n_eql (fun _ => n_wr1 rfl (by rw [h.1]; omega) (hk _ ?_)) (fun h => absurd rfl h)
      refine h.upd hp (by simp) (fun i hi => by rw [List.getElem?_set_ne (by omega)]) ?_
      refine ⟨f, g1, g2, (fun h => by cases h), ?_, ?_, ?_, fun i hi => ?_, fun i s hs => ?_⟩ <;> simp only
      · rw [Nat.add_zero, List.getElem?_set_self (by rw [h.1]; omega)]
      · rw [List.getElem?_set_ne (by omega)]; exact c33
      · rw [List.getElem?_set_ne (by omega)]; exact c34
      · rw [List.getElem?_set_ne (by omega)]; exact cs i hi
      · rw [List.getElem?_set_ne (by omega)]; exact cl i s hs
theorem down_ok {ps : Ps} {vs : List Value} {n : Int} {K : RK} (h : PR ps vs) (hk : ∀ vs', PR (downP ps n).2 vs' → K (.tuple #[.int .i64 (downP ps n).1.1, .int .i64 (downP ps n).1.2]) [some (pob vs')]) : Is (gDown (real Try.prog) vs n K) := by
  refine ⟨?_⟩
  rw [gDown_eq]
  refine n_lss (fun h1 => ?_) (fun h1 => n_gtr (fun h2 => ?_) (fun h2 => ?_))
  · unfold downP at hk; rw [atPort_out (by omega)] at hk; exact n_neq (fun _ => hk vs h) (fun h => by omega)
  · unfold downP at hk; rw [atPort_out (by omega)] at hk; exact n_neq (fun _ => hk vs h) (fun h => by omega)
  · obtain ⟨p, hp, rfl⟩ := port_of h1 h2
    unfold downP at hk; rw [atPort_in hp] at hk
    obtain ⟨f, g1, g2, g3, c0, c33, c34, cs, cl⟩ := h.2 p hp
    refine n_sub (by omega) (by omega) (n_idx p (by omega) hp ?_)
    rw [Nat.zero_add]
    refine n_rdB c0 (fun e => ?_) (fun e => ?_)
    · simp only [downF, e, if_true] at hk
      refine n_neq (fun h => absurd rfl h) (fun _ => n_rdI c34 (n_wr rfl rfl (by rw [h.1]; omega) (hk _ ?_)))
      have hg : ∀ j, (splice vs (p * 35) (Value.bool false :: (List.replicate 32 (Value.string (bytesOf [])) ++ [.int .i64 0, .int .i64 0])))[j]? = if p * 35 ≤ j ∧ j < p * 35 + 35 then (Value.bool false :: (List.replicate 32 (Value.string (bytesOf [])) ++ [.int .i64 0, .int .i64 0]))[j - p * 35]? else vs[j]? := by
        intro j; rw [splice_get (by simp; rw [h.1]; omega)]; rfl
      refine h.upd hp splice_len (fun i hi => (hg i).trans (if_neg (by omega))) ?_
      have hg2 : ∀ i, i < 35 → (splice vs (p * 35) (Value.bool false :: (List.replicate 32 (Value.string (bytesOf [])) ++ [.int .i64 0, .int .i64 0])))[p * 35 + i]? = (Value.bool false :: (List.replicate 32 (Value.string (bytesOf [])) ++ [.int .i64 0, .int .i64 0]))[i]? := by
        intro i hi; rw [hg, if_pos (by omega)]; congr 1; omega
      refine ⟨0, by omega, by simp, fun _ => rfl, hg2 0 (by omega), hg2 33 (by omega), hg2 34 (by omega), fun i hi => ⟨bytesOf [], ?_⟩, fun i s hs => by simp at hs⟩
      refine (hg2 (1 + i) (by omega)).trans ?_
      rw [Nat.add_comm 1 i, List.getElem?_cons_succ, List.getElem?_append_left (by simpa using hi), List.getElem?_replicate, if_pos hi]
    · simp only [downF, e, Bool.false_eq_true, if_false, upd_self] at hk
      exact n_neq (fun _ => hk vs h) (fun h => by omega)
theorem send_ok {ps : Ps} {vs : List Value} {n : Int} {s : ByteArray} {K : RK} (h : PR ps vs) (hk : ∀ vs', PR (sendP ps n s).2 vs' → K (.int .i64 (sendP ps n s).1) [some (pob vs')]) : Is (gSend (real Try.prog) vs n s K) := by
  refine ⟨?_⟩
  rw [gSend_eq]
  refine n_lss (fun h1 => ?_) (fun h1 => n_gtr (fun h2 => ?_) (fun h2 => ?_))
  · unfold sendP at hk; rw [atPort_out (by omega)] at hk; exact hk vs h
  · unfold sendP at hk; rw [atPort_out (by omega)] at hk; exact hk vs h
  · obtain ⟨p, hp, rfl⟩ := port_of h1 h2
    unfold sendP at hk; rw [atPort_in hp] at hk
    obtain ⟨f, g1, g2, g3, c0, c33, c34, cs, cl⟩ := h.2 p hp
    refine n_sub (by omega) (by omega) (n_idx p (by omega) hp ?_)
    rw [Nat.zero_add]
    refine n_rdB c0 (fun e => ?_) (fun e => ?_)
    · refine n_slen (n_gtr (fun h3 => ?_) (fun h3 => ?_))
      · have h3' : 9216 < s.data.toList.length := by omega
        simp only [sendF, e, Bool.true_eq_false, if_false, if_pos h3', upd_self] at hk
        exact hk vs h
      · have h3' : ¬ 9216 < s.data.toList.length := by omega
        refine n_rdI c34 (n_eql (fun h4 => ?_) (fun h4 => ?_))
        · have h4' : (ps p).l.length = 32 := by omega
          simp only [sendF, e, Bool.true_eq_false, if_false, if_neg h3', if_pos h4', upd_self] at hk
          exact hk vs h
        · have h4' : ¬ (ps p).l.length = 32 := by omega
          simp only [sendF, e, Bool.true_eq_false, if_false, if_neg h3', if_neg h4'] at hk
          refine n_rdI c34 (n_rdI c33 (n_add (by omega) (by omega) (n_rem (by omega) (by omega) (n_idx ((f + (ps p).l.length) % 32) (by omega) (by omega) ?_))))
          refine n_wr1 rfl (by rw [h.1]; omega) (n_rdI (z := (ps p).l.length) (by rw [List.getElem?_set_ne (by omega)]; exact c34) (n_add (by omega) (by omega) (n_wr1 rfl (by simp; rw [h.1]; omega) (hk _ ?_))))
          refine h.upd hp (by simp) (fun i hi => by rw [List.getElem?_set_ne (by omega), List.getElem?_set_ne (by omega)]) ?_
          refine ⟨f, g1, by simp; omega, (fun h => by cases h), ?_, ?_, ?_, fun i hi => ?_, fun i s' hs => ?_⟩ <;> simp only
          · rw [List.getElem?_set_ne (by omega), List.getElem?_set_ne (by omega)]; rw [e] at c0; exact c0
          · rw [List.getElem?_set_ne (by omega), List.getElem?_set_ne (by omega)]; exact c33
          · rw [List.getElem?_set_self (by simp; rw [h.1]; omega)]; simp
          · rw [List.getElem?_set_ne (by omega)]
            by_cases hi2 : i = (f + (ps p).l.length) % 32
            · refine ⟨s, ?_⟩
              rw [show p * 35 + (1 + i) = p * 35 + 1 + (f + (ps p).l.length) % 32 * 1 by omega, List.getElem?_set_self (by rw [h.1]; omega)]
            · rw [List.getElem?_set_ne (by omega)]; exact cs i hi
          · rw [List.getElem?_set_ne (by omega)]
            rw [List.getElem?_append] at hs
            split at hs
            · rename_i hi2
              rw [List.getElem?_set_ne (by omega)]; exact cl i s' hs
            · rename_i hi2
              have hi3 : i = (ps p).l.length := by
                rcases Nat.lt_or_ge (i - (ps p).l.length) 1 with c | c
                · omega
                · rw [List.getElem?_eq_none (by simpa using c)] at hs; cases hs
              subst hi3
              simp only [Nat.sub_self, List.getElem?_cons_zero, Option.some.injEq] at hs
              subst hs
              rw [show p * 35 + (1 + (f + (ps p).l.length) % 32) = p * 35 + 1 + (f + (ps p).l.length) % 32 * 1 by omega, List.getElem?_set_self (by rw [h.1]; omega)]
    · simp only [sendF, e, if_true, upd_self] at hk
      exact hk vs h
theorem take_ok {ps : Ps} {vs : List Value} {n : Int} {K : RK} (h : PR ps vs) (hk : ∀ vs', PR (takeP ps n).2 vs' → K (.tuple #[.string (takeP ps n).1.1, .bool (takeP ps n).1.2]) [some (pob vs')]) : Is (gTake (real Try.prog) vs n K) := by
  refine ⟨?_⟩
  rw [gTake_eq]
  refine n_lss (fun h1 => ?_) (fun h1 => n_gtr (fun h2 => ?_) (fun h2 => ?_))
  · unfold takeP at hk; rw [atPort_out (by omega)] at hk; exact hk vs h
  · unfold takeP at hk; rw [atPort_out (by omega)] at hk; exact hk vs h
  · obtain ⟨p, hp, rfl⟩ := port_of h1 h2
    unfold takeP at hk; rw [atPort_in hp] at hk
    obtain ⟨f, g1, g2, g3, c0, c33, c34, cs, cl⟩ := h.2 p hp
    refine n_sub (by omega) (by omega) (n_idx p (by omega) hp ?_)
    rw [Nat.zero_add]
    refine n_rdI c34 (n_eql (fun h4 => ?_) (fun h4 => ?_))
    · have e : (ps p).l = [] := List.length_eq_zero_iff.1 (by omega)
      simp only [takeF, e, upd_self] at hk
      exact hk vs h
    · obtain ⟨s, l, e⟩ : ∃ s l, (ps p).l = s :: l := by
        cases e : (ps p).l with
        | nil => rw [e] at h4; simp at h4
        | cons s l => exact ⟨s, l, rfl⟩
      simp only [takeF, e] at hk
      have hs0 := cl 0 s (by rw [e]; rfl)
      rw [Nat.add_zero, Nat.mod_eq_of_lt g1] at hs0
      have hlen : (ps p).l.length = l.length + 1 := by rw [e]; rfl
      refine n_rdI c33 (n_add (by omega) (by omega) (n_rem (by omega) (by omega) (n_idx f (by omega) (by omega) ?_)))
      refine n_rdS (z := s) (by rw [← hs0]; congr 1; omega) ?_
      refine n_rdI c33 (n_add (by omega) (by omega) (n_rem (by omega) (by omega) (n_idx f (by omega) (by omega) ?_)))
      refine n_wr1 rfl (by rw [h.1]; omega) (n_rdI (z := f) (by rw [List.getElem?_set_ne (by omega)]; exact c33) (n_add (by omega) (by omega) (n_rem (by omega) (by omega) ?_)))
      refine n_wr1 rfl (by simp; rw [h.1]; omega) (n_rdI (z := (ps p).l.length) (by rw [List.getElem?_set_ne (by omega), List.getElem?_set_ne (by omega)]; exact c34) (n_sub (by omega) (by omega) ?_))
      refine n_wr1 rfl (by simp; rw [h.1]; omega) (hk _ ?_)
      refine h.upd hp (by simp) (fun i hi => by rw [List.getElem?_set_ne (by omega), List.getElem?_set_ne (by omega), List.getElem?_set_ne (by omega)]) ?_
      refine ⟨(f + 1) % 32, by omega, by simp; omega, fun h => ?_, ?_, ?_, ?_, fun i hi => ?_, fun i s' hs => ?_⟩ <;> simp only
      · have := g3 h; rw [e] at this; cases this
      · rw [List.getElem?_set_ne (by omega), List.getElem?_set_ne (by omega), List.getElem?_set_ne (by omega)]; exact c0
      · rw [List.getElem?_set_ne (by omega), List.getElem?_set_self (by simp; rw [h.1]; omega)]; congr 2
      · rw [List.getElem?_set_self (by simp; rw [h.1]; omega), hlen]; congr 2; omega
      · rw [List.getElem?_set_ne (by omega), List.getElem?_set_ne (by omega)]
        by_cases hi2 : i = f
        · refine ⟨bytesOf [], ?_⟩
          rw [show p * 35 + (1 + i) = p * 35 + 1 + f * 1 by omega, List.getElem?_set_self (by rw [h.1]; omega)]
        · rw [List.getElem?_set_ne (by omega)]; exact cs i hi
      · have hi : i < l.length := by
          rcases Nat.lt_or_ge i l.length with c | c
          · exact c
          · rw [List.getElem?_eq_none c] at hs; cases hs
        rw [List.getElem?_set_ne (by omega), List.getElem?_set_ne (by omega), List.getElem?_set_ne (by omega)]
        have := cl (i + 1) s' (by rw [e]; simpa using hs)
        rw [← this]; congr 1; omega
end
end Go.Proofs.Ytknplaghilagfaa.Po
