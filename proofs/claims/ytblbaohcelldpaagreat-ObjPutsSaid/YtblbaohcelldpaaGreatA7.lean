/- Appending. -/
import Derived.Test.YtblbaohcelldpaaGreatA6
namespace Go.Abs
open Go
set_option linter.unusedVariables false
noncomputable section
section
variable {P : Program} {G : Nat} {F : Nm} {H : Heap} {w0 : Base} {w : World}
theorem append_fit {sType xType elem : TypeId} {t : TypeId} {dx : TypeDesc} {i : TypeInfo} {x' : Value} {n sLen sCap : Nat} {base : Option Addr} (hs : P.underlying sType = some (.slice elem))
    (hx : P.underlying xType = some dx) (hdx : notInt dx = true) (hi : P.info? elem = some i) (hl : (Builtin.lenOf x').run P w = .ok n w) (hle : sLen + n ≤ sCap) :
    (Builtin.append_ #[sType, xType] t #[.slice base sLen sCap, x']).run P w = ((Builtin.firstCells i.size n x').run P w).andThen fun new w' =>
      ((match base with | some a => storeCells (a.add (sLen * i.size)) new.toList | none => pure ()).run P w').andThen fun _ w'' => .ok (.slice base (sLen + n) sCap) w'' := by
  have hz : aSize P elem = some i.size := by simp [aSize, hi]
  unfold Builtin.append_
  cases dx <;> simp only [notInt, Bool.false_eq_true] at hdx <;>
    (simp [run_underlying hs, run_underlying hx, run_sizeOf' hz, hl, hle]
     cases base <;> simp)
theorem append_grow {sType xType elem : TypeId} {t : TypeId} {dx : TypeDesc} {i : TypeInfo} {z x' : Value} {n sLen sCap : Nat} {base : Option Addr} (hs : P.underlying sType = some (.slice elem))
    (hx : P.underlying xType = some dx) (hdx : notInt dx = true) (hi : P.info? elem = some i) (hz : i.zero = some z) (hl : (Builtin.lenOf x').run P w = .ok n w) (hle : ¬ sLen + n ≤ sCap)
    (hb : (2 * (sLen + n) + 192) * i.bytes ≤ tops) (hn : sLen + n ≤ 1099511627776) :
    ∃ newCap w1, sLen + n ≤ newCap ∧ (∃ k, w1 = { w with drawn := k }) ∧ (Builtin.append_ #[sType, xType] t #[.slice base sLen sCap, x']).run P w =
      ((Builtin.firstCells i.size sLen (.slice base sLen sCap)).run P w1).andThen fun old w2 => ((Builtin.firstCells i.size n x').run P w2).andThen fun new w3 =>
        ((newRow elem (old ++ new ++ Builtin.zeroCells z.cells (newCap - (sLen + n)))).run P w3).andThen fun a w4 => .ok (.slice (some a) (sLen + n) newCap) w4 := by
  have hsz : aSize P elem = some i.size := by simp [aSize, hi]
  have hz' : aZero P elem = some z := by simp [aZero, hi, hz]
  have hcap : ¬ (Builtin.nextslicecap (sLen + n) sCap * i.bytes > 2 ^ 48) := by
    have := nextcap_le (newLen := sLen + n) (oldCap := sCap) (by omega)
    have h2 := Nat.mul_le_mul_right i.bytes this
    unfold tops at hb
    have : (140737488355328 : Nat) ≤ 2 ^ 48 := by decide
    omega
  refine ⟨(Question.appendCap (sLen + n) sCap elem).cut (w.tape w.drawn (.appendCap (sLen + n) sCap elem)), { w with drawn := w.drawn + 1 }, by simp only [Question.cut]; omega, ⟨_, rfl⟩, ?_⟩
  unfold Builtin.append_
  cases dx <;> simp only [notInt, Bool.false_eq_true] at hdx <;>
    (simp [run_underlying hs, run_underlying hx, run_sizeOf' hsz, hl, hle, run_typeInfo hi, hcap, Question.forced, run_zeroValue hz']
     intro hc; omega)
theorem aGrown_ok (R : Rel G F H w0 w) {elem : TypeId} {sz : Nat} {l l' : List Value} {z : Array Value} {need newCap : Nat} (hl : VRL F l l') (hz : z.size = sz) (hn : need ≤ newCap) :
    OpOK P G F w0 w (do pure (.slice (some (← newRow elem (l'.toArray ++ Builtin.zeroCells z (newCap - need)))) need newCap)) (aGrown H elem sz l need).1 (aGrown H elem sz l need).2 := by
  have hll := hl.length
  obtain ⟨hle, R'⟩ := R.push (vs := l) (c := l'.toArray ++ Builtin.zeroCells z (newCap - need)) (elem := elem) (sz := sz) (d := newCap - need) (lo := true) (0, 0)
    (by simp only [Array.toList_append, ← hll]; rw [List.take_append_of_le_length (Nat.le_refl _), List.take_length]; exact hl)
    (by simp [zeroCells_size, hz, hll]) (fun h => by cases h) (by intro i _; simp)
  refine ⟨_, .slice (some ⟨w.heap.size, 0, none⟩) need newCap, _, hle, by simp [newRow], ?_, R'⟩
  simp only [aGrown, VR]; exact ⟨⟨w.heap.size, 0, none⟩, newCap - need, 0, Nm.with_self _ _ _, rfl, rfl, by congr 1; omega⟩
theorem Rel.drop (R : Rel G F H w0 w) (n : Nat) : Rel G F (H.put n none) w0 w := by
  constructor
  · intro m o hm; rw [Heap.get_put] at hm; split at hm
    · cases hm
    · exact R.obj m o hm
  · intro n' m o o' hn hm; rw [Heap.get_put] at hn hm; split at hn
    · cases hn
    · split at hm
      · cases hm
      · exact R.inj n' m o o' hn hm
  · exact R.fresh
  · exact R.glob
  · exact R.base
  · exact R.frame
  · intro b i v hz
    refine ⟨(R.froz b i v hz).1, fun m o hm ho => ?_⟩
    rw [Heap.get_put] at hm; split at hm
    · cases hm
    · exact (R.froz b i v hz).2 m o hm ho
  · exact R.zprot
  · exact R.os
  · exact R.out
  · exact R.tape
theorem Rel.inPlace (R : Rel G F H w0 w) {n : Nat} {vs : List Value} {elem : TypeId} {sz : Nat} (hg : H.get n = some (.cells vs elem sz true true)) {b d o : Nat} (hF : F n = some (b, d, o))
    {off : Nat} {old xs xs' : List Value} {need cap : Nat} (hold : old = (vs.drop off).take old.length) (hoff : off + cap * sz = vs.length) (hcap : cap < need) (hd : need ≤ cap + d)
    (hlen : old.length + xs.length = need * sz) (hle : old.length ≤ cap * sz) (hx : VRL F xs xs') (hc : xs.all isCell = true) :
    ∃ w', (storeCells ⟨b, off + o + old.length, none⟩ xs').run P w = .ok () w' ∧ Nm.le F (F.with H.next (b, cap + d - need, off + o)) ∧
      Rel G (F.with H.next (b, cap + d - need, off + o)) ((H.put n none).push (.cells (old ++ xs) elem sz true true)) w0 w' := by
  obtain ⟨b', d', o', c, fz, hF', ⟨t, hw, ht⟩, hl, hsz, _, hown⟩ := R.obj _ _ hg
  have ht := ht rfl
  rw [ht] at hw
  rw [hF] at hF'; simp only [Option.some.injEq, Prod.mk.injEq] at hF'
  obtain ⟨e1, e2, e3⟩ := hF'; subst e1; subst e2; subst e3
  obtain ⟨hb0, hfz⟩ := hown rfl
  have hxl := hx.length
  have hmul : need * sz = cap * sz + (need - cap) * sz := by rw [← Nat.add_mul]; congr 1; omega
  have hmul2 : d * sz = (need - cap) * sz + (cap + d - need) * sz := by rw [← Nat.add_mul]; congr 1; omega
  have hfit : off + o + old.length + 0 + xs'.length ≤ c.size := by omega
  have hxc : ∀ v ∈ xs', v.oneCell' = true := by
    intro v hv
    obtain ⟨i, hi⟩ := List.getElem?_of_mem hv
    have hi2 : i < xs.length := by
      rw [← hxl]; exact (List.getElem?_eq_some_iff.1 hi).1
    obtain ⟨v', h1, h2⟩ := hx.get (List.getElem?_eq_getElem hi2)
    rw [hi] at h1; simp only [Option.some.injEq] at h1; subst h1
    exact h2.isCell (List.all_eq_true.1 hc _ (List.getElem_mem hi2))
  obtain ⟨w', hr, h1, h2, h3, h4, h5, h6⟩ := storeCells_raw (P := P) xs' 0 (off + o + old.length) c w hw hfz hfit hxc
  refine ⟨w', hr, ?_⟩
  have hfre : F H.next = none := R.fresh _ (Nat.le_refl _)
  have hle' : Nm.le F (F.with H.next (b, cap + d - need, off + o)) := Nm.le_with hfre _
  refine ⟨hle', ?_⟩
  have hnn : n ≠ H.next := fun e => by rw [e, hfre] at hF; cases hF
  -- the cells behind the write
  obtain ⟨L, hL⟩ : ∃ L, L = setAll c.toList (off + o + old.length) xs' := ⟨_, rfl⟩
  have hLlen : L.length = c.size := by rw [hL, setAll_length]; simp
  have hLeq : (L.drop (off + o)).take (old ++ xs).length = (c.toList.drop (off + o)).take old.length ++ xs' := by
    have e : c.toList = (c.toList.take (off + o + old.length)) ++ ((c.toList.drop (off + o + old.length)).take xs'.length) ++ (c.toList.drop (off + o + old.length + xs'.length)) := by
      have e1 := (List.take_append_drop (off + o + old.length) c.toList).symm
      have e2 := (List.take_append_drop xs'.length (c.toList.drop (off + o + old.length))).symm
      rw [List.drop_drop] at e2
      rw [List.append_assoc, ← e2]; exact e1
    have hplen : (c.toList.take (off + o + old.length)).length = off + o + old.length := by simp; omega
    have e2 : L = (c.toList.take (off + o + old.length)) ++ xs' ++ (c.toList.drop (off + o + old.length + xs'.length)) := by
      rw [hL]
      conv => lhs; rw [e]
      have := setAll_append (c.toList.take (off + o + old.length)) ((c.toList.drop (off + o + old.length)).take xs'.length) (c.toList.drop (off + o + old.length + xs'.length)) xs' (by simp; omega)
      rw [hplen] at this; exact this
    rw [e2, List.append_assoc, List.drop_append_of_le_length (by omega), List.drop_take]
    rw [← List.append_assoc]
    rw [show off + o + old.length - (off + o) = old.length from by omega]
    rw [List.take_append_of_le_length (by simp; omega)]
    rw [List.take_of_length_le (by simp; omega)]
  have hvr : VRL F (old ++ xs) ((L.drop (off + o)).take (old ++ xs).length) := by
    rw [hLeq]
    refine VRL.append ?_ hx
    rw [hold]
    have := (hl.drop off).take old.length
    rw [List.drop_take, List.drop_drop, List.take_take, Nat.add_comm o off] at this
    rw [Nat.min_eq_left (by omega)] at this
    have e : (List.take old.length (List.drop off vs)).length = old.length := by rw [← hold]
    rw [e]; exact this
  have hblk : ∀ m ob, (H.put n none).get m = some ob → H.get m = some ob ∧ m ≠ n ∧ m ≠ H.next ∧ blk F m ≠ some b := by
    intro m ob hm
    rw [Heap.get_put] at hm; split at hm
    · cases hm
    · rename_i hne
      refine ⟨hm, hne, fun e => ?_, ?_⟩
      · rw [e, R.nolive (Nat.le_refl _)] at hm; cases hm
      · have := R.inj n m _ ob hg hm (Ne.symm hne) rfl
        intro hc'; apply this; rw [hc']; simp [blk, hF]
  constructor
  · intro m ob hm
    rw [Heap.get_push] at hm
    split at hm
    · rename_i hm'
      simp only [Option.some.injEq] at hm; subst hm
      have hm2 : m = H.next := hm'
      subst hm2
      refine ⟨b, cap + d - need, off + o, L.toArray, fz, Nm.with_self _ _ _, ⟨_, by rw [h1, hL]; simp, fun _ => rfl⟩, ?_, ?_, (fun h => by cases h), fun _ => ⟨hb0, ?_⟩⟩
      · simpa using VRL.mono hle' _ _ hvr
      · simp only [List.size_toArray, hLlen, List.length_append]; omega
      · simpa [hLlen] using hfz
    · obtain ⟨g1, g2, g3, g4⟩ := hblk m ob hm
      have hob := R.obj m ob g1
      exact objR_mono hle' (objR_other hob fun b' hb' => h2 b' (fun e => g4 (by rw [hb', e])))
  · intro n' m ob ob' hn' hm hne how
    rw [Heap.get_push] at hn' hm
    have hnext : (H.put n none).next = H.next := rfl
    rw [hnext] at hn' hm
    have hb1 : ∀ k ok, (H.put n none).get k = some ok → blk (F.with H.next (b, cap + d - need, off + o)) k = blk F k := by
      intro k ok hk
      obtain ⟨_, _, g3, _⟩ := hblk k ok hk
      simp [blk, Nm.with, g3]
    split at hn' <;> split at hm
    · omega
    · rename_i h5 h6; subst h5
      obtain ⟨_, _, _, g4⟩ := hblk m ob' hm
      rw [hb1 m ob' hm]; simp only [blk, Nm.with_self, Option.map_some]; exact fun e => g4 e.symm
    · rename_i h5 h6; subst h6
      obtain ⟨_, _, _, g4⟩ := hblk n' ob hn'
      rw [hb1 n' ob hn']; simp only [blk, Nm.with_self, Option.map_some]; exact fun e => g4 e
    · obtain ⟨g1, _, _, _⟩ := hblk n' ob hn'
      obtain ⟨g1', _, _, _⟩ := hblk m ob' hm
      rw [hb1 n' ob hn', hb1 m ob' hm]; exact R.inj n' m ob ob' g1 g1' hne how
  · intro m hm
    have hm : H.next + 1 ≤ m := hm
    simp only [Nm.with]; rw [if_neg (by omega)]; exact R.fresh m (by omega)
  · intro g hg'; exact hle'.nm _ _ (R.glob g hg')
  · rw [h3]; exact R.base
  · intro i hi; rw [h2 i (fun e => hb0 (by rw [← e]; exact hi))]; exact R.frame i hi
  · intro b' i v2 hz
    obtain ⟨⟨c2, t2, fz2, g1, g2⟩, g3⟩ := R.froz b' i v2 hz
    have hbb : b' ≠ b := fun e => g3 n _ hg rfl (by simp [blk, hF, e])
    refine ⟨⟨c2, t2, fz2, by rw [h2 b' hbb]; exact g1, g2⟩, fun m ob hm how => ?_⟩
    rw [Heap.get_push] at hm
    split at hm
    · rename_i h5
      have h5 : m = H.next := h5
      subst h5; simp only [blk, Nm.with_self, Option.map_some]; exact fun e => hbb (by simpa using e.symm)
    · obtain ⟨q1, q2, q3, _⟩ := hblk m ob hm
      have : blk (F.with H.next (b, cap + d - need, off + o)) m = blk F m := by simp [blk, Nm.with, q3]
      rw [this]; exact g3 m ob q1 how
  · exact R.zprot
  · rw [h4]; exact R.os
  · rw [h5]; exact R.out
  · rw [h6]; exact R.tape
theorem VRL.two {F : Nm} {a b : Value} {l : List Value} (h : VRL F [a, b] l) : ∃ a' b', l = [a', b'] ∧ VR F a a' ∧ VR F b b' := by
  simp only [VRL] at h
  obtain ⟨a', r, h1, ⟨b', r', h2, h3, e⟩, e2⟩ := h
  subst h3; subst e; exact ⟨a', b', e2, h1, h2⟩
theorem aAppend_ok (R : Rel G F H w0 w) {argTypes : Array TypeId} {t : TypeId} {args : List Value} {args' : Array Value} (ha : VRL F args args'.toList) {r : Value × Heap}
    (h : aAppend P H argTypes args = some r) : OpOK P G F w0 w (Builtin.append_ argTypes t args') r.1 r.2 := by
  unfold aAppend at h; simp only [splice_eq] at h
  split at h
  case h_2 => cases h
  rename_i sType xType s x hat
  obtain ⟨s', x', e, hs, hx⟩ := ha.two
  have e1 : args' = #[s', x'] := by apply Array.ext'; simpa using e
  have e2 : argTypes = #[sType, xType] := by apply Array.ext'; simpa using hat
  subst e1; subst e2
  split at h
  case h_2 => cases h
  rename_i elem dx hus hux
  split at h
  case h_2 => cases h
  rename_i i hdx hi
  split at h
  case h_2 => cases h
  rename_i n xs z hcx hz
  obtain ⟨hlen, xs', hrx, hvx⟩ := aCellsOf_ok (P := P) R hx hcx
  split at h
  · cases h
  rename_i hc
  simp only [Bool.and_eq_true] at hc
  obtain ⟨⟨⟨hc1, hc2⟩, hc3⟩, hc4⟩ := hc
  have hc1 := Nat.eq_of_beq_eq_true hc1
  have hc3 := Nat.eq_of_beq_eq_true hc3
  simp only [Array.length_toList] at hc1
  split at h
  · -- no row
    rename_i len cap
    simp only [VR] at hs; subst hs
    split at h
    · simp only [Option.some.injEq] at h; subst h
      refine OpOK.same R (v' := .slice none 0 0) ?_ (by simp [VR])
      rw [append_fit hus hux hdx hi hlen (by omega), hrx]; simp
    · split at h
      · rename_i hn _ hb
        simp only [Bool.and_eq_true] at hb
        have hb1 := Nat.le_of_ble_eq_true hb.1
        have hb2 := Nat.le_of_ble_eq_true hb.2
        simp only [Option.some.injEq] at h; subst h
        obtain ⟨newCap, w1, hcap, ⟨k, hk⟩, hrun⟩ := append_grow (P := P) (w := w) (t := t) (sLen := 0) (sCap := 0) (base := none) hus hux hdx hi hz hlen (fun e => hn (by omega)) (by simpa using hb1) (by simpa using hb2)
        subst hk
        obtain ⟨_, ys, hry, hvy⟩ := aCellsOf_ok (P := P) (R.draws k) hx hcx
        obtain ⟨F', v', w', g1, g2, g3, g4⟩ := aGrown_ok (P := P) (R.draws k) (elem := elem) (sz := i.size) (z := z.cells) (newCap := newCap) hvy hc1 (by simpa using hcap)
        refine ⟨F', v', w', g1, ?_, g3, g4⟩
        rw [hrun]
        simp only [Builtin.firstCells, Sem.run_pure, Result.andThen_ok]
        simp only [Builtin.firstCells] at hry
        rw [hry]
        simpa using g2
      · cases h
    · cases h
  · -- a row that lies
    rename_i a len cap
    simp only [VR] at hs; obtain ⟨a', d, o, hF, h1, h2, e⟩ := hs; subst e
    have haa : AR F a a' := ⟨d, o, hF, h1, h2⟩
    split at h
    · -- there is room that is known of
      rename_i hle
      have hle := Nat.le_of_ble_eq_true hle
      split at h
      · simp only [Option.some.injEq] at h; subst h
        have hxs : xs = [] := by cases xs <;> simp_all
        subst hxs; simp only [VRL] at hvx; subst hvx
        refine OpOK.same R (v' := .slice (some a') len (cap + d)) ?_ (by simp only [VR]; exact ⟨a', d, o, hF, h1, h2, rfl⟩)
        rw [append_fit hus hux hdx hi hlen (by omega), hrx]; simp [storeCells]
      · split at h
        · rename_i vs e2 sz lo hsp hg
          split at h
          · rename_i hb
            have hb := Nat.le_of_ble_eq_true hb
            simp only [Option.some.injEq] at h; subst h
            have hoff : (a.add (len * i.size)).off = a.off + len * i.size := by unfold Addr.add; split <;> simp_all
            have hbk : (a.add (len * i.size)).block = a.block := by unfold Addr.add; split <;> rfl
            have hs2 : (a.add (len * i.size)).spot = none := by unfold Addr.add; split <;> simp [hsp]
            obtain ⟨w', hr, R'⟩ := storeCells_ok (P := P) xs xs' 0 R (haa.add (len * i.size)) hs2 (by rw [hbk]; exact hg) hc4 (by rw [hoff]; omega) hvx
            rw [hbk, hoff] at R'
            refine ⟨F, .slice (some a') (len + n) (cap + d), w', Nm.le_refl F, ?_, by simp only [VR]; exact ⟨a', d, o, hF, h1, h2, rfl⟩, by simpa using R'⟩
            rw [append_fit hus hux hdx hi hlen (by omega), hrx]; simp [hr]
          · cases h
        · cases h
    · rename_i hgt
      have hgt : cap < len + n := by
        rcases Nat.lt_or_ge cap (len + n) with h | h
        · exact h
        · rw [Nat.ble_eq_true_of_le h] at hgt; cases hgt
      split at h
      · cases h
      · rename_i hb
        simp only [Bool.and_eq_true] at hb
        obtain ⟨⟨hb1, hb2⟩, hb3⟩ := hb
        have hb1 := Nat.le_of_ble_eq_true hb1
        have hb2 := Nat.le_of_ble_eq_true hb2
        have hb3 := Nat.le_of_ble_eq_true hb3
        split at h
        · rename_i vs e2 sz lo ow old hsp hg hold
          -- where a new block is made
          have hgrow : ∀ (H2 : Heap), Rel G F H2 w0 w → aCells H2 a (len * i.size) = aCells H a (len * i.size) → aCellsOf H2 i.size x = aCellsOf H i.size x → ¬ len + n ≤ cap + d → ∀ H3 : Heap,
              (∀ k, Rel G F H2 w0 { w with drawn := k } → Rel G F H3 w0 { w with drawn := k }) →
              OpOK P G F w0 w (Builtin.append_ #[sType, xType] t #[.slice (some a') len (cap + d), x']) (aGrown H3 elem i.size (old ++ xs) (len + n)).1 (aGrown H3 elem i.size (old ++ xs) (len + n)).2 := by
            intro H2 R2 c1 c2 hnot H3 hR3
            obtain ⟨newCap, w1, hcap, ⟨k, hk⟩, hrun⟩ := append_grow (P := P) (w := w) (t := t) (sLen := len) (sCap := cap + d) (base := some a') hus hux hdx hi hz hlen hnot hb1 hb2
            subst hk
            obtain ⟨_, ys, hry, hvy⟩ := aCellsOf_ok (P := P) (R2.draws k) hx (c2.trans hcx)
            obtain ⟨os, hro, hvo⟩ := (R2.draws k).loadCells P haa (c1.trans hold)
            obtain ⟨F', v', w', g1, g2, g3, g4⟩ := aGrown_ok (P := P) (hR3 k (R2.draws k)) (elem := elem) (sz := i.size) (z := z.cells) (newCap := newCap) (VRL.append hvo hvy) hc1 hcap
            refine ⟨F', v', w', g1, ?_, g3, g4⟩
            rw [hrun]
            simp only [Builtin.firstCells] at hry ⊢
            rw [hro]; simp only [Result.andThen_ok]; rw [hry]; simp only [Result.andThen_ok]
            simpa using g2
          split at h
          · -- the row is known whole
            simp only [Option.some.injEq] at h; subst h
            obtain ⟨b', d', o', c, fz, hF', _, _, _, hex, _⟩ := R.obj _ _ hg
            rw [hF] at hF'; simp only [Option.some.injEq, Prod.mk.injEq] at hF'
            obtain ⟨q1, q2, q3⟩ := hF'
            have hd0 : d = 0 := by obtain ⟨x1, _⟩ := hex rfl; omega
            exact hgrow H R rfl rfl (by omega) H (fun k r => r)
          · split at h
            · rename_i hq
              simp only [Option.some.injEq] at h; subst h
              simp only [Bool.and_eq_true] at hq
              obtain ⟨⟨⟨q1, q2⟩, q3⟩, q4⟩ := hq
              have q2 := Nat.eq_of_beq_eq_true q2
              have q3 := Nat.eq_of_beq_eq_true q3
              have q4 := Nat.eq_of_beq_eq_true q4
              subst q1; subst q2; subst q4
              by_cases hfit : len + n ≤ cap + d
              · -- in place
                have hol : old.length = len * i.size := by
                  unfold aCells at hold
                  simp only [lcut_eq] at hold
                  split at hold
                  · rename_i hz0; simp only [Option.some.injEq] at hold; subst hold; simp [hz0]
                  · rw [hsp, hg] at hold
                    simp only at hold
                    split at hold
                    · rename_i hbl
                      have hbl := reaches_le hbl
                      simp only [Option.some.injEq] at hold; subst hold
                      simp; omega
                    · cases hold
                have hol2 : old = (vs.drop a.off).take old.length := by
                  rw [hol]
                  unfold aCells at hold
                  simp only [lcut_eq] at hold
                  split at hold
                  · rename_i hz0; simp only [Option.some.injEq] at hold; subst hold; simp [hz0]
                  · rw [hsp, hg] at hold
                    simp only at hold
                    split at hold
                    · simp only [Option.some.injEq] at hold; exact hold.symm
                    · cases hold
                obtain ⟨w', hr, hle, R'⟩ := R.inPlace (P := P) hg hF (off := a.off) (old := old) (xs := xs) (xs' := xs') (need := len + n) (cap := cap) hol2 q3 hgt hfit
                  (by rw [hol, hc3, Nat.add_mul]) (by rw [hol]; exact Nat.mul_le_mul_right _ hb3) hvx hc4
                refine ⟨_, .slice (some a') (len + n) (cap + d), w', hle, ?_, ?_, R'⟩
                · rw [append_fit hus hux hdx hi hlen hfit, hrx]
                  simp only [Result.andThen_ok]
                  have e5 : a'.add (len * i.size) = ⟨a'.block, a.off + o + old.length, none⟩ := by
                    rw [hol]; unfold Addr.add; split
                    · rename_i e6; rw [e6, Nat.add_zero, ← h1]
                      have e7 : a'.spot = none := by rw [h2, hsp]
                      exact (by rw [← e7] : a' = ⟨a'.block, a'.off, none⟩)
                    · rw [h1]
                  rw [e5, hr]; rfl
                · simp only [aGrown, VR]
                  refine ⟨a', cap + d - (len + n), a.off + o, Nm.with_self _ _ _, by simp [h1], by simp [h2, hsp], ?_⟩
                  congr 1; omega
              · -- in a new block
                exact hgrow H R rfl rfl hfit (H.put a.block none) (fun k r => r.drop _)
            · cases h
        · cases h
  · cases h
end
end
end Go.Abs
