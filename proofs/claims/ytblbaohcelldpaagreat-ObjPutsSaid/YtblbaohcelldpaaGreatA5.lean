/- Slicing, indexing, addresses of parts. -/
import Derived.Test.YtblbaohcelldpaaGreatA3
import Derived.Laws.BytesString
import Derived.Laws.Strings
namespace Go.Abs
open Go
set_option linter.unusedVariables false
noncomputable section
section
variable {P : Program} {G : Nat} {F : Nm} {H : Heap} {w0 : Base} {w : World}
def bnd (v : Option Value) (dflt top : Nat) : Option Nat :=
  match v with
  | none => some dflt
  | some (.int _ i) => match decide (0 ≤ i) && Nat.ble i.toNat top with
    | true => some i.toNat
    | false => none
  | _ => none
theorem bnd_ok {v : Option Value} {dflt top r : Nat} (h : bnd v dflt top = some r) (x : Value) (hv : v = some x) (top' : Nat) (ht : top ≤ top') (code : BoundsCode) (w : World) :
    (Instr.sliceBound x top' code).run P w = .ok r w ∧ r ≤ top := by
  subst hv
  unfold bnd at h
  split at h
  · rename_i e; cases e
  · rename_i k i e
    simp only [Option.some.injEq] at e; subst e
    split at h
    · rename_i hc
      simp only [Option.some.injEq] at h; subst h
      simp only [Bool.and_eq_true, decide_eq_true_eq] at hc
      have := Nat.le_of_ble_eq_true hc.2
      refine ⟨?_, this⟩
      simp only [Instr.sliceBound, asIntOf, Sem.run_bind, Sem.run_pure, Result.andThen_ok]
      rw [if_pos ⟨hc.1, by omega⟩]; rfl
    · cases h
  · cases h
def bnds (len cap : Nat) (lo hi mx : Option Value) : Option (Nat × Nat × Nat) :=
  match bnd mx cap cap with
  | none => none
  | some m => match hi, mx with
    | none, some _ => none
    | _, _ => match bnd hi len m with
      | none => none
      | some h => match bnd lo 0 h with
        | none => none
        | some l => match Nat.ble h m with
          | true => some (l, h, m)
          | false => none
theorem bnds_ok3 {len cap : Nat} {lo hi mx : Option Value} {l h m : Nat} (hb : bnds len cap lo hi mx = some (l, h, m)) (isS : Bool) (d : Nat) (w : World) :
    (Instr.sliceBounds isS len (cap + d) lo hi mx).run P w = .ok (l, h, if mx.isSome then m else m + d) w ∧ l ≤ h ∧ h ≤ m ∧ (mx = none → m = cap) := by
  unfold bnds at hb
  split at hb
  · cases hb
  · rename_i m' hm
    split at hb
    · cases hb
    · rename_i hne
      split at hb
      · cases hb
      · rename_i h' hh
        split at hb
        · cases hb
        · rename_i l' hl
          split at hb
          · rename_i hle
            simp only [Option.some.injEq, Prod.mk.injEq] at hb
            obtain ⟨e1, e2, e3⟩ := hb
            subst e1; subst e2; subst e3
            have hle := Nat.le_of_ble_eq_true hle
            have hlh : l' ≤ h' := by
              cases lo with
              | none => simp only [bnd, Option.some.injEq] at hl; omega
              | some x => exact (bnd_ok hl x rfl h' (Nat.le_refl _) .index w (P := P)).2
            have hmc : mx = none → m' = cap := by
              intro e; subst e; simp only [bnd, Option.some.injEq] at hm; exact hm.symm
            refine ⟨?_, hlh, hle, hmc⟩
            cases mx with
            | none =>
              have hm' := hmc rfl; subst hm'
              cases hi with
              | none =>
                simp only [bnd, Option.some.injEq] at hh; subst hh
                cases lo with
                | none => simp only [bnd, Option.some.injEq] at hl; subst hl; simp [Instr.sliceBounds]
                | some x => simp [Instr.sliceBounds, (bnd_ok hl x rfl _ (Nat.le_refl _) .sliceB w (P := P)).1]
              | some y =>
                have hy := fun code => (bnd_ok hh y rfl (m' + d) (by omega) code w (P := P)).1
                cases lo with
                | none => simp only [bnd, Option.some.injEq] at hl; subst hl; simp [Instr.sliceBounds, hy]
                | some x => simp [Instr.sliceBounds, hy, (bnd_ok hl x rfl _ (Nat.le_refl _) .sliceB w (P := P)).1]
            | some z =>
              have hz := fun code => (bnd_ok hm z rfl (cap + d) (by omega) code w (P := P)).1
              cases hi with
              | none => exact absurd rfl (hne z rfl)
              | some y =>
                have hy := fun code => (bnd_ok hh y rfl m' (Nat.le_refl _) code w (P := P)).1
                cases lo with
                | none => simp only [bnd, Option.some.injEq] at hl; subst hl; simp [Instr.sliceBounds, hz, hy]
                | some x => simp [Instr.sliceBounds, hz, hy, (bnd_ok hl x rfl _ (Nat.le_refl _) .slice3C w (P := P)).1]
          · cases hb
theorem Rel.name (R : Rel G F H w0 w) (x : Nat × Nat × Nat) :
    Nm.le F (F.with H.next x) ∧ Rel G (F.with H.next x) { H with next := H.next + 1 } w0 w := by
  have hle : Nm.le F (F.with H.next x) := Nm.le_with (R.fresh _ (Nat.le_refl _)) _
  have hne : ∀ n o, H.get n = some o → n ≠ H.next := fun n o h e => by
    rw [e, R.nolive (Nat.le_refl _)] at h; cases h
  refine ⟨hle, ?_⟩
  constructor
  · intro n o hn
    have h1 := R.obj n o hn
    exact objR_mono hle h1
  · intro n m o o' hn hm hne' how
    have e1 : blk (F.with H.next x) n = blk F n := by simp [blk, Nm.with, hne n o hn]
    have e2 : blk (F.with H.next x) m = blk F m := by simp [blk, Nm.with, hne m o' hm]
    rw [e1, e2]; exact R.inj n m o o' hn hm hne' how
  · intro n hn
    have hn' : H.next + 1 ≤ n := hn
    simp only [Nm.with]; rw [if_neg (by omega)]; exact R.fresh n (by omega)
  · intro g hg; exact hle.nm _ _ (R.glob g hg)
  · exact R.base
  · exact R.frame
  · intro b i v hz
    refine ⟨(R.froz b i v hz).1, fun n o hn ho => ?_⟩
    have e1 : blk (F.with H.next x) n = blk F n := by simp [blk, Nm.with, hne n o hn]
    rw [e1]; exact (R.froz b i v hz).2 n o hn ho
  · exact R.zprot
  · exact R.os
  · exact R.out
  · exact R.tape
def bytesOf (l : List UInt8) : ByteArray := ⟨l.toArray⟩
theorem extract_bytes (s : ByteArray) (l h : Nat) : s.extract l h = bytesOf ((s.data.toList.drop l).take (h - l)) := by
  apply ByteArray.ext
  simp only [bytesOf, ByteArray.data_extract]
  apply Array.ext'
  simp [List.extract_eq_take_drop]
def exact? (H : Heap) (n : Nat) : Bool := match H.get n with
  | some (.cells _ _ _ false _) => true
  | _ => false
def live? (H : Heap) (n : Nat) : Bool := match H.get n with
  | some _ => true
  | none => false
theorem exact_room (R : Rel G F H w0 w) {n b d o : Nat} (h : exact? H n = true) (hF : F n = some (b, d, o)) : d = 0 ∧ o = 0 := by
  unfold exact? at h
  split at h
  · rename_i vs elem sz ow hg
    obtain ⟨b', d', o', c, fz, hF', _, _, _, hex, _⟩ := R.obj _ _ hg
    rw [hF] at hF'; simp only [Option.some.injEq, Prod.mk.injEq] at hF'
    obtain ⟨_, e2, e3⟩ := hF'
    obtain ⟨x1, x2, _⟩ := hex rfl
    exact ⟨by omega, by omega⟩
  · cases h
theorem bnds_ok {len cap : Nat} {lo hi mx : Option Value} {l h m : Nat} (hb : bnds len cap lo hi mx = some (l, h, m)) (isS : Bool) (d : Nat) (hd : mx = none ∨ d = 0) (w : World) :
    (Instr.sliceBounds isS len (cap + d) lo hi mx).run P w = .ok (l, h, if mx.isSome then m else m + d) w ∧ l ≤ h ∧ h ≤ m ∧ (mx = none → m = cap) := bnds_ok3 hb isS d w
def aSlice (P : Program) (H : Heap) (t : TypeId) (x : Value) (lo hi mx : Option Value) : Option (Value × Heap) :=
  match P.underlying t with
  | some .string => match x, mx with
    | .string s, none => match bnds s.size s.size lo hi none with
      | some (l, h, _) => some (.string (bytesOf ((s.data.toList.drop l).take (h - l))), H)
      | none => none
    | _, _ => none
  | some (.array n elem) => match x with
    | .pointer (some a) => match exact? H a.block, aSize P elem with
      | true, some size => match bnds n n lo hi mx with
        | some (l, h, m) => some (.slice (some (if m = l then a else a.add (l * size))) (h - l) (m - l), H)
        | none => none
      | _, _ => none
    | _ => none
  | some (.slice elem) => match x with
    | .slice none len cap => match aSize P elem, bnds len cap lo hi none, mx with
      | some _, some (l, h, m), none => some (.slice none (h - l) (m - l), H)
      | _, _, _ => none
    | .slice (some a) len cap => match aSize P elem with
      | none => none
      | some size => match bnds len cap lo hi mx with
        | none => none
        | some (l, h, m) => match exact? H a.block with
          | true => some (.slice (some (if m = l then a else a.add (l * size))) (h - l) (m - l), H)
          | false => match mx with
            | some _ => match a.spot with
              | none => some (.slice (some ⟨H.next, 0, none⟩) (h - l) (m - l), { H with next := H.next + 1 })
              | some _ => none
            | none => match l with
              | 0 => some (.slice (some a) h m, H)
              | _ => match Nat.blt l m with
                | true => some (.slice (some (a.add (l * size))) (h - l) (m - l), H)
                | false => match a.spot with
                  | none => some (.slice (some ⟨H.next, 0, none⟩) 0 0, { H with next := H.next + 1 })
                  | some _ => none
    | _ => none
  | _ => none
theorem aSlice_ok (R : Rel G F H w0 w) {t : TypeId} {x x' : Value} (hx : VR F x x') {lo hi mx : Option Value} {r : Value × Heap} (h : aSlice P H t x lo hi mx = some r) :
    OpOK P G F w0 w (Instr.sliceAt t x' lo hi mx) r.1 r.2 := by
  unfold aSlice at h
  split at h
  · rename_i hu
    split at h
    · rename_i s
      split at h
      · rename_i l h' m hb
        simp only [Option.some.injEq] at h; subst h
        simp only [VR] at hx; subst hx
        have := (bnds_ok (P := P) hb false 0 (.inl rfl) w).1
        simp only [Nat.add_zero, Option.isSome_none, Bool.false_eq_true, if_false] at this
        refine OpOK.same R (v' := .string (bytesOf ((s.data.toList.drop l).take (h' - l)))) ?_ (by simp [VR])
        simp [Instr.sliceAt, Instr.slice, run_underlying hu, this, extract_bytes]
      · cases h
    · cases h
  · rename_i n elem hu
    split at h
    · rename_i a
      split at h
      · rename_i size hex hs
        split at h
        · rename_i l h' m hb
          simp only [Option.some.injEq] at h; subst h
          simp only [VR] at hx; obtain ⟨a', ha, e⟩ := hx; subst e
          have := (bnds_ok (P := P) hb false 0 (.inr rfl) w).1
          simp only [Nat.add_zero, ite_self] at this
          have har : AR F (if m = l then a else a.add (l * size)) (if m = l then a' else a'.add (l * size)) := by
            split
            · exact ha
            · exact ha.add _
          obtain ⟨d, o, hF, h1, h2⟩ := ha
          have hbk : (if m = l then a else a.add (l * size)).block = a.block := by split <;> first | rfl | (unfold Addr.add; split <;> rfl)
          have hd := (exact_room R hex hF).1
          subst hd
          refine OpOK.same R (v' := .slice (some (if m = l then a' else a'.add (l * size))) (h' - l) (m - l)) ?_ ?_
          · simp [Instr.sliceAt, run_underlying hu, Instr.sureAddr, this, run_sizeOf' hs]
          · simp only [VR]
            obtain ⟨d2, o2, hF2, h3, h4⟩ := har
            rw [hbk] at hF2
            rw [hF] at hF2; simp only [Option.some.injEq, Prod.mk.injEq] at hF2
            refine ⟨_, 0, o2, ?_, h3, h4, rfl⟩
            rw [hbk, hF, hF2.1, hF2.2.1, hF2.2.2]
        · cases h
      · cases h
    · cases h
  · rename_i elem hu
    split at h
    · rename_i len cap
      split at h
      · rename_i size l h' m hs hb
        simp only [Option.some.injEq] at h; subst h
        simp only [VR] at hx; subst hx
        have := (bnds_ok (P := P) hb true 0 (.inl rfl) w).1
        simp only [Nat.add_zero, Option.isSome_none, Bool.false_eq_true, if_false] at this
        · refine OpOK.same R (v' := .slice none (h' - l) (m - l)) ?_ (by simp [VR])
          simp [Instr.sliceAt, Instr.slice, run_underlying hu, this, run_sizeOf' hs]
      · cases h
    · rename_i a len cap
      split at h
      · cases h
      · rename_i size hs
        split at h
        · cases h
        · rename_i l h' m hb
          simp only [VR] at hx; obtain ⟨a', d, o, hF, h1, h2, e⟩ := hx; subst e
          have ha : AR F a a' := ⟨d, o, hF, h1, h2⟩
          split at h
          · rename_i hex
            simp only [Option.some.injEq] at h; subst h
            have hd := (exact_room R hex hF).1
            subst hd
            have := (bnds_ok (P := P) hb true 0 (.inr rfl) w).1
            simp only [Nat.add_zero, ite_self] at this
            have har : AR F (if m = l then a else a.add (l * size)) (if m = l then a' else a'.add (l * size)) := by
              split
              · exact ha
              · exact ha.add _
            have hbk : (if m = l then a else a.add (l * size)).block = a.block := by split <;> first | rfl | (unfold Addr.add; split <;> rfl)
            refine OpOK.same R (v' := .slice (some (if m = l then a' else a'.add (l * size))) (h' - l) (m - l)) ?_ ?_
            · simp only [Instr.sliceAt, Instr.slice, Sem.run_bind, run_underlying hu, Result.andThen_ok, Nat.add_zero, this, run_sizeOf' hs]
              split <;> simp
            · simp only [VR]
              obtain ⟨d2, o2, hF2, h3, h4⟩ := har
              rw [hbk] at hF2
              rw [hF] at hF2; simp only [Option.some.injEq, Prod.mk.injEq] at hF2
              refine ⟨_, 0, o2, ?_, h3, h4, rfl⟩
              rw [hbk, hF, hF2.1, hF2.2.1, hF2.2.2]
          · split at h
            · rename_i y
              split at h
              · rename_i hsp
                simp only [Option.some.injEq] at h; subst h
                obtain ⟨hrun, _, _, _⟩ := bnds_ok3 (P := P) hb true d w
                simp only [Option.isSome_some, if_true] at hrun
                obtain ⟨a2, ha2⟩ : ∃ a2, a2 = (if m = l then a' else a'.add (l * size)) := ⟨_, rfl⟩
                have hb2 : a2.spot = none := by
                  rw [ha2]; split
                  · rw [h2, hsp]
                  · unfold Addr.add; split <;> simp [h2, hsp]
                obtain ⟨hle, R'⟩ := R.name (a2.block, 0, a2.off)
                refine ⟨_, .slice (some a2) (h' - l) (m - l), w, hle, ?_, ?_, R'⟩
                · simp only [Instr.sliceAt, Instr.slice, Sem.run_bind, run_underlying hu, Result.andThen_ok, hrun, run_sizeOf' hs]
                  rw [ha2]; split <;> simp
                · simp only [VR]
                  exact ⟨a2, 0, a2.off, Nm.with_self _ _ _, by simp, by simpa using hb2, rfl⟩
              · cases h
            · rename_i hmx
              obtain ⟨hrun, hlh, hhm, hmc⟩ := bnds_ok (P := P) hb true d (.inl rfl) w
              simp only [Option.isSome_none, Bool.false_eq_true, if_false] at hrun
              have hmc := hmc rfl
              subst hmc
              split at h
              · rename_i hl0
                simp only [Option.some.injEq] at h; subst h
                refine OpOK.same R (v' := .slice (some a') h' (m + d)) ?_ ?_
                · simp only [Instr.sliceAt, Instr.slice, Sem.run_bind, run_underlying hu, Result.andThen_ok, hrun, run_sizeOf' hs]
                  split <;> simp [Addr.add]
                · simp only [VR]; exact ⟨a', d, o, hF, h1, h2, rfl⟩
              · split at h
                · rename_i hlt
                  have hlt : l < m := Nat.le_of_ble_eq_true hlt
                  simp only [Option.some.injEq] at h; subst h
                  have har := ha.add (l * size)
                  obtain ⟨d2, o2, hF2, h3, h4⟩ := har
                  have hbk : (a.add (l * size)).block = a.block := by unfold Addr.add; split <;> rfl
                  rw [hbk, hF] at hF2; simp only [Option.some.injEq, Prod.mk.injEq] at hF2
                  refine OpOK.same R (v' := .slice (some (a'.add (l * size))) (h' - l) (m + d - l)) ?_ ?_
                  · simp only [Instr.sliceAt, Instr.slice, Sem.run_bind, run_underlying hu, Result.andThen_ok, hrun, run_sizeOf' hs]
                    rw [if_neg (by omega)]; simp
                  · simp only [VR]
                    refine ⟨_, d, o2, ?_, h3, h4, ?_⟩
                    · rw [hbk, hF, hF2.1, hF2.2.2]
                    · congr 1; omega
                · rename_i hlt
                  split at h
                  · rename_i hsp
                    simp only [Option.some.injEq] at h; subst h
                    have hlm : l = m := by
                      have : ¬ l < m := fun hc => by rw [show Nat.blt l m = true from Nat.ble_eq_true_of_le hc] at hlt; cases hlt
                      omega
                    obtain ⟨a2, ha2⟩ : ∃ a2, a2 = (if m + d = l then a' else a'.add (l * size)) := ⟨_, rfl⟩
                    have hb2 : a2.spot = none := by
                      rw [ha2]; split
                      · rw [h2, hsp]
                      · unfold Addr.add; split <;> simp [h2, hsp]
                    obtain ⟨hle, R'⟩ := R.name (a2.block, d, a2.off)
                    refine ⟨_, .slice (some a2) (h' - l) (m + d - l), w, hle, ?_, ?_, R'⟩
                    · simp only [Instr.sliceAt, Instr.slice, Sem.run_bind, run_underlying hu, Result.andThen_ok, hrun, run_sizeOf' hs]
                      rw [ha2]; split <;> simp
                    · simp only [VR]
                      refine ⟨a2, d, a2.off, Nm.with_self _ _ _, by simp, by simpa using hb2, ?_⟩
                      congr 1 <;> omega
                  · cases h
    · cases h
  · cases h
end
end
end Go.Abs
