/- Addresses of parts, parts of values, appending, copying, converting. -/
import Derived.Test.YtblbaohcelldpaaGreatA5
namespace Go.Abs
open Go
set_option linter.unusedVariables false
noncomputable section
section
variable {P : Program} {G : Nat} {F : Nm} {H : Heap} {w0 : Base} {w : World}
def aFieldAddr (P : Program) (s : TypeId) (x : Value) (field : Nat) : Option Value :=
  match P.underlying s with
  | some (.struct fields) => match fields[field]?, x with
    | some f, .pointer (some a) => match aSize P f.type with
      | some (_ + 1) => some (.pointer (some (a.add f.offset)))
      | _ => none
    | _, _ => none
  | _ => none
theorem aFieldAddr_ok {s : TypeId} {x x' : Value} (hx : VR F x x') {field : Nat} {v : Value} (h : aFieldAddr P s x field = some v) (w : World) :
    ∃ v', (Instr.fieldAt s x' field).run P w = .ok v' w ∧ VR F v v' := by
  unfold aFieldAddr at h
  split at h
  · rename_i fields hu
    split at h
    · rename_i f a hf
      split at h
      · rename_i n hs
        simp only [Option.some.injEq] at h; subst h
        simp only [VR] at hx; obtain ⟨a', ha, e⟩ := hx; subst e
        refine ⟨.pointer (some (a'.add f.offset)), ?_, by simp only [VR]; exact ⟨_, ha.add _, rfl⟩⟩
        simp [Instr.fieldAt, run_underlying hu, hf, Instr.sureAddr, fieldPlace, run_sizeOf' hs]
      · cases h
    · cases h
  · cases h
def aIndexAddr (P : Program) (t : TypeId) (x index : Value) : Option Value :=
  match index with
  | .int _ i => match P.underlying t, x with
    | some (.array len elem), .pointer (some a) => match aSize P elem, decide (0 ≤ i) && Nat.blt i.toNat len with
      | some n, true => some (.pointer (some (a.add (i.toNat * n))))
      | _, _ => none
    | some (.slice elem), .slice (some a) len _ => match aSize P elem, decide (0 ≤ i) && Nat.blt i.toNat len with
      | some n, true => some (.pointer (some (a.add (i.toNat * n))))
      | _, _ => none
    | _, _ => none
  | _ => none
theorem aIndexAddr_ok {t : TypeId} {x x' index : Value} (hx : VR F x x') {v : Value} (h : aIndexAddr P t x index = some v) (w : World) :
    ∃ v', (Instr.indexAt t x' index).run P w = .ok v' w ∧ VR F v v' := by
  unfold aIndexAddr at h
  split at h
  · rename_i k i
    split at h
    · rename_i len elem a hu
      split at h
      · rename_i n hs hc
        simp only [Option.some.injEq] at h; subst h
        simp only [Bool.and_eq_true, decide_eq_true_eq] at hc
        have h2 := Nat.le_of_ble_eq_true hc.2
        simp only [VR] at hx; obtain ⟨a', ha, e⟩ := hx; subst e
        refine ⟨.pointer (some (a'.add (i.toNat * n))), ?_, by simp only [VR]; exact ⟨_, ha.add _, rfl⟩⟩
        have hlt : 0 ≤ i ∧ i < (len : Int) := ⟨hc.1, by omega⟩
        simp [Instr.indexAt, asIntOf, run_underlying hu, Instr.sureAddr, run_sizeOf' hs, hlt]
      · cases h
    · rename_i elem a len cap hu
      split at h
      · rename_i n hs hc
        simp only [Option.some.injEq] at h; subst h
        simp only [Bool.and_eq_true, decide_eq_true_eq] at hc
        have h2 := Nat.le_of_ble_eq_true hc.2
        simp only [VR] at hx; obtain ⟨a', d, o, hF, h3, h4, e⟩ := hx; subst e
        have ha : AR F a a' := ⟨d, o, hF, h3, h4⟩
        refine ⟨.pointer (some (a'.add (i.toNat * n))), ?_, by simp only [VR]; exact ⟨_, ha.add _, rfl⟩⟩
        have hlt : 0 ≤ i ∧ i < (len : Int) := ⟨hc.1, by omega⟩
        simp [Instr.indexAt, asIntOf, run_underlying hu, run_sizeOf' hs, hlt]
      · cases h
    · cases h
  · cases h
def aField (P : Program) (t : TypeId) (x : Value) (field : Nat) : Option Value :=
  match P.underlying t, x with
  | some (.struct fields), .agg cs => match fields[field]? with
    | some f => aPart P f.type cs.toList f.offset
    | none => none
  | _, _ => none
theorem aField_ok {t : TypeId} {x x' : Value} (hx : VR F x x') {field : Nat} {v : Value} (h : aField P t x field = some v) (w : World) :
    ∃ v', (Instr.field t x' field).run P w = .ok v' w ∧ VR F v v' := by
  unfold aField at h
  split at h
  · rename_i fields cs hu
    split at h
    · rename_i f hf
      simp only [VR] at hx; obtain ⟨cs', hc, e⟩ := hx; subst e
      obtain ⟨v', hr, hv⟩ := aPart_ok hc h w
      exact ⟨v', by simp [Instr.field, run_underlying hu, hf, asAgg, hr], hv⟩
    · cases h
  · cases h
def aIndex (P : Program) (t : TypeId) (x index : Value) : Option Value :=
  match index with
  | .int _ i => match decide (0 ≤ i) with
    | false => none
    | true => match P.underlying t, x with
      | some (.array len elem), .agg cs => match aSize P elem, Nat.blt i.toNat len with
        | some n, true => aPart P elem cs.toList (i.toNat * n)
        | _, _ => none
      | some .string, .string s => match s.data.toList[i.toNat]? with
        | some b => some (.int .u8 b.toNat)
        | none => none
      | _, _ => none
  | _ => none
theorem bytes_getElem? (s : ByteArray) (i : Nat) : s[i]? = s.data.toList[i]? := by
  by_cases h : i < s.size
  · rw [ByteArray.getElem?_lt' s i h]
    obtain ⟨d⟩ := s
    have h' : i < d.size := h
    show some d[i] = d.toList[i]?
    simp [h']
  · rw [ByteArray.getElem?_ge' s i h]
    obtain ⟨d⟩ := s
    have h' : ¬ i < d.size := h
    show none = d.toList[i]?
    simp; omega
theorem aIndex_ok {t : TypeId} {x x' index : Value} (hx : VR F x x') {v : Value} (h : aIndex P t x index = some v) (w : World) :
    ∃ v', (Instr.index t x' index).run P w = .ok v' w ∧ VR F v v' := by
  unfold aIndex at h
  split at h
  · rename_i k i
    split at h
    · cases h
    · rename_i hi
      have hi : 0 ≤ i := by simpa using hi
      split at h
      · rename_i len elem cs hu
        split at h
        · rename_i n hs hc
          have h2 := Nat.le_of_ble_eq_true hc
          simp only [VR] at hx; obtain ⟨cs', hc', e⟩ := hx; subst e
          obtain ⟨v', hr, hv⟩ := aPart_ok hc' h w
          have hlt : 0 ≤ i ∧ i < (len : Int) := ⟨hi, by omega⟩
          exact ⟨v', by simp [Instr.index, asIntOf, run_underlying hu, hlt, run_sizeOf' hs, hr], hv⟩
        · cases h
      · rename_i s hu
        split at h
        · rename_i b hb
          simp only [Option.some.injEq] at h; subst h
          simp only [VR] at hx; subst hx
          refine ⟨.int .u8 b.toNat, ?_, by simp [VR]⟩
          have hb' : s[i.toNat]? = some b := by rw [bytes_getElem?]; exact hb
          simp [Instr.index, asIntOf, run_underlying hu, hi, hb']
        · cases h
      · cases h
  · cases h
theorem storeCells_raw {b : Nat} {elem : TypeId} {fz : Nat × Nat} : ∀ (l : List Value) (i off : Nat) (c : Array Value) (w : World), w.heap[b]? = some (.cells c elem fz) →
    (∀ i, i < c.size → ¬ (fz.1 ≤ i ∧ i < fz.2)) → off + i + l.length ≤ c.size → (∀ v ∈ l, v.oneCell' = true) →
    ∃ w', (storeCells ⟨b, off, none⟩ l i).run P w = .ok () w' ∧ w'.heap[b]? = some (.cells (setAll c.toList (off + i) l).toArray elem fz) ∧
      (∀ j, j ≠ b → w'.heap[j]? = w.heap[j]?) ∧ w'.heap.size = w.heap.size ∧ w'.os = w.os ∧ w'.output = w.output ∧ w'.tape = w.tape
  | [], i, off, c, w, hw, _, _, _ => ⟨w, by simp [storeCells], by simpa [setAll] using hw, fun _ _ => rfl, rfl, rfl, rfl, rfl⟩
  | v :: l, i, off, c, w, hw, hfz, hle, hc => by
    simp only [List.length_cons] at hle
    have ha : (Addr.add ⟨b, off, none⟩ i) = ⟨b, off + i, none⟩ := by unfold Addr.add; split <;> simp_all
    have hcell : w.cell? ⟨b, off + i, none⟩ = some c[off + i] := by
      simp [World.cell?, hw]
    have hfr : w.frozen? ⟨b, off + i, none⟩ = false := by
      simp only [World.frozen?, hw, Bool.and_eq_false_iff, decide_eq_false_iff_not]
      have := hfz (off + i) (by omega)
      omega
    have hset : (w.setCell ⟨b, off + i, none⟩ v).heap[b]? = some (.cells (c.setIfInBounds (off + i) v) elem fz) := by
      simp [World.setCell, Array.getElem?_modify, hw]
    obtain ⟨w', hr, h1, h2, h3, h4, h5, h6⟩ := storeCells_raw l (i + 1) off (c.setIfInBounds (off + i) v) (w.setCell ⟨b, off + i, none⟩ v) hset (by simpa using hfz) (by simp; omega)
      (fun x hx => hc x (List.mem_cons_of_mem _ hx))
    refine ⟨w', ?_, ?_, ?_, ?_, h4, h5, h6⟩
    · simp only [storeCells, Sem.run_bind, ha]
      rw [run_store P w _ _ _ (hc v (List.mem_cons_self ..))]
      simp only [hcell, hfr, Bool.false_eq_true, if_false, Result.andThen_ok]
      exact hr
    · rw [h1]; simp [setAll, Nat.add_assoc]
    · intro j hj; rw [h2 j hj, heap_setCell _ _ _ _ hj]
    · rw [h3]; simp
theorem setAll_append (pre mid post : List Value) (l : List Value) (h : l.length = mid.length) : setAll (pre ++ mid ++ post) pre.length l = pre ++ l ++ post := by
  induction l generalizing pre mid with
  | nil => cases mid <;> simp_all [setAll]
  | cons v l ih =>
    cases mid with
    | nil => simp at h
    | cons m mid =>
      simp only [setAll]
      have e : (pre ++ m :: mid ++ post).set pre.length v = (pre ++ [v]) ++ mid ++ post := by simp
      rw [e]
      have := ih (pre ++ [v]) mid (by simpa using h)
      simp only [List.length_append, List.length_singleton] at this
      rw [this]; simp
def flatRows (size : Nat) : List Value → Option (List Value)
  | [] => some []
  | .agg ⟨cs⟩ :: r => match Nat.beq cs.length size, flatRows size r with
    | true, some l => some (cs ++ l)
    | _, _ => none
  | _ :: _ => none
theorem zRows.tail {z : Nat → Nat → Option Value} {b off sz : Nat} {r : Value} {rows : List Value} (h : zRows z b off sz (r :: rows)) : zRows z b (off + sz) sz rows := fun i x hi => by
  obtain ⟨cs, g1, g2, g3⟩ := h (i + 1) x (by simpa using hi)
  refine ⟨cs, g1, g2, ?_⟩
  have e : off + (i + 1) * sz = off + sz + i * sz := by rw [Nat.succ_mul]; omega
  rw [← e]; exact g3
theorem flatRows_ok {size b sz : Nat} : ∀ (rows rows' : List Value) (off : Nat) (l : List Value), flatRows size rows = some l → VRL F.bare rows rows' → zRows F.z b off sz rows' →
    l.length = rows.length * size ∧ ∃ l', VRL F.bare l l' ∧ zRow F.z b off l'
  | [], rows', off, l, h, hv, hz => by
    simp only [flatRows, Option.some.injEq] at h; subst h
    exact ⟨by simp, [], by simp [VRL], fun j x hj => by simp at hj⟩
  | r :: rows, rows', off, l, h, hv, hz => by
    simp only [VRL] at hv
    obtain ⟨r', rs', h1, h2, e⟩ := hv; subst e
    cases r <;> simp only [flatRows] at h <;> try (cases h; done)
    rename_i c
    obtain ⟨cs⟩ := c
    simp only at h
    split at h <;> (try (cases h; done))
    rename_i l2 hb hl2
    simp only [Option.some.injEq] at h; subst h
    have hb := Nat.eq_of_beq_eq_true hb
    obtain ⟨cs', e1, h1c⟩ := h1.aggL; subst e1
    obtain ⟨cs2, g1, g2, g3⟩ := hz 0 _ rfl
    simp only [Value.agg.injEq, Array.mk.injEq] at g1; subst g1
    have hle := h1c.length
    obtain ⟨k1, l', k2, k3⟩ := flatRows_ok rows rs' (off + sz) l2 hl2 h2 hz.tail
    refine ⟨by rw [List.length_append, k1, hb, List.length_cons, Nat.succ_mul]; omega, cs' ++ l', VRL.append h1c k2, fun j x hj => ?_⟩
    rw [List.getElem?_append] at hj
    split at hj
    · have := g3 j x hj; simpa using this
    · rename_i hge
      have := k3 _ x hj
      rw [show off + sz + (j - cs'.length) = off + j from by omega] at this; exact this
def aCellsOf (H : Heap) (size : Nat) : Value → Option (Nat × List Value)
  | .slice (some a) n _ => match aCells H a (n * size) with
    | some l => some (n, l)
    | none => none
  | .slice none n _ => match n with
    | 0 => some (0, [])
    | _ => none
  | .string s => some (s.data.toList.length, s.data.toList.map fun b => .int .u8 b.toNat)
  | .iface m (.agg ⟨rows⟩) => match Nat.beq m mkD with
    | true => match flatRows size rows with
      | some l => some (rows.length, l)
      | none => none
    | false => none
  | .iface m (.slice (some a) n _) => match Nat.beq m mkM with
    | true => match n with
      | 0 => some (0, [])
      | k + 1 => match aCells H a ((k + 1) * size) with
        | some l => some (k + 1, l)
        | none => none
    | false => none
  | _ => none
theorem aCellsOf_ok (R : Rel G F H w0 w) {size : Nat} {x x' : Value} (hx : VR F x x') {n : Nat} {l : List Value} (h : aCellsOf H size x = some (n, l)) :
    (Builtin.lenOf x').run P w = .ok n w ∧ ∃ l', (Builtin.firstCells size n x').run P w = .ok l'.toArray w ∧ VRL F l l' := by
  unfold aCellsOf at h
  split at h
  · rename_i a n' c
    split at h
    · rename_i l2 hl
      simp only [Option.some.injEq, Prod.mk.injEq] at h; obtain ⟨h1, h2⟩ := h; subst h1; subst h2
      simp only [VR] at hx; obtain ⟨a', d, o, hF, h3, h4, e⟩ := hx; subst e
      obtain ⟨l', hr, hv⟩ := R.loadCells P ⟨d, o, hF, h3, h4⟩ hl
      exact ⟨by simp [Builtin.lenOf], l', by simp [Builtin.firstCells, hr], hv⟩
    · cases h
  · rename_i n' c
    split at h
    · simp only [Option.some.injEq, Prod.mk.injEq] at h; obtain ⟨h1, h2⟩ := h; subst h1; subst h2
      simp only [VR] at hx; subst hx
      exact ⟨by simp [Builtin.lenOf], [], by simp [Builtin.firstCells], by simp [VRL]⟩
    · cases h
  · rename_i s
    simp only [Option.some.injEq, Prod.mk.injEq] at h; obtain ⟨h1, h2⟩ := h; subst h1; subst h2
    simp only [VR] at hx; subst hx
    have e : s.data.toList.length = s.size := by cases s; simp [ByteArray.size]
    refine ⟨by simp [Builtin.lenOf, e], s.data.toList.map fun b => .int .u8 b.toNat, ?_, ?_⟩
    · have e2 : (s.extract 0 s.size) = s := by
        rw [extract_bytes, ← e]; apply ByteArray.ext; simp only [bytesOf, List.drop_zero, Nat.sub_zero, List.take_length]
      simp only [Builtin.firstCells]
      rw [e, e2]
      simp only [Sem.run_pure, Result.ok.injEq, and_true]
      apply Array.ext'; simp
    · exact (VRL.plain_eq _ _ (plainL_map _ (fun _ => rfl) _)).2 rfl
  · rename_i m rows
    split at h
    · rename_i hm
      have hm := Nat.eq_of_beq_eq_true hm
      subst hm
      split at h <;> (try (cases h; done))
      rename_i l2 hf
      simp only [Option.some.injEq, Prod.mk.injEq] at h; obtain ⟨h1, h2⟩ := h; subst h1; subst h2
      rcases hx.D_cases with ⟨e, a, c, e2⟩ | ⟨rows', a, c, sz, g1, g2, g3, g4, g5, g6⟩
      · subst e; subst e2
        simp only [flatRows, Option.some.injEq] at hf; subst hf
        refine ⟨by simp [Builtin.lenOf], [], ?_, by simp [VRL]⟩
        cases a <;> simp [Builtin.firstCells, loadCells, loadCellsFrom]
      · obtain ⟨k1, l', k2, k3⟩ := flatRows_ok rows rows' a.off _ hf g1 g6
        subst g2
        have e : a = ⟨a.block, a.off, none⟩ := by rw [← g4]
        refine ⟨by simp [Builtin.lenOf], l', ?_, k2.bare_up⟩
        have hl := k2.length
        have := R.zload P k3 (n := rows.length * size) (by omega)
        rw [List.take_of_length_le (by omega)] at this
        simp only [Builtin.firstCells]; rw [e]; exact this
    · cases h
  · rename_i m a n' c
    split at h
    · rename_i hm
      have hm := Nat.eq_of_beq_eq_true hm
      subst hm
      split at h
      · simp only [Option.some.injEq, Prod.mk.injEq] at h; obtain ⟨h1, h2⟩ := h; subst h1; subst h2
        rcases hx.M_cases with ⟨e, _⟩ | ⟨_, a', e⟩
        · exact absurd rfl e
        · subst e
          refine ⟨by simp [Builtin.lenOf], [], ?_, by simp [VRL]⟩
          cases a' <;> simp [Builtin.firstCells, loadCells, loadCellsFrom]
      · split at h <;> (try (cases h; done))
        rename_i k l2 hl
        simp only [Option.some.injEq, Prod.mk.injEq] at h; obtain ⟨h1, h2⟩ := h; subst h1; subst h2
        rcases hx.M_cases with ⟨_, hx⟩ | ⟨e, _⟩
        · simp only [VR] at hx; obtain ⟨a', d, o, hF, h3, h4, e⟩ := hx; subst e
          obtain ⟨l', hr, hv⟩ := R.loadCells P ⟨d, o, hF, h3, h4⟩ hl
          exact ⟨by simp [Builtin.lenOf], l', by simp [Builtin.firstCells, hr], hv⟩
        · cases e
    · cases h
  · cases h
theorem growBy_le (newLen : Nat) : ∀ (r c : Nat), c < newLen → Builtin.growBy newLen r c ≤ 2 * newLen + 192
  | 0, c, h => by simp only [Builtin.growBy]; omega
  | r + 1, c, h => by
    simp only [Builtin.growBy]
    rw [if_neg (by omega)]
    by_cases h2 : c + (c + 768) / 4 < newLen
    · exact growBy_le newLen r _ h2
    · cases r with
      | zero => simp only [Builtin.growBy]; omega
      | succ r => simp only [Builtin.growBy]; rw [if_pos (by omega)]; omega
theorem nextcap_le {newLen oldCap : Nat} (h : oldCap < newLen) : Builtin.nextslicecap newLen oldCap ≤ 2 * newLen + 192 := by
  unfold Builtin.nextslicecap
  split
  · omega
  · split
    · omega
    · exact growBy_le _ _ _ h
theorem zeroCells_size (z : Array Value) (n : Nat) : (Builtin.zeroCells z n).size = n * z.size := by simp [Builtin.zeroCells]
def aGrown (H : Heap) (elem : TypeId) (sz : Nat) (l : List Value) (need : Nat) : Value × Heap :=
  (.slice (some ⟨H.next, 0, none⟩) need need, H.push (.cells l elem sz true true))
def notInt : TypeDesc → Bool
  | .slice _ | .string => true
  | _ => false
def aAppend (P : Program) (H : Heap) (argTypes : Array TypeId) (args : List Value) : Option (Value × Heap) :=
  match argTypes.toList, args with
  | [sType, xType], [s, x] => match P.underlying sType, P.underlying xType with
    | some (.slice elem), some dx => match notInt dx, P.info? elem with
      | true, some i => match aCellsOf H i.size x, i.zero with
        | some (n, xs), some z =>
          match Nat.beq z.cells.toList.length i.size && plain z && Nat.beq xs.length (n * i.size) && xs.all isCell with
          | false => none
          | true => match s with
            | .slice none len cap => match n, len, cap with
              | 0, 0, 0 => some (s, H)
              | _, 0, 0 => match Nat.ble ((2 * n + 192) * i.bytes) tops && Nat.ble n 1099511627776 with
                | true => some (aGrown H elem i.size xs n)
                | false => none
              | _, _, _ => none
            | .slice (some a) len cap => match Nat.ble (len + n) cap with
              | true => match n with
                | 0 => some (s, H)
                | _ => match a.spot, H.get a.block with
                  | none, some (.cells vs e2 sz lo true) => match Nat.ble (a.off + len * i.size + xs.length) vs.length with
                    | true => some (.slice (some a) (len + n) cap, H.put a.block (some (.cells (splice vs (a.off + len * i.size) xs) e2 sz lo true)))
                    | false => none
                  | _, _ => none
              | false => match Nat.ble ((2 * (len + n) + 192) * i.bytes) tops && Nat.ble (len + n) 1099511627776 && Nat.ble len cap with
                | false => none
                | true => match a.spot, H.get a.block, aCells H a (len * i.size) with
                  | none, some (.cells vs e2 sz lo ow), some old => match lo with
                    | false => some (aGrown H elem i.size (old ++ xs) (len + n))
                    | true => match ow && Nat.beq sz i.size && Nat.beq (a.off + cap * i.size) vs.length && Nat.beq e2 elem with
                      | true => some (aGrown (H.put a.block none) elem i.size (old ++ xs) (len + n))
                      | false => none
                  | _, _, _ => none
            | _ => none
        | _, _ => none
      | _, _ => none
    | _, _ => none
  | _, _ => none
end
end
end Go.Abs
