/- More operations over the abstract heap: building, slicing, appending, converting, comparing. -/
import Derived.Test.YtfhkbepjppcjmaaGreatDoorA3
namespace Go.Abs
open Go
noncomputable section
section
variable {P : Program} {G : Nat} {F : Nm} {H : Heap} {w0 : Base} {w : World}

/-! ### Filling an aggregate -/
def aFill (place : Nat → Option (Nat × Nat)) : List Value → List (Nat × Value) → Option (List Value)
  | cells, [] => some cells
  | cells, (i, v) :: rest => match place i with
    | none => none
    | some (off, size) => match Nat.beq v.cells.toList.length size && Nat.ble (off + size) cells.length && not (isTop v) with
      | true => aFill place (splice cells off v.cells.toList) rest
      | false => none

theorem VRL.setAll {F : Nm} : ∀ {l l' : List Value} {vs vs' : List Value} (i : Nat), VRL F vs vs' → VRL F l l' → VRL F (Abs.setAll vs i l) (Abs.setAll vs' i l')
  | [], l', vs, vs', i, h, hl => by simp only [VRL] at hl; subst hl; exact h
  | v :: l, l', vs, vs', i, h, hl => by
    simp only [VRL] at hl; obtain ⟨v', r', h1, h2, e⟩ := hl; subst e
    exact VRL.setAll (i + 1) (h.set i h1) h2
theorem zipIdx_setAll (off : Nat) : ∀ (l : List Value) (k : Nat) (cs : Array Value),
    ((l.zipIdx k).foldl (fun (cs : Array Value) (x : Value × Nat) => cs.setIfInBounds (off + x.2) x.1) cs).toList = setAll cs.toList (off + k) l
  | [], k, cs => rfl
  | v :: l, k, cs => by
    simp only [List.zipIdx_cons, List.foldl_cons, setAll]
    rw [zipIdx_setAll off l (k + 1)]
    simp [Nat.add_assoc]

/-- Two lists of parts: the same places, values that stand to each other. -/
def PR (F : Nm) : List (Nat × Value) → List (Nat × Value) → Prop
  | [], l' => l' = []
  | (i, v) :: l, l' => ∃ v' r', VR F v v' ∧ PR F l r' ∧ l' = (i, v') :: r'
theorem aFill_ok (place : Nat → Option (Nat × Nat)) : ∀ (parts parts' : List (Nat × Value)) (cells : List Value) (cells' : Array Value) (r : List Value),
    VRL F cells cells'.toList → PR F parts parts' → aFill place cells parts = some r → ∃ r', Instr.fill place cells' parts' = some r' ∧ VRL F r r'.toList
  | [], parts', cells, cells', r, hc, hp, h => by
    simp only [PR] at hp; subst hp
    simp only [aFill, Option.some.injEq] at h; subst h
    exact ⟨cells', rfl, hc⟩
  | (i, v) :: parts, parts', cells, cells', r, hc, hp, h => by
    simp only [PR] at hp; obtain ⟨v', q', h1, h2, e⟩ := hp; subst e
    simp only [aFill, splice_eq] at h
    split at h
    · cases h
    · rename_i off size hpl
      split at h
      · rename_i hcond
        simp only [Bool.and_eq_true] at hcond
        have c1 := Nat.eq_of_beq_eq_true hcond.1.1
        have c2 := Nat.le_of_ble_eq_true hcond.1.2
        have h1c := h1.cells (by simpa using hcond.2)
        have hl := h1c.length
        have hl2 := hc.length
        simp only [Array.length_toList] at hl hl2 c1
        obtain ⟨r', hr, hv⟩ := aFill_ok place parts q' _ (v'.cells.zipIdx.foldl (fun cs (c, j) => cs.setIfInBounds (off + j) c) cells') r
          (by
            rw [← Array.foldl_toList, Array.toList_zipIdx, zipIdx_setAll]
            simpa using VRL.setAll off hc h1c) h2 h
        refine ⟨r', ?_, hv⟩
        simp only [Instr.fill, hpl]
        rw [if_neg (by simp [hl, c1, hl2]; omega)]
        exact hr
      · cases h

def aPlaces (P : Program) : List Field → Option (List (Nat × Nat))
  | [] => some []
  | f :: r => match aSize P f.type, aPlaces P r with
    | some n, some l => some ((f.offset, n) :: l)
    | _, _ => none
theorem aPlaces_ok : ∀ (fs : List Field) (l : List (Nat × Nat)), aPlaces P fs = some l → ∀ w, (fs.mapM fun f => (Prod.mk f.offset <$> sizeOf f.type : Sem (Nat × Nat))).run P w = .ok l w
  | [], l, h, w => by simp only [aPlaces, Option.some.injEq] at h; subst h; rfl
  | f :: r, l, h, w => by
    simp only [aPlaces] at h
    split at h
    · rename_i n l2 hn hl
      simp only [Option.some.injEq] at h; subst h
      simp [List.mapM_cons, run_sizeOf' hn, aPlaces_ok r l2 hl w]
    · cases h

def aBuild (P : Program) (t : TypeId) (parts : List (Nat × Value)) : Option Value :=
  match aZero P t, P.underlying t with
  | some z, some (.struct fields) => match plain z, aPlaces P fields.toList with
    | true, some places => match aFill (places[·]?) z.cells.toList parts with
      | some l => some (.agg l.toArray)
      | none => none
    | _, _ => none
  | some z, some (.array _ elem) => match plain z, aSize P elem with
    | true, some size => match aFill (fun i => some (i * size, size)) z.cells.toList parts with
      | some l => some (.agg l.toArray)
      | none => none
    | _, _ => none
  | _, _ => none

theorem aBuild_ok {t : TypeId} {parts : List (Nat × Value)} {parts' : Array (Nat × Value)} (hp : PR F parts parts'.toList) {v : Value} (h : aBuild P t parts = some v) (w : World) :
    ∃ v', (Instr.build t parts').run P w = .ok v' w ∧ VR F v v' := by
  unfold aBuild at h
  split at h
  · rename_i z fields hz hu
    split at h
    · rename_i places hpl hplaces
      split at h
      · rename_i l hl
        simp only [Option.some.injEq] at h; subst h
        have hz2 := ((VR.plain_eq (F := F) z z hpl).2 rfl).cells (plain_top hpl)
        obtain ⟨r', hr, hv⟩ := aFill_ok _ _ _ _ z.cells l hz2 hp hl
        refine ⟨.agg r', ?_, by simp only [VR]; exact ⟨r', VRA.ofL (by simpa using hv), rfl⟩⟩
        have hm : (fields.mapM fun f => (do pure (f.offset, ← sizeOf f.type) : Sem (Nat × Nat))).run P w = .ok places.toArray w := by
          rw [Array.mapM_eq_mapM_toList]
          simp [aPlaces_ok _ _ hplaces w]
        simp only [Instr.build, Sem.run_bind, run_zeroValue hz, Result.andThen_ok, run_underlying hu]
        rw [hm]
        simp only [Result.andThen_ok]
        have e : (fun x : Nat => places.toArray[x]?) = (fun x : Nat => places[x]?) := by funext x; simp
        rw [e, hr]; rfl
      · cases h
    · cases h
  · rename_i z n elem hz hu
    split at h
    · rename_i size hpl hs
      split at h
      · rename_i l hl
        simp only [Option.some.injEq] at h; subst h
        have hz2 := ((VR.plain_eq (F := F) z z hpl).2 rfl).cells (plain_top hpl)
        obtain ⟨r', hr, hv⟩ := aFill_ok _ _ _ _ z.cells l hz2 hp hl
        refine ⟨.agg r', ?_, by simp only [VR]; exact ⟨r', VRA.ofL (by simpa using hv), rfl⟩⟩
        simp only [Instr.build, Sem.run_bind, run_zeroValue hz, Result.andThen_ok, run_underlying hu, run_sizeOf' hs, hr]
        rfl
      · cases h
    · cases h
  · cases h

/-! ### Rows of zeros -/
def aZeros (zs : List Value) (n : Nat) : List Value := match zs with
  | [z] => List.replicate n z
  | zs => (List.range n).map fun i => zs.getD (i % zs.length) default
theorem plainL_get {l : List Value} (h : plainL l = true) (i : Nat) : plain (l.getD i default) = true := by
  induction l generalizing i with
  | nil => rfl
  | cons v r ih =>
    simp only [plainL, Bool.and_eq_true] at h
    cases i with
    | zero => exact h.1
    | succ i => simpa using ih h.2 i
theorem plainL_map {α : Type} (f : α → Value) (hf : ∀ x, plain (f x) = true) : ∀ l : List α, plainL (l.map f) = true
  | [] => rfl
  | x :: l => by simp only [List.map_cons, plainL, hf x, Bool.true_and]; exact plainL_map f hf l
theorem plainA_list {c : Array Value} (h : plainA c = true) : plainL c.toList = true := by cases c; exact h
theorem plain_cells {v : Value} (h : plain v = true) : plainL v.cells.toList = true := by
  cases v <;> first
    | (simp only [Value.cells, plainL, Bool.and_true]; exact h)
    | (simp only [plain] at h; exact plainA_list h)
theorem plainL_replicate {z : Value} (h : plain z = true) : ∀ n : Nat, plainL (List.replicate n z) = true
  | 0 => rfl
  | n + 1 => by rw [List.replicate_succ, plainL, h, plainL_replicate h n]; rfl
theorem aZeros_plain {zs : List Value} (h : plainL zs = true) (n : Nat) : plainL (aZeros zs n) = true := by
  unfold aZeros
  split
  · simp only [plainL, Bool.and_true] at h; exact plainL_replicate h n
  · exact plainL_map _ (fun _ => plainL_get h _) _
theorem aZeros_eq (z : Array Value) (n : Nat) : ((Array.range n).map (z[· % z.size]!)).toList = aZeros z.toList n := by
  have key : ((Array.range n).map (z[· % z.size]!)).toList = (List.range n).map fun i => z.toList.getD (i % z.toList.length) default := by
    simp only [Array.toList_map, Array.toList_range]
    refine List.map_congr_left fun i _ => ?_
    simp [Array.getElem!_eq_getD, Array.getD_eq_getD_getElem?]
  rw [key]
  unfold aZeros
  split
  · rename_i v e
    rw [e]
    apply List.ext_getElem?
    intro i
    rw [List.getElem?_map, List.getElem?_replicate]
    by_cases hi : i < n
    · rw [List.getElem?_range hi, if_pos hi]; simp [Nat.mod_one]
    · rw [List.getElem?_eq_none (by simpa using hi), if_neg hi]; rfl
  · rfl

theorem zeros_run {α : Type} {n : Nat} {elem : TypeId} {z : Value} (hz : aZero P elem = some z) (K : Array Value → Sem α) (w : World) :
    (if n = 0 then (do let zero ← pure #[]; K zero) else (do let x ← zeroValue elem; let zero ← pure x.cells; K zero) : Sem α).run P w = (K (if n = 0 then #[] else z.cells)).run P w := by
  by_cases h : n = 0 <;> simp [h, run_zeroValue hz]
def aZeros0 (zs : List Value) (n : Nat) : List Value := match n with | 0 => [] | _ => aZeros zs n
theorem zeros_VRL {z : Value} (hp : plain z = true) (n : Nat) :
    VRL F (aZeros0 z.cells.toList n) ((Array.range n).map ((if n = 0 then #[] else z.cells)[· % (if n = 0 then #[] else z.cells).size]!)).toList := by
  by_cases h : n = 0
  · subst h; simp [aZeros0, VRL]
  · have : aZeros0 z.cells.toList n = aZeros z.cells.toList n := by unfold aZeros0; split <;> simp_all
    rw [this, if_neg h, aZeros_eq]
    exact (VRL.plain_eq _ _ (aZeros_plain (plain_cells hp) _)).2 rfl

/-- A new slice out of a row. -/
def aNewSlice (H : Heap) (elem : TypeId) (sz : Nat) (l : List Value) (len cap : Nat) : Value × Heap :=
  (.slice (some ⟨H.next, 0, none⟩) len cap, H.push (.cells l elem sz false true))
theorem aNewSlice_ok (R : Rel G F H w0 w) {elem : TypeId} {sz : Nat} {l : List Value} {c : Array Value} (hl : VRL F l c.toList) (len cap : Nat) :
    OpOK P G F w0 w (do pure (.slice (some (← newRow elem c)) len cap)) (aNewSlice H elem sz l len cap).1 (aNewSlice H elem sz l len cap).2 := by
  have hlen := hl.length
  simp only [Array.length_toList] at hlen
  obtain ⟨hle, R'⟩ := R.push (vs := l) (c := c) (elem := elem) (sz := sz) (d := 0) (lo := false) (0, 0)
    (by rw [List.take_of_length_le (by simp [hlen])]; exact hl) (by simp [hlen]) (fun _ => ⟨rfl, hlen, rfl⟩) (by intro i _; simp)
  refine ⟨_, .slice (some ⟨w.heap.size, 0, none⟩) len cap, _, hle, by simp [newRow], ?_, R'⟩
  simp only [aNewSlice, VR]; exact ⟨⟨w.heap.size, 0, none⟩, 0, 0, Nm.with_self _ _ _, rfl, rfl, rfl⟩

def aBuildSlice (P : Program) (H : Heap) (t : TypeId) (len : Nat) (parts : List (Nat × Value)) : Option (Value × Heap) :=
  match P.underlying t with
  | some (.slice elem) => match aSize P elem, aZero P elem with
    | some size, some z => match Nat.ble (len * size) 16777216 && plain z with
      | true => match aFill (fun i => some (i * size, size)) (aZeros0 z.cells.toList (len * size)) parts with
        | some l => some (aNewSlice H elem size l len len)
        | none => none
      | false => none
    | _, _ => none
  | _ => none
theorem aBuildSlice_ok (R : Rel G F H w0 w) {t : TypeId} {len : Nat} {parts : List (Nat × Value)} {parts' : Array (Nat × Value)} (hp : PR F parts parts'.toList) {r : Value × Heap}
    (h : aBuildSlice P H t len parts = some r) : OpOK P G F w0 w (Instr.buildSlice t len parts') r.1 r.2 := by
  unfold aBuildSlice at h
  split at h
  · rename_i elem hu
    split at h
    · rename_i size z hs hz
      split at h
      · rename_i hc
        split at h
        · rename_i l hl
          simp only [Option.some.injEq] at h; subst h
          simp only [Bool.and_eq_true] at hc
          have hle := Nat.le_of_ble_eq_true hc.1
          obtain ⟨r', hr, hv'⟩ := aFill_ok _ _ _ _ _ l (zeros_VRL (F := F) hc.2 (len * size)) hp hl
          obtain ⟨F', v', w', h1, h2, h3, h4⟩ := aNewSlice_ok (P := P) R (elem := elem) (sz := size) hv' len len
          refine ⟨F', v', w', h1, ?_, h3, h4⟩
          simp only [Instr.buildSlice, Sem.run_bind, run_underlying hu, Result.andThen_ok, run_sizeOf' hs]
          rw [if_neg (by omega)]
          rw [zeros_run (P := P) hz]
          rw [hr]; exact h2
        · cases h
      · cases h
    · cases h
  · cases h

def tops : Nat := 140737488355328
def aMakeSlice (P : Program) (H : Heap) (t : TypeId) (len cap : Value) : Option (Value × Heap) :=
  match P.underlying t, len, cap with
  | some (.slice elem), .int _ l, .int _ c => match P.info? elem with
    | some i => match decide (0 ≤ l) && decide (l ≤ c) && Nat.ble c.toNat 1099511627776 && Nat.ble (c.toNat * i.bytes) tops with
      | true => match i.zero with
        | some z => match plain z with
          | true => some (aNewSlice H elem i.size (aZeros0 z.cells.toList (c.toNat * i.size)) l.toNat c.toNat)
          | false => none
        | none => none
      | false => none
    | none => none
  | _, _, _ => none
theorem wrap_small {l : Int} (h : 0 ≤ l) (h2 : l ≤ 1099511627776) : IntKind.i64.wrap l = l := by
  simp [IntKind.wrap, IntKind.bits, IntKind.signed]; omega
theorem aMakeSlice_ok (R : Rel G F H w0 w) {t : TypeId} {len cap : Value} {r : Value × Heap} (h : aMakeSlice P H t len cap = some r) :
    OpOK P G F w0 w (Instr.makeSlice t len cap) r.1 r.2 := by
  unfold aMakeSlice at h
  split at h
  · rename_i elem k1 l k2 c hu
    split at h
    · rename_i i hi
      split at h
      · rename_i hc
        split at h
        · rename_i z hz
          split at h
          · rename_i hp
            simp only [Option.some.injEq] at h; subst h
            simp only [Bool.and_eq_true, decide_eq_true_eq] at hc
            obtain ⟨⟨⟨h1, h2⟩, h3⟩, h4⟩ := hc
            have h3 := Nat.le_of_ble_eq_true h3
            have h4 := Nat.le_of_ble_eq_true h4
            unfold tops at h4
            have hl : IntKind.i64.wrap l = l := wrap_small h1 (by omega)
            have hcw : IntKind.i64.wrap c = c := wrap_small (by omega) (by omega)
            have hz' : aZero P elem = some z := by simp [aZero, hi, hz]
            have hsz : aSize P elem = some i.size := by simp [aSize, hi]
            obtain ⟨F', v', w', g1, g2, g3, g4⟩ := aNewSlice_ok (P := P) R (elem := elem) (sz := i.size) (zeros_VRL (F := F) hp (c.toNat * i.size)) l.toNat c.toNat
            refine ⟨F', v', w', g1, ?_, g3, g4⟩
            have hb1 : (i.bytes : Int) * c ≤ 2 ^ 47 := by
              have : ((c.toNat * i.bytes : Nat) : Int) ≤ 140737488355328 := by omega
              rw [Int.natCast_mul, Int.toNat_of_nonneg (by omega)] at this
              rw [Int.mul_comm]; omega
            have ht : ((decide (c < 0) || decide ((i.bytes : Int) * c > 2 ^ 48)) || decide (l < 0) || decide (l > c)) = false := by
              simp only [Bool.or_eq_false_iff, decide_eq_false_iff_not]
              refine ⟨⟨⟨by omega, ?_⟩, by omega⟩, by omega⟩
              have : (2 : Int) ^ 47 ≤ 2 ^ 48 := by decide
              omega
            simp only [Instr.makeSlice, Sem.run_bind, run_underlying hu, Result.andThen_ok, asInt, asIntOf, Sem.run_pure, run_typeInfo hi, hl, hcw]
            rw [ht]
            simp only [Bool.false_eq_true, if_false, Sem.run_bind, run_askRoom, Result.andThen_ok, run_sizeOf' hsz]
            rw [zeros_run (P := P) hz']
            exact g2
          · cases h
        · cases h
      · cases h
    · cases h
  · cases h
end
end
end Go.Abs
