/- The cells that a reading tells of, by their kinds. -/
import Derived.Test.YtblbaohcelldpaaGreatWC
import Derived.WalkKit
import Derived.ProofKit
import Derived.OpenShut
import Derived.Carry
import Derived.Deep.Slices
import Derived.Deep.Fields
import Derived.SizedLaws
namespace Go.Abs
open Go Go.ChangeShapes Go.WideShapes Go.ChangeAt Go.RowKit Go.Deep
set_option linter.unusedVariables false
inductive CK
  | int (k : IntKind)
  | str
  | bool
  | sl (t : TypeId)
def flatF (P : Program) (rec : TypeId → Option (List CK)) : Nat → List Field → Option (List CK)
  | _, [] => some []
  | off, f :: fs => match Nat.beq f.offset off, rec f.type with
    | true, some l => match Nat.beq l.length (P.cellsOf f.type), flatF P rec (off + l.length) fs with
      | true, some l' => some (l ++ l')
      | _, _ => none
    | _, _ => none
def flatK (P : Program) : Nat → TypeId → Option (List CK)
  | 0, _ => none
  | d + 1, t => match P.underlying t with
    | some (.int k) => some [.int k]
    | some .bool => some [.bool]
    | some .string => some [.str]
    | some (.slice _) => some [.sl t]
    | some (.struct fs) => match flatF P (flatK P d) 0 fs.toList with
      | some l => match Nat.beq l.length (P.cellsOf t) with
        | true => some l
        | false => none
      | none => none
    | _ => none
section
variable {H : Type} (enc : TypeId × Value → H) (P : Program) (W : World) (base : Nat) (spare : Nat → Bool) (held : Bool)
def CkOk : CK → Value → Prop
  | .int k, v => ∃ z, v = .int k z ∧ (Lit.int k z).wf = true
  | .str, v => ∃ s : ByteArray, v = .string s ∧ s.size ≤ maxLen
  | .bool, v => ∃ b, v = .bool b
  | .sl t, v => ∃ fuel x, DataW.trod enc P W base spare held fuel t [v] = some x ∧ ∀ n ∈ x.1.weights P t, n ≤ reachBytes
def CksOk : List CK → List Value → Prop
  | [], vs => vs = []
  | k :: ks, vs => ∃ v r, vs = v :: r ∧ CkOk enc P W base spare held k v ∧ CksOk ks r
variable {enc P W base spare held}
theorem CksOk.append : ∀ {ks ks' : List CK} {vs vs' : List Value}, CksOk enc P W base spare held ks vs → CksOk enc P W base spare held ks' vs' → CksOk enc P W base spare held (ks ++ ks') (vs ++ vs')
  | [], ks', vs, vs', h, h' => by simp only [CksOk] at h; subst h; exact h'
  | k :: ks, ks', vs, vs', ⟨v, r, e, h1, h2⟩, h' => by subst e; exact ⟨v, r ++ vs', rfl, h1, h2.append h'⟩
theorem flatF_ok {n : Nat} {rec : TypeId → Option (List CK)} {cs : List Value}
    (hrec : ∀ t ks, rec t = some ks → ∀ fuel cs x, DataW.trod enc P W base spare held fuel t cs = some x → (∀ n ∈ x.1.weights P t, n ≤ reachBytes) → CksOk enc P W base spare held ks cs) :
    ∀ (gs : List Field) (ys : List (DataW H × List MemPlace)) (off : Nat) (ks : List CK), flatF P rec off gs = some ks → ys.length = gs.length →
      (∀ (i : Nat) (f : Field), gs[i]? = some f → DataW.trod enc P W base spare held n f.type ((cs.drop f.offset).take (P.cellsOf f.type)) = ys[i]?) →
      (∀ m ∈ DataW.weightsEach P (gs.map (·.type)) (ys.map (·.1)), m ≤ reachBytes) → CksOk enc P W base spare held ks ((cs.drop off).take ks.length)
  | [], ys, off, ks, h, hl, ht, hw => by simp only [flatF, Option.some.injEq] at h; subst h; simp [CksOk]
  | f :: gs, [], off, ks, h, hl, ht, hw => by simp at hl
  | f :: gs, y :: ys, off, ks, h, hl, ht, hw => by
    unfold flatF at h
    split at h
    · rename_i l ho hr
      split at h
      · rename_i l' hlen hr'
        simp only [Option.some.injEq] at h; subst h
        have ho := Nat.eq_of_beq_eq_true ho
        have hlen := Nat.eq_of_beq_eq_true hlen
        have h0 := ht 0 f rfl
        rw [ho, ← hlen] at h0
        have hw0 : ∀ m ∈ y.1.weights P f.type, m ≤ reachBytes := fun m hm => hw m (by simp only [List.map_cons, DataW.weightsEach, List.mem_append]; exact .inl hm)
        have r1 := hrec _ _ hr n _ y (by simpa using h0) hw0
        have r2 := flatF_ok hrec gs ys (off + l.length) l' hr' (by simpa using hl) (fun i g hg => by simpa using ht (i + 1) g (by simpa using hg))
          (fun m hm => hw m (by simp only [List.map_cons, DataW.weightsEach, List.mem_append]; exact .inr hm))
        rw [List.length_append, List.take_add, List.drop_drop]
        exact r1.append r2
      · cases h
    · cases h
theorem flat_ok : ∀ (d : Nat) (t : TypeId) (ks : List CK), flatK P d t = some ks → ∀ fuel cs x, DataW.trod enc P W base spare held fuel t cs = some x → (∀ n ∈ x.1.weights P t, n ≤ reachBytes) → CksOk enc P W base spare held ks cs
  | 0, t, ks, h => by cases h
  | d + 1, t, ks, h => by
    intro fuel cs x hx hw
    unfold flatK at h
    split at h
    · rename_i k hu
      simp only [Option.some.injEq] at h; subst h
      obtain ⟨z, e, _, hwf⟩ := DataW.trod_int hu hx
      exact ⟨_, [], e, ⟨z, rfl, hwf⟩, rfl⟩
    · rename_i hu
      simp only [Option.some.injEq] at h; subst h
      obtain ⟨b, e, _⟩ := DataW.trod_bool hu hx
      exact ⟨_, [], e, ⟨b, rfl⟩, rfl⟩
    · rename_i hu
      simp only [Option.some.injEq] at h; subst h
      obtain ⟨s, e, _, hs⟩ := DataW.trod_string hu hx
      exact ⟨_, [], e, ⟨s, rfl, hs⟩, rfl⟩
    · rename_i e' hu
      simp only [Option.some.injEq] at h; subst h
      rcases open_slice hu hx with ⟨e, _⟩ | ⟨a, len, cap, m, n, D, Pl, e, _⟩
      · subst e; exact ⟨_, [], rfl, ⟨fuel, x, hx, hw⟩, rfl⟩
      · subst e; exact ⟨_, [], rfl, ⟨fuel, x, hx, hw⟩, rfl⟩
    · rename_i fs hu
      split at h
      · rename_i l hl
        split at h
        · rename_i hlen
          simp only [Option.some.injEq] at h; subst h
          have hlen := Nat.eq_of_beq_eq_true hlen
          obtain ⟨xs, n, _, ex, hcl, hxl, hf⟩ := DataW.trod_struct hu hx
          subst ex
          have := flatF_ok (cs := cs) (n := n) (fun t ks h => flat_ok d t ks h) fs.toList xs 0 l hl (by simpa using hxl) (fun i f hi => hf i f (by simpa using hi)) (fun m hm => hw m (by simp only [DataW.weights, hu]; exact hm))
          rw [List.drop_zero, hlen, ← hcl, List.take_length] at this
          exact this
        · cases h
      · cases h
    · cases h
end
noncomputable section
def deepN (W : World) : Nm := ⟨fun n => if n < 100 then some (n, 0, 0) else none, (allOf W).z⟩
theorem deep_rel (W : World) : Rel 100 (deepN W) (hOf 100 [] []) (allOf W) W := by
  have hno : ∀ m o', (hOf 100 [] []).get m ≠ some o' := by
    intro m o' h
    obtain ⟨_, h2, _⟩ := hOf_at h
    simp only [List.length_nil] at h2; omega
  constructor
  · intro n o h; exact absurd h (hno n o)
  · intro n m o o' h; exact absurd h (hno n o)
  · intro n hn
    have hn : 100 + 0 ≤ n := hn
    show (if n < 100 then some (n, 0, 0) else none) = none
    rw [if_neg (by omega)]
  · intro g hg
    show (if g < 100 then some (g, 0, 0) else none) = _
    rw [if_pos hg]
  · exact Nat.le_refl _
  · intro i _; rfl
  · intro b i v hz
    refine ⟨?_, fun n o h => absurd h (hno n o)⟩
    have hz : (match W.heap[b]? with | some (.cells c _ _) => c[i]? | _ => none) = some v := hz
    split at hz
    · rename_i c t fz hw; exact ⟨c, t, fz, hw, hz⟩
    · cases hz
  · intro b i v hz _; exact hz
  · rfl
  · rfl
  · rfl
theorem z_cell {W : World} {b i : Nat} {v : Value} (h : W.cell? ⟨b, i, none⟩ = some v) : (deepN W).z b i = some v := by
  show (match W.heap[b]? with | some (.cells c _ _) => c[i]? | _ => none) = some v
  unfold World.cell? at h
  split at h
  · rename_i c t fz hw
    rw [hw]
    simpa using h
  · cases h
theorem wAll_mem {H : Type} {P : Program} {e : TypeId} {d : DataW H} {n : Nat} (hn : n ∈ d.weights P e) : ∀ {l : List (DataW H)}, d ∈ l → n ∈ DataW.weightsAll P e l
  | [], h => by cases h
  | x :: l, h => by
    simp only [DataW.weightsAll, List.mem_append]
    rcases List.mem_cons.1 h with e | h
    · subst e; exact .inl hn
    · exact .inr (wAll_mem hn h)
theorem cks_len {H : Type} {enc : TypeId × Value → H} {P : Program} {W : World} {base : Nat} {spare : Nat → Bool} {held : Bool} : ∀ {ks : List CK} {cs : List Value}, CksOk enc P W base spare held ks cs → cs.length = ks.length
  | [], cs, h => by simp only [CksOk] at h; subst h; rfl
  | k :: ks, cs, ⟨v, r, e, _, h2⟩ => by subst e; simp [cks_len h2]
theorem deep_slice {H : Type} {enc : TypeId × Value → H} {P : Program} {W : World} {t e : TypeId} {ks : List CK} {d : Nat} (hu : P.underlying t = some (.slice e)) (he : flatK P d e = some ks) (hc : P.cellsOf e = ks.length) (hpos : 0 < ks.length)
    (hby : 0 < P.bytesOf e) (hpl : ∀ cs, CksOk enc P W 0 (fun _ => true) true ks cs → plainL cs = true) {v : Value} (h : CkOk enc P W 0 (fun _ => true) true (.sl t) v) :
    ∃ rows : List (List Value), (∀ r ∈ rows, CksOk enc P W 0 (fun _ => true) true ks r) ∧ rows.length ≤ 140737488355328 ∧ VR (deepN W) (.iface mkD (.agg ⟨rows.map fun r => .agg ⟨r⟩⟩)) v := by
  obtain ⟨fuel, x, hx, hw⟩ := h
  rcases open_slice hu hx with ⟨e0, _⟩ | ⟨a, len, cap, m, n, D, Pl, hcs, hb, hl, hm, hmm, hxx, hi⟩
  · simp only [List.cons.injEq, and_true] at e0
    subst e0
    exact ⟨[], fun r hr => (by cases hr), by simp, VR.D_nil _ _⟩
  · simp only [List.cons.injEq, and_true] at hcs
    subst hcs
    simp only [if_true] at hmm
    subst hmm
    have hweights : ∀ k ∈ (len + (m - len)) * P.bytesOf e :: (DataW.weightsAll P e ((List.range len).map D) ++ DataW.weightsAll P e ((List.range (m - len)).map fun j => D (len + j))), k ≤ reachBytes := by
      intro k hk
      refine hw k ?_
      rw [hxx]
      simp only [DataW.weights, hu, List.length_map, List.length_range]
      exact hk
    have hcap : m ≤ 140737488355328 := by
      have h1 := hweights _ (List.mem_cons_self ..)
      rw [show len + (m - len) = m by omega] at h1
      have h2 : m * 1 ≤ m * P.bytesOf e := Nat.mul_le_mul_left m hby
      unfold reachBytes at h1
      omega
    rw [hc] at hi
    have hrow : ∀ i, i < len → ∃ r : List Value, CksOk enc P W 0 (fun _ => true) true ks r ∧ ∀ j, j < ks.length → W.cell? ((a.add (i * ks.length)).add j) = r[j]? := by
      intro i hil
      obtain ⟨cs', hc1, hc2⟩ := hi i (by omega)
      obtain ⟨_, _, hat⟩ := World.cells?_some hc1
      have hD : ∀ k ∈ (D i).weights P e, k ≤ reachBytes := by
        intro k hk
        exact hweights k (List.mem_cons_of_mem _ (List.mem_append.2 (.inl (wAll_mem hk (List.mem_map.2 ⟨i, List.mem_range.2 hil, rfl⟩)))))
      exact ⟨cs', flat_ok d e _ he _ _ _ hc2 hD, hat⟩
    rcases Nat.eq_zero_or_pos len with c | c
    · subst c
      exact ⟨[], fun r hr => (by cases hr), by simp, VR.D_nil _ _⟩
    · have hsp : a.spot = none := by
        obtain ⟨r, hr, hx0⟩ := hrow 0 c
        have h0 := hx0 0 hpos
        have hrl := cks_len hr
        cases hs : a.spot with
        | none => rfl
        | some z =>
          have e1 : (a.add (0 * ks.length)).add 0 = a := by simp [Addr.add]
          rw [e1] at h0
          have : W.cell? a = none := by
            unfold World.cell?; split
            · simp [hs]
            · rfl
          rw [this] at h0
          have : r[0]? ≠ none := by rw [List.getElem?_eq_getElem (by omega)]; simp
          exact absurd h0.symm this
      obtain ⟨blk, o, sp⟩ := a
      simp only at hsp; subst hsp
      simp only [Addr.add_none] at hrow
      let f : Nat → List Value := fun i => if h : i < len then Classical.choose (hrow i h) else []
      have hfs : ∀ i, i < len → CksOk enc P W 0 (fun _ => true) true ks (f i) ∧ ∀ j, j < ks.length → W.cell? ⟨blk, o + i * ks.length + j, none⟩ = (f i)[j]? := by
        intro i hi'
        have : f i = Classical.choose (hrow i hi') := by simp only [f, dif_pos hi']
        rw [this]; exact Classical.choose_spec (hrow i hi')
      have hlen : ((List.range len).map f).length = len := by simp
      refine ⟨(List.range len).map f, fun r hr => ?_, by rw [hlen]; omega, ?_⟩
      · obtain ⟨i, h1, rfl⟩ := List.mem_map.1 hr
        exact (hfs i (List.mem_range.1 h1)).1
      · have hpl2 : plainL (((List.range len).map f).map fun r => Value.agg ⟨r⟩) = true := by
          have key : ∀ l : List (List Value), (∀ r ∈ l, plainL r = true) → plainL (l.map fun r => Value.agg ⟨r⟩) = true := by
            intro l
            induction l with
            | nil => intro _; rfl
            | cons r l ih =>
              intro h
              simp only [List.map_cons, plainL, plain, plainA, Bool.and_eq_true]
              exact ⟨h r (List.mem_cons_self ..), ih fun r hr => h r (List.mem_cons_of_mem _ hr)⟩
          refine key _ fun r hr => ?_
          obtain ⟨i, h1, rfl⟩ := List.mem_map.1 hr
          exact hpl _ (hfs i (List.mem_range.1 h1)).1
        have hl2 : (((List.range len).map f).map fun r => Value.agg ⟨r⟩).length = len := by simp
        have := VR.D_mk (F := deepN W) (rows := ((List.range len).map f).map fun r => Value.agg ⟨r⟩) (rows' := ((List.range len).map f).map fun r => Value.agg ⟨r⟩) (a := ⟨blk, o, none⟩) (c := m) (sz := ks.length) ((VRL.plain_eq _ _ hpl2).2 rfl) (by rw [hl2]; exact hl) rfl hpos (fun i r hr => by
          rw [List.getElem?_map, List.getElem?_map] at hr
          cases hri : (List.range len)[i]? with
          | none => rw [hri] at hr; cases hr
          | some k =>
            rw [hri] at hr
            simp only [Option.map_some, Option.some.injEq] at hr
            have hik : i < len := by
              have := (List.getElem?_eq_some_iff.1 hri).1
              simpa using this
            rw [List.getElem?_range hik] at hri
            simp only [Option.some.injEq] at hri; subst hri
            obtain ⟨h1, h2⟩ := hfs i hik
            have hfl := cks_len h1
            refine ⟨f i, hr.symm, hfl, fun j y hj => z_cell ?_⟩
            have hjl : j < ks.length := by rw [← hfl]; exact (List.getElem?_eq_some_iff.1 hj).1
            rw [h2 j hjl, hj])
        rw [hl2] at this
        exact this
theorem deep_walk {P : Program} {f : FuncId} {args : List Value} {args' : Array Value} {H' : Heap} {W : World} (hc : CallH P 100 (allOf W) f args (hOf 100 [] []) (.returned (.bool true)) H') (ha : VRL (deepN W) args args'.toList) :
    Calls P f args' W fun e w' => e = .returned (.bool true) ∧ Below W.heap.size W w' := by
  refine (hc (deepN W) W args' (deep_rel W) ha).mono fun e' w' ⟨F', h1, h2, R'⟩ => ?_
  simp only [EnR] at h2
  obtain ⟨v', h3, h4⟩ := h2
  simp only [VR] at h3
  subst h3
  exact ⟨h4, R'.os, R'.tape, R'.out, R'.base, fun k hk => R'.frame k hk⟩
theorem vr_cons {F : Nm} {v v' : Value} {l l' : List Value} (h : VR F v v') (h' : VRL F l l') : VRL F (v :: l) (v' :: l') := by simp only [VRL]; exact ⟨_, _, h, h', rfl⟩
theorem vr_nil {F : Nm} : VRL F [] [] := by simp only [VRL]
theorem vr_int {F : Nm} {k : IntKind} {n : Int} : VR F (.int k n) (.int k n) := by simp only [VR]
theorem vr_str {F : Nm} {s : ByteArray} : VR F (.string s) (.string s) := by simp only [VR]
theorem vr_bool {F : Nm} {s : Bool} : VR F (.bool s) (.bool s) := by simp only [VR]
theorem vr_agg {F : Nm} {l l' : List Value} (h : VRL F l l') : VR F (.agg ⟨l⟩) (.agg ⟨l'⟩) := VR.ofAggL h
theorem wf_u8 {z : Int} (h : (Lit.int .u8 z).wf = true) : ∃ m : Nat, z = m ∧ m < 256 := by
  simp [Lit.wf, IntKind.min, IntKind.max, IntKind.signed, IntKind.bits] at h
  exact ⟨z.toNat, by omega, by omega⟩
theorem wf_u32 {z : Int} (h : (Lit.int .u32 z).wf = true) : ∃ m : Nat, z = m ∧ m < 4294967296 := by
  simp [Lit.wf, IntKind.min, IntKind.max, IntKind.signed, IntKind.bits] at h
  exact ⟨z.toNat, by omega, by omega⟩
theorem wf_u64 {z : Int} (h : (Lit.int .u64 z).wf = true) : ∃ m : Nat, z = m ∧ m < 18446744073709551616 := by
  simp [Lit.wf, IntKind.min, IntKind.max, IntKind.signed, IntKind.bits] at h
  exact ⟨z.toNat, by omega, by omega⟩
theorem rows_of {α : Type} {c : α → List Value} {wf : α → Prop} {rows : List (List Value)} (h : ∀ r ∈ rows, ∃ x : α, r = c x ∧ wf x) : ∃ l : List α, rows = l.map c ∧ ∀ x ∈ l, wf x := by
  induction rows with
  | nil => exact ⟨[], rfl, fun x hx => by cases hx⟩
  | cons r rows ih =>
    obtain ⟨x, rfl, hx⟩ := h r (List.mem_cons_self ..)
    obtain ⟨l, rfl, hl⟩ := ih fun r hr => h r (List.mem_cons_of_mem _ hr)
    refine ⟨x :: l, rfl, fun y hy => ?_⟩
    rcases List.mem_cons.1 hy with rfl | hy
    · exact hx
    · exact hl y hy
end
end Go.Abs
