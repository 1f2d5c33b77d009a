/- Numbers, attributes, lists, as bytes: what the document says of them, in Lean. -/
import Derived.Test.YtblbaohcelldpaaGreatWB
import Derived.Test.YtblbaohcelldpaaGreatN1
import Derived.Test.YtblbaohcelldpaaGreatWC
namespace Go.Tlv
open Go Go.Abs
set_option linter.unusedVariables false
def numB (n : Nat) : List UInt8 := if h : n = 0 then [] else numB (n / 256) ++ [UInt8.ofNat (n % 256)]
termination_by n
decreasing_by omega
theorem numB_zero : numB 0 = [] := by rw [numB]; rfl
theorem numB_pos {n : Nat} (h : 0 < n) : numB n = numB (n / 256) ++ [UInt8.ofNat (n % 256)] := by rw [numB, dif_neg (by omega)]
def valF (a : Nat) (l : List UInt8) : Nat := l.foldl (fun a b => a * 256 + b.toNat) a
def valB (l : List UInt8) : Nat := valF 0 l
theorem valF_app (a : Nat) (l m : List UInt8) : valF a (l ++ m) = valF (valF a l) m := by simp [valF, List.foldl_append]
theorem valB_snoc (l : List UInt8) (b : UInt8) : valB (l ++ [b]) = valB l * 256 + b.toNat := by simp [valB, valF, List.foldl_append]
theorem valF_bound (l : List UInt8) : ∀ a, valF a l < (a + 1) * 256 ^ l.length := by
  induction l with
  | nil => intro a; simp [valF]
  | cons b l ih =>
    intro a
    have h := ih (a * 256 + b.toNat)
    have hb := b.toNat_lt
    show valF (a * 256 + b.toNat) l < _
    rw [List.length_cons, Nat.pow_succ]
    calc valF (a * 256 + b.toNat) l < (a * 256 + b.toNat + 1) * 256 ^ l.length := h
      _ ≤ ((a + 1) * 256) * 256 ^ l.length := Nat.mul_le_mul_right _ (by omega)
      _ = (a + 1) * (256 ^ l.length * 256) := by rw [Nat.mul_assoc, Nat.mul_comm 256]
theorem valB_bound (l : List UInt8) : valB l < 256 ^ l.length := by have := valF_bound l 0; simpa [valB] using this
theorem valB_numB (n : Nat) : valB (numB n) = n := by
  induction n using Nat.strongRecOn with
  | _ n ih =>
    rcases Nat.eq_zero_or_pos n with h | h
    · subst h; rw [numB_zero]; rfl
    · rw [numB_pos h, valB_snoc, ih _ (by omega)]
      have : (UInt8.ofNat (n % 256)).toNat = n % 256 := by simp
      rw [this]; omega
theorem numB_nil {n : Nat} : numB n = [] ↔ n = 0 := by
  constructor
  · intro h
    rcases Nat.eq_zero_or_pos n with h0 | h0
    · exact h0
    · rw [numB_pos h0] at h; simp at h
  · intro h; subst h; exact numB_zero
theorem numB_head {n : Nat} {b : UInt8} (h : (numB n)[0]? = some b) : b ≠ 0 := by
  induction n using Nat.strongRecOn with
  | _ n ih =>
    rcases Nat.eq_zero_or_pos n with h0 | h0
    · subst h0; rw [numB_zero] at h; simp at h
    · rw [numB_pos h0] at h
      rcases Nat.eq_zero_or_pos (n / 256) with h1 | h1
      · rw [h1, numB_zero] at h
        simp at h; subst h
        intro hc
        have := congrArg UInt8.toNat hc
        simp at this; omega
      · refine ih (n / 256) (by omega) ?_
        have hne : numB (n / 256) ≠ [] := fun e => by rw [numB_nil] at e; omega
        rw [List.getElem?_append_left (List.length_pos_iff.2 hne)] at h; exact h
theorem numB_len {n k : Nat} (h : n < 256 ^ k) : (numB n).length ≤ k := by
  induction k generalizing n with
  | zero => have : n = 0 := by simpa using h
            subst this; rw [numB_zero]; simp
  | succ k ih =>
    rcases Nat.eq_zero_or_pos n with h0 | h0
    · subst h0; rw [numB_zero]; simp
    · rw [numB_pos h0, List.length_append, List.length_singleton]
      have := ih (n := n / 256) (by rw [Nat.pow_succ] at h; exact Nat.div_lt_of_lt_mul (by rw [Nat.mul_comm]; exact h))
      omega
theorem numB_valB : ∀ (l : List UInt8), l[0]? ≠ some 0 → numB (valB l) = l := by
  intro l
  induction hn : l.length using Nat.strongRecOn generalizing l with
  | _ n ih =>
    intro h0
    rcases List.eq_nil_or_concat l with e | ⟨m, b, e⟩
    · subst e; show numB 0 = []; exact numB_zero
    · rw [List.concat_eq_append] at e
      subst e
      rw [valB_snoc]
      have hb := b.toNat_lt
      by_cases hm : m = []
      · subst hm
        have hb0 : b ≠ 0 := by simpa using h0
        have : 0 < b.toNat := by
          rcases Nat.eq_zero_or_pos b.toNat with h | h
          · exact absurd (by apply UInt8.toNat_inj.1; simpa using h) hb0
          · exact h
        show numB (0 * 256 + b.toNat) = [b]
        rw [Nat.zero_mul, Nat.zero_add, numB_pos this, show b.toNat / 256 = 0 by omega, numB_zero, show b.toNat % 256 = b.toNat by omega]
        simp
      · have h1 : m[0]? ≠ some 0 := by rw [List.getElem?_append_left (List.length_pos_iff.2 hm)] at h0; exact h0
        have ihm := ih m.length (by rw [← hn]; simp) m rfl h1
        have hpos : 0 < valB m := by
          rcases Nat.eq_zero_or_pos (valB m) with h | h
          · rw [h, numB_zero] at ihm; exact absurd ihm.symm hm
          · exact h
        rw [numB_pos (by omega), show (valB m * 256 + b.toNat) / 256 = valB m by omega, show (valB m * 256 + b.toNat) % 256 = b.toNat by omega, ihm]
        simp
structure At where
  t : Nat
  v : ByteArray
def At.len (a : At) : Nat := a.v.data.toList.length
def rowA (a : At) : Value := .agg ⟨[.int .u8 a.t, .string a.v]⟩
def two (n : Nat) : List UInt8 := [UInt8.ofNat (n / 256 % 256), UInt8.ofNat (n % 256)]
def attB (a : At) : List UInt8 := UInt8.ofNat a.t :: (two a.len ++ a.v.data.toList)
def encE : Nat → List At → Nat
  | _, [] => 0
  | last, a :: l => if a.t ≤ last ∨ a.len = 0 then 3 else if 65535 < a.len then 5 else encE a.t l
def attsB (l : List At) : List UInt8 := l.flatMap attB
def encS (l : List At) : List UInt8 := if encE 0 l = 0 then attsB l else []
def cellsB (l : List UInt8) : List Value := l.map fun b => .int .u8 b.toNat
theorem cellsB_app (l m : List UInt8) : cellsB (l ++ m) = cellsB l ++ cellsB m := by simp [cellsB]
theorem cellsB_len (l : List UInt8) : (cellsB l).length = l.length := by simp [cellsB]
theorem cellsB_nil {l : List UInt8} : cellsB l = [] ↔ l = [] := by simp [cellsB]
theorem cellsB_str (s : ByteArray) : bytesV s = cellsB s.data.toList := rfl
theorem cellsB_plain (l : List UInt8) : plainL (cellsB l) = true := plainL_map _ (fun _ => rfl) _
theorem cellsB_below (n : Nat) : ∀ l : List UInt8, belowL n (cellsB l) = true
  | [] => rfl
  | b :: l => by
    show (true && belowL n (cellsB l)) = true
    rw [cellsB_below n l]; rfl
theorem cellsB_bytes (l : List UInt8) : toBytes (cellsB l) = some l := by
  have h1 : allU8 (cellsB l) = true := by
    induction l with
    | nil => rfl
    | cons b l ih => exact ih
  have h2 : (cellsB l).map byteV = l := by
    unfold cellsB
    rw [List.map_map]
    conv => rhs; rw [← List.map_id l]
    congr 1
    funext b
    simp [byteV]
  simp only [toBytes, h1, h2]
theorem atts_bound : ∀ (l : List At) (last : Nat), (∀ a ∈ l, a.t < 256) → encE last l = 0 → (attsB l).length ≤ (255 - last) * 65538
  | [], last, _, _ => by simp [attsB]
  | a :: l, last, ht, h => by
    simp only [encE] at h
    split at h
    · omega
    · split at h
      · omega
      · rename_i h1 h2
        have := atts_bound l a.t (fun x hx => ht x (List.mem_cons_of_mem _ hx)) h
        have h3 := ht a (List.mem_cons_self ..)
        have h4 : (attB a).length = 3 + a.len := by simp [attB, two, At.len]; omega
        show ((attB a) ++ attsB l).length ≤ _
        rw [List.length_append, h4]
        have h5 : (255 - last) = (255 - a.t) + (a.t - last) := by omega
        rw [h5, Nat.add_mul]
        have h6 : 1 * 65538 ≤ (a.t - last) * 65538 := Nat.mul_le_mul_right _ (by omega)
        omega
end Go.Tlv
/- Numbers as bytes, and back: what the code asks. -/
namespace Go.Proofs.YtblbaohcelldpaaGreat.Ob
open Go Go.Abs Go.Tlv
set_option linter.unusedVariables false
noncomputable section
abbrev RK := Value → List (Option AObj) → Prop
def h0 : Heap := hOf 100 [] []
def sNum : List Value → (Value → Prop) → Prop
  | [.int .u64 n], K => (0 ≤ n ∧ n < 18446744073709551616) ∧ K (.string (bytesOf (numB n.toNat)))
  | _, _ => False
def sRNum (M : Int → Int → (ByteArray → Prop) → Prop) (m : Int) : List Value → (Value → Prop) → Prop
  | [.int .u64 n], K => M m n fun s => K (.string s)
  | _, _ => False
def W0 : How := howOf (fun _ => none) (fun _ => false) [] [] [] [(18, 10)]
def W0r (M : Int → Int → (ByteArray → Prop) → Prop) (m : Int) : How := howOf (fun _ => none) (fun _ => false) [] [] [(105, sRNum M m)] []
def gNum (N : Nd) (n : Int) (K : RK) : Prop := wpe Tryz.prog N W0 300 (.call 95 [.int .u64 n] h0) (retQ 100 K)
def gRNum (N : Nd) (M : Int → Int → (ByteArray → Prop) → Prop) (n : Int) (K : RK) : Prop := callBody Tryz.prog N (W0r M n) 300 105 [.int .u64 n] h0 (retQ 100 K)
set_option maxRecDepth 100000
theorem gNum_eq (N : Nd) (n : Int) (K : RK) : gNum N n K =
 (N.cmp .gtr .u64 n .u64 (0 : Int) (N.conv 23 5 .u64 n .u8 (fun z0 =>
 N.ari .shr .u64 n .u64 (8 : Int) (fun z1 =>
 N.cmp .gtr .u64 z1 .u64 (0 : Int) (N.conv 23 5 .u64 z1 .u8 (fun z2 =>
 N.ari .shr .u64 z1 .u64 (8 : Int) (fun z3 =>
 N.cmp .gtr .u64 z3 .u64 (0 : Int) (N.conv 23 5 .u64 z3 .u8 (fun z4 =>
 N.ari .shr .u64 z3 .u64 (8 : Int) (fun z5 =>
 N.cmp .gtr .u64 z5 .u64 (0 : Int) (N.conv 23 5 .u64 z5 .u8 (fun z6 =>
 N.ari .shr .u64 z5 .u64 (8 : Int) (fun z7 =>
 N.cmp .gtr .u64 z7 .u64 (0 : Int) (N.conv 23 5 .u64 z7 .u8 (fun z8 =>
 N.ari .shr .u64 z7 .u64 (8 : Int) (fun z9 =>
 N.cmp .gtr .u64 z9 .u64 (0 : Int) (N.conv 23 5 .u64 z9 .u8 (fun z10 =>
 N.ari .shr .u64 z9 .u64 (8 : Int) (fun z11 =>
 N.cmp .gtr .u64 z11 .u64 (0 : Int) (N.conv 23 5 .u64 z11 .u8 (fun z12 =>
 N.ari .shr .u64 z11 .u64 (8 : Int) (fun z13 =>
 N.cmp .gtr .u64 z13 .u64 (0 : Int) (N.conv 23 5 .u64 z13 .u8 (fun z14 =>
 N.ari .shr .u64 z13 .u64 (8 : Int) (fun z15 =>
 N.cmp .gtr .u64 z15 .u64 (0 : Int) (N.conv 23 5 .u64 z15 .u8 (fun z16 =>
 False)) (N.str [z14, z12, z10, z8, z6, z4, z2, z0] (fun s16 =>
 K (.string s16) [(some (AObj.cells [(.int .u8 z14), (.int .u8 z12), (.int .u8 z10), (.int .u8 z8), (.int .u8 z6), (.int .u8 z4), (.int .u8 z2), (.int .u8 z0)] 180 8 false true))]))))) (N.str [z12, z10, z8, z6, z4, z2, z0] (fun s14 =>
 K (.string s14) [(some (AObj.cells [(.int .u8 (0 : Int)), (.int .u8 z12), (.int .u8 z10), (.int .u8 z8), (.int .u8 z6), (.int .u8 z4), (.int .u8 z2), (.int .u8 z0)] 180 8 false true))]))))) (N.str [z10, z8, z6, z4, z2, z0] (fun s12 =>
 K (.string s12) [(some (AObj.cells [(.int .u8 (0 : Int)), (.int .u8 (0 : Int)), (.int .u8 z10), (.int .u8 z8), (.int .u8 z6), (.int .u8 z4), (.int .u8 z2), (.int .u8 z0)] 180 8 false true))]))))) (N.str [z8, z6, z4, z2, z0] (fun s10 =>
 K (.string s10) [(some (AObj.cells [(.int .u8 (0 : Int)), (.int .u8 (0 : Int)), (.int .u8 (0 : Int)), (.int .u8 z8), (.int .u8 z6), (.int .u8 z4), (.int .u8 z2), (.int .u8 z0)] 180 8 false true))]))))) (N.str [z6, z4, z2, z0] (fun s8 =>
 K (.string s8) [(some (AObj.cells [(.int .u8 (0 : Int)), (.int .u8 (0 : Int)), (.int .u8 (0 : Int)), (.int .u8 (0 : Int)), (.int .u8 z6), (.int .u8 z4), (.int .u8 z2), (.int .u8 z0)] 180 8 false true))]))))) (N.str [z4, z2, z0] (fun s6 =>
 K (.string s6) [(some (AObj.cells [(.int .u8 (0 : Int)), (.int .u8 (0 : Int)), (.int .u8 (0 : Int)), (.int .u8 (0 : Int)), (.int .u8 (0 : Int)), (.int .u8 z4), (.int .u8 z2), (.int .u8 z0)] 180 8 false true))]))))) (N.str [z2, z0] (fun s4 =>
 K (.string s4) [(some (AObj.cells [(.int .u8 (0 : Int)), (.int .u8 (0 : Int)), (.int .u8 (0 : Int)), (.int .u8 (0 : Int)), (.int .u8 (0 : Int)), (.int .u8 (0 : Int)), (.int .u8 z2), (.int .u8 z0)] 180 8 false true))]))))) (N.str [z0] (fun s2 =>
 K (.string s2) [(some (AObj.cells [(.int .u8 (0 : Int)), (.int .u8 (0 : Int)), (.int .u8 (0 : Int)), (.int .u8 (0 : Int)), (.int .u8 (0 : Int)), (.int .u8 (0 : Int)), (.int .u8 (0 : Int)), (.int .u8 z0)] 180 8 false true))]))))) (N.str [] (fun s0 =>
 K (.string s0) [(some (AObj.cells [(.int .u8 (0 : Int)), (.int .u8 (0 : Int)), (.int .u8 (0 : Int)), (.int .u8 (0 : Int)), (.int .u8 (0 : Int)), (.int .u8 (0 : Int)), (.int .u8 (0 : Int)), (.int .u8 (0 : Int))] 180 8 false true))]))) := by kernel_rfl
theorem gRNum_eq (N : Nd) (M : Int → Int → (ByteArray → Prop) → Prop) (n : Int) (K : RK) : gRNum N M n K =
 (N.cmp .eql .u64 n .u64 (0 : Int) (K (.string (bytesOf [])) []) (N.ari .quo .u64 n .u64 (256 : Int) (fun z0 =>
 M n z0 (fun s1 =>
 N.ari .rem .u64 n .u64 (256 : Int) (fun z2 =>
 N.conv 23 5 .u64 z2 .u8 (fun z3 =>
 N.str [z3] (fun s4 =>
 N.cat s1 s4 (fun s5 =>
 K (.string s5) [(some (AObj.cells [(.int .u8 z3)] 5 1 false true))])))))))) := by kernel_rfl
theorem t23 : Tryz.prog.underlying 23 = some (.int .u64) := by kernel_rfl
theorem t5 : Tryz.prog.underlying 5 = some (.int .u8) := by kernel_rfl
theorem numC (m : Nat) (hm : m < 18446744073709551616) : Is (gNum (real Tryz.prog) (m : Int) (PQ (.string (bytesOf (numB m))))) := by
  refine ⟨?_⟩
  rw [gNum_eq]
  exact n_gtr0 (fun p0 => n_conv8 t23 t5 (n_shr8 (by omega) (n_gtr0 (fun p1 => n_conv8 t23 t5 (n_shr8 (by omega) (n_gtr0 (fun p2 => n_conv8 t23 t5 (n_shr8 (by omega) (n_gtr0 (fun p3 => n_conv8 t23 t5 (n_shr8 (by omega) (n_gtr0 (fun p4 => n_conv8 t23 t5 (n_shr8 (by omega) (n_gtr0 (fun p5 => n_conv8 t23 t5 (n_shr8 (by omega) (n_gtr0 (fun p6 => n_conv8 t23 t5 (n_shr8 (by omega) (n_gtr0 (fun p7 => n_conv8 t23 t5 (n_shr8 (by omega) (n_gtr0 (fun p8 => absurd p8 (by omega)) (fun e8 => n_str (PQ.of (by rw [numB_pos p0, numB_pos p1, numB_pos p2, numB_pos p3, numB_pos p4, numB_pos p5, numB_pos p6, numB_pos p7, e8, numB_zero]; rfl) rfl))))) (fun e7 => n_str (PQ.of (by rw [numB_pos p0, numB_pos p1, numB_pos p2, numB_pos p3, numB_pos p4, numB_pos p5, numB_pos p6, e7, numB_zero]; rfl) rfl))))) (fun e6 => n_str (PQ.of (by rw [numB_pos p0, numB_pos p1, numB_pos p2, numB_pos p3, numB_pos p4, numB_pos p5, e6, numB_zero]; rfl) rfl))))) (fun e5 => n_str (PQ.of (by rw [numB_pos p0, numB_pos p1, numB_pos p2, numB_pos p3, numB_pos p4, e5, numB_zero]; rfl) rfl))))) (fun e4 => n_str (PQ.of (by rw [numB_pos p0, numB_pos p1, numB_pos p2, numB_pos p3, e4, numB_zero]; rfl) rfl))))) (fun e3 => n_str (PQ.of (by rw [numB_pos p0, numB_pos p1, numB_pos p2, e3, numB_zero]; rfl) rfl))))) (fun e2 => n_str (PQ.of (by rw [numB_pos p0, numB_pos p1, e2, numB_zero]; rfl) rfl))))) (fun e1 => n_str (PQ.of (by rw [numB_pos p0, e1, numB_zero]; rfl) rfl))))) (fun e0 => n_str (PQ.of (by rw [e0, numB_zero]; rfl) rfl))
theorem puNum : PuOk Tryz.prog 100 95 sNum := by
  intro args K h
  unfold sNum at h
  split at h
  · rename_i n
    obtain ⟨⟨h0, h1⟩, hk⟩ := h
    obtain ⟨m, e⟩ := Int.eq_ofNat_of_zero_le h0
    subst e
    exact ⟨_, fun B H => pu_mk okp kn_none lp_none rfl rfl (numC m (by omega)) B H, hk⟩
  · exact h.elim
end
end Go.Proofs.YtblbaohcelldpaaGreat.Ob
/- Attributes as bytes: what the code asks. -/
namespace Go.Proofs.YtblbaohcelldpaaGreat.Ob
open Go Go.Abs Go.Tlv
set_option linter.unusedVariables false
noncomputable section
def sy0 (b : Nat) : Option Bool := match Nat.beq b 100 with | true => some true | false => none
abbrev LEt := Code → Nat → List Value → List (Option AObj) → (Nat → Option AObj → Prop) → (Int → Prop) → Prop
def sLoopE (L : LEt) : LpS := lpS [2, 3, 4] fun c n vals obs K => L c n vals obs (fun k ob => K (.exit 0) [top, top, mkS 100 k] [ob]) (fun e => K .ret [.string (bytesOf []), .int .i64 e, top] [])
def WE (L : LEt) : How := howOf sy0 (fun _ => false) [] [(4, (47, ([4, 5, 8, 9, 10], sLoopE L)))] [] []
def WS : How := howOf sy0 (fun _ => false) [] [] [] []
def gEncode (N : Nd) (L : LEt) (rs : List Value) (K : RK) : Prop := wpe Tryz.prog N (WE L) 300 (.call 124 [dsl rs] h0) (retQ 100 K)
def gEncR (N : Nd) (k : Nat) (ob : Option AObj) (last : Int) (rs : List Value) (n i : Int) (back : Bk) (out : Ot) : Prop :=
  wpe Tryz.prog N WS 300 (.code false (loopIn Tryz.prog 124 4) (stOf 100 47 [4, 5, 8, 9, 10] [] ([mkS 100 k, .int .u8 last, dsl rs, .int .i64 n, .int .i64 i], [ob]))) (roundQ 100 [4, 5, 8, 9, 10] [2, 3, 4] 47 [] back out)
set_option maxRecDepth 100000
theorem gEncode_eq (N : Nd) (L : LEt) (rs : List Value) (K : RK) : gEncode N L rs K =
 (N.dlen rs (fun o0 =>
 L (loopIn Tryz.prog 124 4) 47 [(.slice none 0 0), (.int .u8 (0 : Int)), (dsl rs), (.int .i64 (Int.ofNat o0)), (.int .i64 (0 : Int))] [] (fun o1 l2 =>
 N.strM o1 l2 (fun s3 =>
 K (.tuple (Array.mk [(.string s3), (.int .i64 (0 : Int))])) [l2])) (fun z1 =>
 K (.tuple (Array.mk [(.string (bytesOf [])), (.int .i64 z1)])) []))) := by kernel_rfl
theorem gEncR_eq (N : Nd) (k : Nat) (ob : Option AObj) (last : Int) (rs : List Value) (n : Int) (i : Int) (back : Bk) (out : Ot) : gEncR N k ob last rs n i back out =
 (N.cmp .lss .i64 i .i64 n (N.dget rs i 2 (fun l0 =>
 N.rdI .u8 l0 0 (fun z1 =>
 N.rdS l0 1 (fun s2 =>
 N.cmp .leq .u8 z1 .u8 last (nD ∧
 (out Exit.ret [(.string (bytesOf [])), (.int .i64 (3 : Int)), (.iface 1000000021 (.slice (some ⟨100, 0, none⟩) k k))] [ob, (some (AObj.cells [(.int .u8 z1), (.string s2)] 166 2 false true))])) (N.scmp .eql s2 (bytesOf []) (nD ∧
 (out Exit.ret [(.string (bytesOf [])), (.int .i64 (3 : Int)), (.iface 1000000021 (.slice (some ⟨100, 0, none⟩) k k))] [ob, (some (AObj.cells [(.int .u8 z1), (.string s2)] 166 2 false true))])) (N.slen s2 (fun z3 =>
 N.cmp .gtr .i64 z3 .i64 (65535 : Int) (nD ∧
 (out Exit.ret [(.string (bytesOf [])), (.int .i64 (5 : Int)), (.iface 1000000021 (.slice (some ⟨100, 0, none⟩) k k))] [ob, (some (AObj.cells [(.int .u8 z1), (.string s2)] 166 2 false true))])) (N.base true k k ob 5 1 (fun l4 =>
 N.appX k l4 1 [(.int .u8 z1)] 1 1 (fun l5 o6 =>
 N.slen s2 (fun z7 =>
 N.ari .shr .i64 z7 .u64 (8 : Int) (fun z8 =>
 N.conv 3 5 .i64 z8 .u8 (fun z9 =>
 N.conv 3 5 .i64 z7 .u8 (fun z10 =>
 N.base false o6 o6 (some (AObj.cells l5 5 1 true true)) 5 1 (fun l11 =>
 N.appX o6 l11 2 [(.int .u8 z9), (.int .u8 z10)] 1 1 (fun l12 o13 =>
 N.base false o13 o13 (some (AObj.cells l12 5 1 true true)) 5 1 (fun l14 =>
 N.appS o13 l14 s2 1 (((some (AObj.cells [(.int .u8 z1), (.string s2)] 166 2 false true)) = (some (AObj.cells [(.int .u8 z1), (.string s2)] 166 2 false true))) ∧
 (((some (AObj.cells [(.int .u8 z1), (.string s2)] 166 2 false true)) = (some (AObj.cells [(.int .u8 z1), (.string s2)] 166 2 false true))) ∧
 (((some (AObj.cells [(.int .u8 z1), (.string s2)] 166 2 false true)) = (some (AObj.cells [(.int .u8 z1), (.string s2)] 166 2 false true))) ∧
 (((some (AObj.cells [(.int .u8 z1), (.string s2)] 166 2 false true)) = (some (AObj.cells [(.int .u8 z1), (.string s2)] 166 2 false true))) ∧
 (((some (AObj.cells [(.int .u8 z1), (.string s2)] 166 2 false true)) = (some (AObj.cells [(.int .u8 z1), (.string s2)] 166 2 false true))) ∧
 (((some (AObj.cells [(.int .u8 z1), (.string s2)] 166 2 false true)) = (some (AObj.cells [(.int .u8 z1), (.string s2)] 166 2 false true))) ∧
 (N.ari .add .i64 i .i64 (1 : Int) (fun z15 =>
 nD ∧
 (back [(.slice (some ⟨105, 0, none⟩) o13 o13), (.int .u8 z1), (dsl rs), (.int .i64 n), (.int .i64 z15)] [none, (some (AObj.cells [(.int .u8 z1), (.string s2)] 166 2 false true)), (some (AObj.cells [(.int .u8 z1)] 5 1 false true)), none, (some (AObj.cells [(.int .u8 z9), (.int .u8 z10)] 5 1 false true)), (some (AObj.cells l12 5 1 true true))]))))))))) (fun l15 o16 =>
 ((some (AObj.cells [(.int .u8 z1), (.string s2)] 166 2 false true)) = (some (AObj.cells [(.int .u8 z1), (.string s2)] 166 2 false true))) ∧
 (((some (AObj.cells [(.int .u8 z1), (.string s2)] 166 2 false true)) = (some (AObj.cells [(.int .u8 z1), (.string s2)] 166 2 false true))) ∧
 (((some (AObj.cells [(.int .u8 z1), (.string s2)] 166 2 false true)) = (some (AObj.cells [(.int .u8 z1), (.string s2)] 166 2 false true))) ∧
 (((some (AObj.cells [(.int .u8 z1), (.string s2)] 166 2 false true)) = (some (AObj.cells [(.int .u8 z1), (.string s2)] 166 2 false true))) ∧
 (((some (AObj.cells [(.int .u8 z1), (.string s2)] 166 2 false true)) = (some (AObj.cells [(.int .u8 z1), (.string s2)] 166 2 false true))) ∧
 (((some (AObj.cells [(.int .u8 z1), (.string s2)] 166 2 false true)) = (some (AObj.cells [(.int .u8 z1), (.string s2)] 166 2 false true))) ∧
 (N.ari .add .i64 i .i64 (1 : Int) (fun z17 =>
 nD ∧
 (back [(.slice (some ⟨106, 0, none⟩) o16 o16), (.int .u8 z1), (dsl rs), (.int .i64 n), (.int .i64 z17)] [none, (some (AObj.cells [(.int .u8 z1), (.string s2)] 166 2 false true)), (some (AObj.cells [(.int .u8 z1)] 5 1 false true)), none, (some (AObj.cells [(.int .u8 z9), (.int .u8 z10)] 5 1 false true)), none, (some (AObj.cells l15 5 1 true true))])))))))))))))))))))))))))) (nD ∧
 (out (Exit.exit 0) [(.chan (some 0)), (.chan (some 0)), (.iface 1000000021 (.slice (some ⟨100, 0, none⟩) k k))] [ob]))) := by kernel_rfl
def rowsA (l : List At) : List Value := l.map rowA
theorem rowsA_get {l : List At} {i : Nat} {a : At} (h : l[i]? = some a) : (rowsA l)[i]? = some (.agg ⟨[.int .u8 (a.t : Int), .string a.v]⟩) := by
  unfold rowsA; rw [List.getElem?_map, h]; rfl
structure InvE (l : List At) (i last : Nat) : Prop where
  le : i ≤ l.length
  eq : encE 0 l = encE last (l.drop i)
  la : last ≤ 255
  il : i ≤ last
  bd : (attsB (l.take i)).length ≤ last * 65538
def IE (l : List At) (p : {p : Nat × Nat // InvE l p.1 p.2}) : List Value × List (Option AObj) :=
  ([mkS 100 (attsB (l.take p.1.1)).length, .int .u8 (p.1.2 : Int), dsl (rowsA l), .int .i64 (l.length : Int), .int .i64 (p.1.1 : Int)], [mo (cellsB (attsB (l.take p.1.1))) 5 1])
def RE (l : List At) (e : Exit) (v : List Value) (o : List (Option AObj)) : Prop :=
  (encE 0 l = 0 ∧ e = .exit 0 ∧ v = [top, top, mkS 100 (attsB l).length] ∧ o = [mo (cellsB (attsB l)) 5 1]) ∨
  (encE 0 l ≠ 0 ∧ e = .ret ∧ v = [.string (bytesOf []), .int .i64 (encE 0 l : Int), top] ∧ o = [])
theorem wk_ret {s : ByteArray} {e : Int} {x : Value} {objs : List (Option AObj)} : Wk 100 100 [.string s, .int .i64 e, x] objs [.string s, .int .i64 e, top] [] :=
  (wk_weak (.cons (.refl _) (.cons (.refl _) (.cons (.top _) .nil))) (WeakOs.refl _)).trans (wk_pure rfl)
theorem toList_nil {s : ByteArray} : s.data.toList = (bytesOf []).data.toList ↔ s.data.toList.length = 0 := by
  rw [bytes_toList]; exact List.length_eq_zero_iff.symm
theorem bytesV_c (s : ByteArray) : bytesV s = cellsB s.data.toList := rfl
theorem attsB_snoc (l : List At) (a : At) : attsB (l ++ [a]) = attsB l ++ attB a := by simp [attsB]
theorem u8c (n : Nat) : Value.int .u8 ((n % 256 : Nat) : Int) = .int .u8 ((UInt8.ofNat n).toNat : Int) := by simp
theorem u8t {n : Nat} (h : n < 256) : Value.int .u8 (n : Int) = .int .u8 ((UInt8.ofNat n).toNat : Int) := by
  have : n % 256 = n := Nat.mod_eq_of_lt h
  rw [← u8c, this]
theorem two_lt (n : Nat) (h : n ≤ 65535) : (UInt8.ofNat (n / 256 % 256)) = UInt8.ofNat (n / 256) := by
  have : n / 256 % 256 = n / 256 := by omega
  rw [this]
theorem t3 : Tryz.prog.underlying 3 = some (.int .i64) := by kernel_rfl
theorem roundE (l : List At) (ht : ∀ a ∈ l, a.t < 256) (p : {p : Nat × Nat // InvE l p.1 p.2}) :
    Is (wpe Tryz.prog (real Tryz.prog) WS 300 (.code false (loopIn Tryz.prog 124 4) (stOf 100 47 [4, 5, 8, 9, 10] [] (IE l p))) (roundQ 100 [4, 5, 8, 9, 10] [2, 3, 4] 47 []
      (fun vals objs => ∃ a', l.length - a'.1.1 < l.length - p.1.1 ∧ Wk 100 (100 + 0) vals objs (IE l a').1 (IE l a').2 ∧ ∀ e v o, RE l e v o → RE l e v o)
      (fun e vals objs => ∃ v o, Wk 100 (100 + 0) vals objs v o ∧ RE l e v o))) := by
  refine ⟨?_⟩
  obtain ⟨⟨i, last⟩, inv⟩ := p
  have hi := inv.le
  have hbd := inv.bd
  have hla := inv.la
  have hil := inv.il
  have heq := inv.eq
  dsimp only at hi hbd hla hil heq
  show gEncR (real Tryz.prog) (attsB (l.take i)).length (mo (cellsB (attsB (l.take i))) 5 1) (last : Int) (rowsA l) (l.length : Int) (i : Int) _ _
  rw [gEncR_eq]
  refine n_ltN (fun hlt => ?_) (fun hge => ?_)
  · have ha : l[i]? = some l[i] := by simp [hlt]
    generalize l[i] = a at ha
    have hmem : a ∈ l := List.mem_of_getElem? ha
    have hat := ht a hmem
    have hdrop : l.drop i = a :: l.drop (i + 1) := by
      have h2 := List.drop_eq_getElem_cons hlt
      rw [List.getElem?_eq_getElem hlt] at ha
      simp only [Option.some.injEq] at ha
      rw [h2, ha]
    have htake : l.take (i + 1) = l.take i ++ [a] := by
      rw [List.take_add_one, ha]; rfl
    rw [hdrop] at heq
    simp only [encE] at heq
    refine n_dget i rfl (rowsA_get ha) rfl (n_rdI (z := (a.t : Int)) rfl (n_rdS (z := a.v) rfl (n_leN (fun h1 => ?_) (fun h1 => n_scmp_eq (fun h2 => ?_) (fun h2 => ?_)))))
    · rw [if_pos (.inl h1)] at heq
      exact ⟨rfl, _, _, wk_ret, .inr ⟨by omega, rfl, by rw [heq]; rfl, rfl⟩⟩
    · rw [toList_nil] at h2
      rw [if_pos (.inr h2)] at heq
      exact ⟨rfl, _, _, wk_ret, .inr ⟨by omega, rfl, by rw [heq]; rfl, rfl⟩⟩
    rw [toList_nil] at h2
    rw [if_neg (fun h => h.elim (fun h => by omega) (fun h => h2 h))] at heq
    refine n_slen (n_gtN (d := 65535) (fun h3 => ?_) (fun h3 => ?_))
    · rw [if_pos (show 65535 < a.len from h3)] at heq
      exact ⟨rfl, _, _, wk_ret, .inr ⟨by omega, rfl, by rw [heq]; rfl, rfl⟩⟩
    rw [if_neg (show ¬ 65535 < a.len by show ¬ 65535 < a.v.data.toList.length; omega)] at heq
    have hk : (attsB (l.take i)).length ≤ 255 * 65538 := Nat.le_trans hbd (Nat.mul_le_mul_right _ hla)
    have hT : tops = 140737488355328 := rfl
    refine n_base_mo (by rw [cellsB_len, Nat.mul_one]) (by omega) (n_appX (by omega) rfl rfl (by omega) (by omega) (n_slen (n_shrN (by decide) (n_toU8 t3 t5 (n_toU8 t3 t5 (n_base_c (by simp [cellsB_len]) (by omega) (by omega) (n_appX (by omega) rfl rfl (by omega) (by omega) (n_base_c (by simp [cellsB_len]) (by omega) (by omega) (n_appS (fun h => absurd (by rw [h]; rfl) h2) (fun _ => ⟨by omega, by omega, rfl, rfl, rfl, rfl, rfl, rfl, n_inc (by omega) ⟨rfl, ?_⟩⟩))))))))))
    have hinv : InvE l (i + 1) a.t := by
      refine ⟨hlt, heq, by omega, by omega, ?_⟩
      rw [htake, attsB_snoc, List.length_append]
      have h4 : (attB a).length = 3 + a.len := by simp [attB, two, At.len]; omega
      have h5 : a.len ≤ 65535 := by show a.v.data.toList.length ≤ 65535; omega
      have h6 : (last + 1) * 65538 ≤ a.t * 65538 := Nat.mul_le_mul_right _ (by omega)
      omega
    refine ⟨⟨(i + 1, a.t), hinv⟩, show l.length - (i + 1) < l.length - i by omega, ?_, fun _ _ _ h => h⟩
    have hcell : cellsB (attsB (l.take i)) ++ [.int .u8 (a.t : Int)] ++ [.int .u8 ((a.v.data.toList.length / 256 % 256 : Nat) : Int), .int .u8 ((a.v.data.toList.length % 256 : Nat) : Int)] ++ bytesV a.v = cellsB (attsB (l.take (i + 1))) := by
      rw [htake, attsB_snoc, cellsB_app, u8t hat, u8c, u8c, bytesV_c]
      have h5 : a.v.data.toList.length ≤ 65535 := by omega
      simp [attB, two, cellsB, At.len]
    have hlen : (attsB (l.take (i + 1))).length = (attsB (l.take i)).length + 1 + 2 + a.v.data.toList.length := by
      rw [← cellsB_len, ← hcell]; simp only [List.length_append, cellsB_len, bytesV_c, List.length_cons, List.length_nil]
    show Wk 100 (100 + 0) _ _ (mkS (100 + 0) _ :: _) [mo (cellsB (attsB (l.take (i + 1)))) 5 1]
    rw [mo_ne (by intro e; have := congrArg List.length e; rw [cellsB_len, hlen] at this; simp at this), ← hcell]
    show Wk 100 (100 + 0) _ _ (mkS (100 + 0) (attsB (l.take (i + 1))).length :: _) _
    rw [hlen]
    refine wk_out (k0 := 0) (j := 6) (pre := []) (by omega) rfl ?_ rfl (by omega) rfl (fun i o h => by simp at h)
    rw [hcell]; exact cellsB_below _ _
  · have hil : i = l.length := by omega
    subst hil
    rw [List.drop_length] at heq
    refine ⟨rfl, [top, top, mkS 100 (attsB l).length], [mo (cellsB (attsB l)) 5 1], ?_, .inl ⟨heq, rfl, rfl, rfl⟩⟩
    rw [List.take_length]; exact Wk.refl _ _ _ _
def LE : LEt := fun c n vals obs A E => ∃ (l : List At), (∀ a ∈ l, a.t < 256) ∧ c = loopIn Tryz.prog 124 4 ∧ n = 47 ∧ vals = [.slice none 0 0, .int .u8 (0 : Int), dsl (rowsA l), .int .i64 (Int.ofNat l.length), .int .i64 (0 : Int)] ∧ obs = [] ∧
  (encE 0 l = 0 → A (attsB l).length (mo (cellsB (attsB l)) 5 1)) ∧ (encE 0 l ≠ 0 → E (encE 0 l : Int))
theorem lpE : LoopOk Tryz.prog 100 [4, 5, 8, 9, 10] (sLoopE LE) := by
  show LoopOk Tryz.prog 100 [4, 5, 8, 9, 10] (lpS [2, 3, 4] _)
  refine lp_mk okp (W := WS) kn_none lp_none ?_
  rintro c n vals obs K ⟨l, ht, hc, hn, hv, ho, hA, hE⟩
  subst hc; subst hn; subst hv; subst ho
  refine ⟨{p : Nat × Nat // InvE l p.1 p.2}, 0, 300, fun p => l.length - p.1.1, IE l, fun _ e v o => RE l e v o, ⟨(0, 0), ⟨Nat.zero_le _, rfl, by omega, by omega, by simp [attsB]⟩⟩, rfl, ?_, ?_, roundE l ht⟩
  · show Wk 100 (100 + 0) _ [] (mkS 100 0 :: _) ([] ++ [none])
    exact wk_nilS
  intro e v o hR
  rcases hR with ⟨h1, rfl, rfl, rfl⟩ | ⟨h1, rfl, rfl, rfl⟩
  · exact hA h1
  · exact hE h1
def retE (l : List At) : Value := .tuple ⟨[.string (bytesOf (encS l)), .int .i64 (encE 0 l : Int)]⟩
theorem encodeC (l : List At) (ht : ∀ a ∈ l, a.t < 256) : Is (gEncode (real Tryz.prog) LE (rowsA l) (PQ (retE l))) := by
  refine ⟨?_⟩
  rw [gEncode_eq]
  refine n_dlen l.length (by simp [rowsA]) ⟨l, ht, rfl, rfl, rfl, rfl, fun h => ?_, fun h => ?_⟩
  · refine n_strM (cellsB_len _) (cellsB_bytes _) (PQ.of ?_ rfl)
    unfold retE encS; rw [if_pos h, h]; rfl
  · exact PQ.of (by unfold retE encS; rw [if_neg h]) rfl
def sEncode : List Value → (Value → Prop) → Prop
  | [.iface _ (.agg ⟨rs⟩)], K => ∃ l : List At, rs = rowsA l ∧ (∀ a ∈ l, a.t < 256) ∧ K (retE l)
  | _, _ => False
theorem rowsA_below (l : List At) : belowL 100 (rowsA l) = true := by
  induction l with
  | nil => rfl
  | cons a l ih =>
    show (below 100 (rowA a) && belowL 100 (rowsA l)) = true
    rw [ih]; rfl
theorem encodeH (l : List At) (ht : ∀ a ∈ l, a.t < 256) (B : Base) (H : Heap) : CallH Tryz.prog 100 B 124 [dsl (rowsA l)] H (.returned (retE l)) H :=
  pu_mk okp kn_none (lp_ok (fun x hx => by simp only [List.mem_singleton] at hx; subst hx; exact lpE)) rfl rfl (encodeC l ht) B H
end
end Go.Proofs.YtblbaohcelldpaaGreat.Ob
