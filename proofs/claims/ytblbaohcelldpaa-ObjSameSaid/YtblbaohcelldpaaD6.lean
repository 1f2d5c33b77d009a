/- The nodes, one law each. -/
import Derived.Test.YtblbaohcelldpaaD5
namespace Go.Abs
open Go
noncomputable section
/-- A proposition that is not to be looked into. -/
inductive Is (p : Prop) : Prop
  | mk (h : p) : Is p
theorem Is.out {p : Prop} (h : Is p) : p := by cases h; assumption
section
variable {P : Program} {k : IntKind} {a b : Int} {X Y : Prop}
theorem n_lss (h1 : a < b → X) (h2 : ¬ a < b → Y) : (real P).cmp .lss k a k b X Y := ⟨decide (a < b), by simp [intBin], fun h => h1 (by simpa using h), fun h => h2 (by simpa using h)⟩
theorem n_leq (h1 : a ≤ b → X) (h2 : ¬ a ≤ b → Y) : (real P).cmp .leq k a k b X Y := ⟨decide (a ≤ b), by simp [intBin], fun h => h1 (by simpa using h), fun h => h2 (by simpa using h)⟩
theorem n_gtr (h1 : b < a → X) (h2 : ¬ b < a → Y) : (real P).cmp .gtr k a k b X Y := ⟨decide (a > b), by simp [intBin], fun h => h1 (by simpa using h), fun h => h2 (by simpa using h)⟩
theorem n_geq (h1 : b ≤ a → X) (h2 : ¬ b ≤ a → Y) : (real P).cmp .geq k a k b X Y := ⟨decide (a ≥ b), by simp [intBin], fun h => h1 (by simpa using h), fun h => h2 (by simpa using h)⟩
theorem n_eql (h1 : a = b → X) (h2 : ¬ a = b → Y) : (real P).cmp .eql k a k b X Y := ⟨decide (a = b), by simp [intBin], fun h => h1 (by simpa using h), fun h => h2 (by simpa using h)⟩
theorem n_neq (h1 : ¬ a = b → X) (h2 : a = b → Y) : (real P).cmp .neq k a k b X Y := ⟨!decide (a = b), by simp [intBin], fun h => h1 (by simpa using h), fun h => h2 (by simpa using h)⟩
theorem wrap64 {n : Int} (h1 : -9223372036854775808 ≤ n) (h2 : n ≤ 9223372036854775807) : wrapA .i64 n = n := by
  unfold wrapA; simp [h1, h2]
theorem n_add {K : Int → Prop} (h1 : -9223372036854775808 ≤ a + b) (h2 : a + b ≤ 9223372036854775807) (hk : K (a + b)) : (real P).ari .add .i64 a .i64 b K := ⟨_, by simp [intBin, wrap64 h1 h2], hk⟩
theorem n_sub {K : Int → Prop} (h1 : -9223372036854775808 ≤ a - b) (h2 : a - b ≤ 9223372036854775807) (hk : K (a - b)) : (real P).ari .sub .i64 a .i64 b K := ⟨_, by simp [intBin, wrap64 h1 h2], hk⟩
theorem n_mul {K : Int → Prop} (h1 : -9223372036854775808 ≤ a * b) (h2 : a * b ≤ 9223372036854775807) (hk : K (a * b)) : (real P).ari .mul .i64 a .i64 b K := ⟨_, by simp [intBin, wrap64 h1 h2], hk⟩
theorem n_rem {K : Int → Prop} (ha : 0 ≤ a) (hb : 0 < b) (hk : K (a % b)) : (real P).ari .rem k a k b K := by
  refine ⟨a % b, ?_, hk⟩
  have : ¬ b = 0 := by omega
  simp [intBin, this, Int.tmod_eq_emod_of_nonneg ha]
theorem n_slen {s : ByteArray} {K : Int → Prop} (hk : K s.data.toList.length) : (real P).slen s K := hk
theorem n_idx {len off n : Nat} {i : Int} {K : Nat → Prop} (j : Nat) (h : i = j) (hl : j < len) (hk : K (off + j * n)) : (real P).idx len off n i K := ⟨j, h, hl, hk⟩
theorem n_rdI {vs : List Value} {off : Nat} {z : Int} {K : Int → Prop} (h : vs[off]? = some (.int k z)) (hk : K z) : (real P).rdI k vs off K := ⟨z, h, hk⟩
theorem n_rdS {vs : List Value} {off : Nat} {z : ByteArray} {K : ByteArray → Prop} (h : vs[off]? = some (.string z)) (hk : K z) : (real P).rdS vs off K := ⟨z, h, hk⟩
theorem n_rdB {vs : List Value} {off : Nat} {t : Bool} (h : vs[off]? = some (.bool t)) (h1 : t = true → X) (h2 : t = false → Y) : (real P).rdB vs off X Y := ⟨t, h, h1, h2⟩
theorem n_rdA {vs : List Value} {off n : Nat} {K : List Value → Prop} (h : off + n ≤ vs.length) (h0 : n ≠ 0) (hk : K ((vs.drop off).take n)) : (real P).rdA vs off n K := ⟨_, h, h0, rfl, hk⟩
theorem splice_one (vs : List Value) (i : Nat) (v : Value) : splice vs i [v] = vs.set i v := by rw [splice_eq]; rfl
theorem n_wr1 {vs : List Value} {off : Nat} {v : Value} {K : List Value → Prop} (hv : isCell v = true) (hlt : off < vs.length) (hk : K (vs.set off v)) : (real P).wr vs off 1 [v] K :=
  ⟨_, rfl, by simp [hv], by omega, (splice_one _ _ _).symm, hk⟩
theorem n_wr {vs l : List Value} {off n : Nat} {K : List Value → Prop} (hl : l.length = n) (hc : l.all isCell = true) (hlt : off + n ≤ vs.length) (hk : K (splice vs off l)) : (real P).wr vs off n l K :=
  ⟨_, hl, hc, hlt, rfl, hk⟩
theorem n_scmp_eq {x y : ByteArray} (h1 : x.data.toList = y.data.toList → X) (h2 : ¬ x.data.toList = y.data.toList → Y) : (real P).scmp .eql x y X Y :=
  ⟨x.data.toList == y.data.toList, by simp [strBin], fun h => h1 (by simpa using h), fun h => h2 (by simpa using h)⟩
theorem n_scmp_ne {x y : ByteArray} (h1 : ¬ x.data.toList = y.data.toList → X) (h2 : x.data.toList = y.data.toList → Y) : (real P).scmp .neq x y X Y :=
  ⟨!(x.data.toList == y.data.toList), by simp [strBin], fun h => h1 (by simpa using h), fun h => h2 (by simpa using h)⟩
theorem n_minI {ats : Array TypeId} {T : TypeId} {K : Int → Prop} (hk : K (if b < a then b else a)) : (real P).minI .min ats T .i64 a b K := by
  refine ⟨_, fun H => ?_, hk⟩
  have h : pureVal P (Builtin.min_ ats T #[.int .i64 a, .int .i64 b]) = some (.int .i64 (if b < a then b else a)) := by
    simp [pureVal, Builtin.min_, Builtin.min2]
    rfl
  simp only [aBuiltin, plainL, plain, Bool.and_self]
  simp [h]

theorem bytes_ext {x y : ByteArray} (h : x.data.toList = y.data.toList) : x = y := by
  apply ByteArray.ext; exact Array.ext' h
theorem setAll_get (vs l : List Value) : ∀ (i j : Nat), i + l.length ≤ vs.length → (setAll vs i l)[j]? = if i ≤ j ∧ j < i + l.length then l[j - i]? else vs[j]? := by
  induction l generalizing vs with
  | nil => intro i j _; simp only [setAll, List.length_nil]; rw [if_neg (by omega)]
  | cons v l ih =>
    intro i j hle
    simp only [List.length_cons] at hle
    simp only [setAll]
    rw [ih (vs.set i v) (i + 1) j (by simp; omega), List.length_cons]
    by_cases e : j = i
    · subst e
      rw [if_neg (by omega), if_pos (by omega), List.getElem?_set_self (by omega)]; simp
    · by_cases h : i + 1 ≤ j ∧ j < i + 1 + l.length
      · rw [if_pos h, if_pos (by omega)]
        have : j - i = (j - (i + 1)) + 1 := by omega
        rw [this, List.getElem?_cons_succ]
      · rw [if_neg h, if_neg (by omega), List.getElem?_set_ne (by omega)]
theorem setAll_len (l : List Value) : ∀ (vs : List Value) (i : Nat), (setAll vs i l).length = vs.length := by
  induction l with
  | nil => intro vs i; rfl
  | cons v l ih => intro vs i; simp only [setAll, ih, List.length_set]
theorem splice_get {vs l : List Value} {i j : Nat} (h : i + l.length ≤ vs.length) : (splice vs i l)[j]? = if i ≤ j ∧ j < i + l.length then l[j - i]? else vs[j]? := by rw [splice_eq]; exact setAll_get _ _ _ _ h
theorem splice_len {vs l : List Value} {i : Nat} : (splice vs i l).length = vs.length := by rw [splice_eq]; exact setAll_len _ _ _
end
end
end Go.Abs
