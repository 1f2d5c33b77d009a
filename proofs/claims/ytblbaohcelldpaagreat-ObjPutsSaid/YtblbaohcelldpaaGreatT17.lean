/- The reference's bytes: what the code comes to. -/
import Derived.Test.YtblbaohcelldpaaGreatT15
namespace Go.Proofs.YtblbaohcelldpaaGreat.Ob
open Go Go.Abs Go.Tlv
set_option linter.unusedVariables false
set_option maxRecDepth 100000
noncomputable section
def rM : Int → Int → (ByteArray → Prop) → Prop := fun m n K => ∃ k : Nat, n = k ∧ (k : Int) < m ∧ m < 18446744073709551616 ∧ K (bytesOf (numB k))
theorem rnumC (m : Nat) (hm : m < 18446744073709551616) : Is (gRNum (real Tryz.prog) rM (m : Int) (PQ (.string (bytesOf (numB m))))) := by
  refine ⟨?_⟩
  rw [gRNum_eq]
  refine n_eqN (d := 0) (fun h => PQ.of (by subst h; rw [numB_zero]) rfl) (fun h => ?_)
  have hq : m / 256 < 18446744073709551616 := by omega
  have hl : (numB (m / 256)).length ≤ 8 := numB_len (k := 8) (by omega)
  refine n_quo (d := 256) (by omega) hm ⟨m / 256, rfl, by omega, by omega, n_remN (d := 256) (by omega) (n_conv8 t23 t5 (n_str (n_cat (by simp only [bytes_toList, List.length_map, List.length_cons, List.length_nil]; omega) (PQ.of ?_ rfl))))⟩
  rw [numB_pos (show 0 < m by omega)]
  have e : m % 256 % 256 = m % 256 := by omega
  simp only [bytes_toList, List.map_cons, List.map_nil, e, Int.toNat_natCast]
theorem rnumH (m : Nat) : m < 18446744073709551616 → ∀ B H, CallH Tryz.prog 100 B 105 [.int .u64 (m : Int)] H (.returned (.string (bytesOf (numB m)))) H := by
  induction m using Nat.strongRecOn with
  | _ m ih =>
    intro hm B H
    refine pu_mkB okp (W := W0r rM m) (kn_pu (pu1 ?_)) lp_none rfl rfl (rnumC m hm) B H
    intro args K h
    unfold sRNum at h
    split at h <;> try exact h.elim
    obtain ⟨k, rfl, hk, _, hK⟩ := h
    exact ⟨_, ih k (by omega) (by omega), hK⟩
theorem twoC (m : Nat) (hm : m ≤ 9223372036854775807) : Is (gTwo (real Tryz.prog) (m : Int) (PQ (.string (bytesOf (two m))))) := by
  refine ⟨?_⟩
  rw [gTwo_eq]
  refine n_quoI (d := 256) (by omega) hm (n_toU8 t3 t5 (n_remN (d := 256) (by omega) (n_toU8 t3 t5 (n_str (PQ.of ?_ rfl)))))
  have e : m % 256 % 256 = m % 256 := by omega
  simp only [two, List.map_cons, List.map_nil, e, Int.toNat_natCast]
def MRr : Mr where
  tx := fun rs kind s K => ∃ (l : List At) (k : Nat), rs = rowsA l ∧ kind = k ∧ l.length < 1000 ∧ K (rowsA (addT l k s))
  nu := fun rs kind n K => ∃ (l : List At) (k m : Nat), rs = rowsA l ∧ kind = k ∧ n = m ∧ m < 18446744073709551616 ∧ l.length < 1000 ∧ K (rowsA (addN l k m))
  en := fun rs K => ∃ l : List At, rs = rowsA l ∧ (∀ a ∈ l, a.t < 256) ∧ K (bytesOf (encS l)) (encE 0 l : Int)
  nb := fun n K => ∃ m : Nat, n = m ∧ m < 18446744073709551616 ∧ K (bytesOf (numB m))
  tw := fun n K => ∃ m : Nat, n = m ∧ m ≤ 9223372036854775807 ∧ K (bytesOf (two m))
theorem pu137 : PuOk Tryz.prog 100 137 (sTwo MRr) := by
  intro args K h
  unfold sTwo at h
  split at h <;> try exact h.elim
  obtain ⟨m, rfl, hm, hK⟩ := h
  exact ⟨_, fun B H => pu_mk okp kn_none lp_none rfl rfl (twoC m hm) B H, hK⟩
theorem pu105 : PuOk Tryz.prog 100 105 (sRNb MRr) := by
  intro args K h
  unfold sRNb at h
  split at h <;> try exact h.elim
  obtain ⟨m, rfl, hm, hK⟩ := h
  exact ⟨_, rnumH m hm, hK⟩
theorem PQ_frz {l : List At} {objs : List (Option AObj)} {e i n : Nat} {lo : Bool} (ho : objs[i]? = some (some (.cells (cellsA l) e 2 lo true))) (hn : n = l.length) : PQ (dsl (rowsA l)) (.slice (some ⟨100 + i, 0, none⟩) n n) objs := by
  subst hn
  refine (wk_freeze (G := 100) (n0 := 100) (i := i) (rows := rowsA l) (vals := [.slice (some ⟨100 + i, 0, none⟩) l.length l.length]) (vals' := [dsl (rowsA l)]) ho (flatA l) (cellsA_below l) (by omega) rfl (fun j v v' h1 h2 => ?_)).trans (wk_pure rfl)
  cases j with
  | succ j => simp at h1
  | zero =>
    simp only [List.getElem?_cons_zero, Option.some.injEq] at h1 h2
    subst h1; subst h2
    have hr : (rowsA l).length = l.length := by simp [rowsA]
    exact .inr ⟨rfl, l.length, Nat.le_of_eq hr, .inl (by rw [hr])⟩
theorem cellsA_cell (l : List At) : (cellsA l).all isCell = true := by
  induction l with
  | nil => rfl
  | cons a l ih => show (true && (true && (cellsA l).all isCell)) = true; rw [ih]; rfl
theorem rtC (l : List At) (k : Nat) (s : ByteArray) (hl : l.length < 1000) : Is (gRT (real Tryz.prog) (rowsA l) (k : Int) s (PQ (dsl (rowsA (addT l k s))))) := by
  refine ⟨?_⟩
  rw [gRT_eq]
  have hr : (rowsA l).length = l.length := by simp [rowsA]
  refine n_scmp_eq (fun h => PQ.of (by rw [show addT l k s = l from if_pos h] <;> rfl) rfl) (fun h => ?_)
  have e : addT l k s = l ++ [⟨k, s⟩] := if_neg h
  rw [e]
  refine ⟨cellsA l, flatA l, cellsA_cell l, fun h0 => ?_, fun h0 => ⟨by rw [hr, tops_eq]; omega, by omega, ?_⟩⟩
  · have hl0 : l = [] := List.eq_nil_of_length_eq_zero (by rw [← hr, h0]; rfl)
    subst hl0
    exact n_appX (by omega) rfl rfl (by rw [tops_eq]; omega) (by omega) (PQ_frz (i := 2) rfl rfl)
  · have hpos : l.length ≠ 0 := fun e => h0 (List.eq_nil_of_length_eq_zero (by rw [hr, e]))
    refine n_base_c (by rw [List.nil_append, cellsA_len, hr, Nat.zero_add]) (by omega) (by omega) (n_appX (by omega) rfl rfl (by rw [tops_eq]; omega) (by omega) ?_)
    rw [List.nil_append, isA_snoc]
    exact PQ_frz (i := 3) rfl (by rw [List.length_append, hr, Nat.zero_add] <;> rfl)
theorem rs_nil {P : Program} {f : FuncId} {rest : List Value} {v : Value} (h : ∀ B H, CallH P 100 B f (dsl [] :: rest) H (.returned v) H) : ∀ B H, CallH P 100 B f (.slice none 0 0 :: rest) H (.returned v) H :=
  fun B H => callh_weak (.cons .nilD (WeakL.refl _)) (h B H)
theorem rs_case {v : Value} {K : List Value → Prop} (h : rsOf v K) : ∃ rs, K rs ∧ (v = dsl rs ∨ (v = .slice none 0 0 ∧ rs = [])) := by
  unfold rsOf at h
  split at h <;> try exact h.elim
  · exact ⟨[], h, .inr ⟨rfl, rfl⟩⟩
  · split at h <;> try exact h.elim
    rename_i e1
    obtain rfl := Nat.eq_of_beq_eq_true e1
    exact ⟨_, h, .inl rfl⟩
theorem rs_call {P : Program} {f : FuncId} {v : Value} {rs rest : List Value} {r : Value} (hv : v = dsl rs ∨ (v = .slice none 0 0 ∧ rs = [])) (h : ∀ B H, CallH P 100 B f (dsl rs :: rest) H (.returned r) H) : ∀ B H, CallH P 100 B f (v :: rest) H (.returned r) H := by
  rcases hv with rfl | ⟨rfl, rfl⟩
  · exact h
  · exact rs_nil h
theorem pu106 : PuOk Tryz.prog 100 106 (sRText MRr) := by
  intro args K h
  unfold sRText at h
  split at h <;> try exact h.elim
  rename_i v kind s
  obtain ⟨rs, ⟨l, k, rfl, rfl, hl, hK⟩, hv⟩ := rs_case h
  exact ⟨_, rs_call hv (fun B H => pu_mk okp kn_none lp_none rfl rfl (rtC l k s hl) B H), hK⟩
theorem rnC (l : List At) (k m : Nat) (hm : m < 18446744073709551616) (hl : l.length < 1000) : Is (gRN (real Tryz.prog) MRr (rowsA l) (k : Int) (m : Int) (PQ (dsl (rowsA (addN l k m))))) := by
  refine ⟨?_⟩
  rw [gRN_eq]
  exact ⟨m, rfl, hm, l, k, rfl, rfl, hl, PQ.of rfl rfl⟩
theorem pu2 {g g' : FuncId} {S S' : List Value → (Value → Prop) → Prop} (h : PuOk Tryz.prog 100 g S) (h' : PuOk Tryz.prog 100 g' S') : ∀ x ∈ [(g, S), (g', S')], PuOk Tryz.prog 100 x.1 x.2 := fun x hx => by
  simp only [List.mem_cons, List.not_mem_nil, or_false] at hx
  rcases hx with rfl | rfl
  · exact h
  · exact h'
theorem pu101 : PuOk Tryz.prog 100 101 (sRNumT MRr) := by
  intro args K h
  unfold sRNumT at h
  split at h <;> try exact h.elim
  rename_i v kind n
  obtain ⟨rs, ⟨l, k, m, rfl, rfl, rfl, hm, hl, hK⟩, hv⟩ := rs_case h
  exact ⟨_, rs_call hv (fun B H => pu_mk okp (kn_pu (pu2 pu105 pu106)) lp_none rfl rfl (rnC l k m hm hl) B H), hK⟩
end
end Go.Proofs.YtblbaohcelldpaaGreat.Ob
/- The reference's bytes of attributes and lists: what the code comes to. -/
namespace Go.Tlv
open Go Go.Abs
def lastT (l : List At) : Nat → Nat
  | 0 => 0
  | i + 1 => match l[i]? with
    | some a => a.t
    | none => 0
end Go.Tlv
namespace Go.Proofs.YtblbaohcelldpaaGreat.Ob
open Go Go.Abs Go.Tlv
set_option linter.unusedVariables false
set_option maxRecDepth 100000
noncomputable section
structure InvS (l : List At) (i : Nat) : Prop where
  le : i ≤ l.length
  eq : encE 0 l = encE (lastT l i) (l.drop i)
  il : i ≤ lastT l i
  la : lastT l i ≤ 255
  bd : (attsB (l.take i)).length ≤ lastT l i * 65538
def IS (l : List At) (p : {i : Nat // InvS l i}) : List Value × List (Option AObj) :=
  ([dsl (rowsA l), .string (bytesOf (attsB (l.take p.1))), .int .i64 (p.1 : Int)], [])
def RS (l : List At) (e : Exit) (v : List Value) (o : List (Option AObj)) : Prop :=
  (encE 0 l = 0 ∧ e = .exit 0 ∧ v = [top, top, .string (bytesOf (attsB l))] ∧ o = []) ∨
  (encE 0 l ≠ 0 ∧ e = .ret ∧ v = [.string (bytesOf []), .int .i64 (encE 0 l : Int), top] ∧ o = [])
theorem drop0 {vals : List Value} {extra : List (Option AObj)} (h : belowL (100 + 0) vals = true) : Wk 100 (100 + 0) vals extra vals [] := wk_drop (pre := []) rfl h (fun i o h => by simp at h)
theorem str1 {t : Nat} (h : t < 256) : bytesOf ([(t : Int)].map fun n => UInt8.ofNat n.toNat) = bytesOf [UInt8.ofNat t] := rfl
theorem roundS (l : List At) (ht : ∀ a ∈ l, a.t < 256) (p : {i : Nat // InvS l i}) :
    Is (wpe Tryz.prog (real Tryz.prog) (howOf S0 Sp0 [] [] [(137, sTwo MRr)] []) 300 (.code false (loopIn Tryz.prog 130 3) (stOf 100 75 [0, 4, 5] [] (IS l p))) (roundQ 100 [0, 4, 5] [2, 3, 4] 75 []
      (fun vals objs => ∃ a' : {i : Nat // InvS l i}, l.length - a'.1 < l.length - p.1 ∧ Wk 100 (100 + 0) vals objs (IS l a').1 (IS l a').2 ∧ ∀ e v o, RS l e v o → RS l e v o)
      (fun e vals objs => ∃ v o, Wk 100 (100 + 0) vals objs v o ∧ RS l e v o))) := by
  refine ⟨?_⟩
  obtain ⟨i, inv⟩ := p
  have hi := inv.le
  have hbd := inv.bd
  have heq := inv.eq
  have hil := inv.il
  have hla := inv.la
  show gREncR (real Tryz.prog) MRr (rowsA l) (bytesOf (attsB (l.take i))) (i : Int) _ _
  rw [gREncR_eq]
  have hr : (rowsA l).length = l.length := by simp [rowsA]
  refine n_dlen l.length hr (n_ltN (fun hlt => ?_) (fun hge => ?_))
  · have ha : l[i]? = some l[i] := by simp [hlt]
    generalize l[i] = a at ha
    have hat := ht a (List.mem_of_getElem? ha)
    have htake := take_succ ha
    have hlast : lastT l (i + 1) = a.t := by simp only [lastT, ha]
    rw [drop_succ ha] at heq
    simp only [encE] at heq
    have hk : (attsB (l.take i)).length ≤ 255 * 65538 := Nat.le_trans hbd (Nat.mul_le_mul_right _ hla)
    have bad3 : (a.t ≤ lastT l i ∨ a.len = 0) → ∃ v o, Wk 100 (100 + 0) [.string (bytesOf []), .int .i64 (3 : Int), .string (bytesOf (attsB (l.take i)))] [] v o ∧ RS l .ret v o := fun h => by
      rw [if_pos h] at heq
      exact ⟨_, _, wk_ret, .inr ⟨by omega, rfl, by rw [heq]; rfl, rfl⟩⟩
    have rest : ¬ (a.t ≤ lastT l i) → ¬ a.v.data.toList = (bytesOf []).data.toList → (65535 < a.v.data.toList.length → ∃ v o, Wk 100 (100 + 0) [.string (bytesOf []), .int .i64 (5 : Int), .string (bytesOf (attsB (l.take i)))] [] v o ∧ RS l .ret v o) ∧
        (¬ 65535 < a.v.data.toList.length → InvS l (i + 1)) := by
      intro h1 h2
      rw [toList_nil] at h2
      rw [if_neg (fun h => h.elim (fun h => h1 h) (fun h => h2 h))] at heq
      constructor
      · intro h3
        rw [if_pos (show 65535 < a.len from h3)] at heq
        exact ⟨_, _, wk_ret, .inr ⟨by omega, rfl, by rw [heq]; rfl, rfl⟩⟩
      · intro h3
        rw [if_neg (show ¬ 65535 < a.len from h3)] at heq
        refine ⟨hlt, by rw [hlast]; exact heq, by rw [hlast]; omega, by rw [hlast]; omega, ?_⟩
        rw [hlast, htake, attsB_snoc, List.length_append]
        have h4 : (attB a).length = 3 + a.len := by simp [attB, two, At.len]; omega
        have h5 : a.len ≤ 65535 := by show a.v.data.toList.length ≤ 65535; omega
        have h6 : (lastT l i + 1) * 65538 ≤ a.t * 65538 := Nat.mul_le_mul_right _ (by omega)
        omega
    have hd := rowsA_get ha
    have fin : ∀ h3 : ¬ 65535 < a.v.data.toList.length, InvS l (i + 1) → ∃ a' : {i : Nat // InvS l i}, l.length - a'.1 < l.length - i ∧ Wk 100 (100 + 0) [dsl (rowsA l), .string (bytesOf (((attsB (l.take i) ++ [UInt8.ofNat a.t]) ++ two a.v.data.toList.length) ++ a.v.data.toList)), .int .i64 ((i + 1 : Nat) : Int)] [some (.cells [.int .u8 (a.t : Int)] 5 1 false true)] (IS l a').1 (IS l a').2 ∧ ∀ e v o, RS l e v o → RS l e v o := by
      intro h3 hinv
      refine ⟨⟨i + 1, hinv⟩, show l.length - (i + 1) < l.length - i by omega, ?_, fun _ _ _ h => h⟩
      have e : ((attsB (l.take i) ++ [UInt8.ofNat a.t]) ++ two a.v.data.toList.length) ++ a.v.data.toList = attsB (l.take (i + 1)) := by
        rw [htake, attsB_snoc]; simp [attB, At.len]
      rw [e]
      exact drop0 rfl
    have tl : (two a.v.data.toList.length).length = 2 := rfl
    refine n_dget i rfl hd rfl (n_rdI (z := (a.t : Int)) rfl (n_rdS (z := a.v) rfl (n_eqN (d := 0) (fun h0 => ⟨rfl, bad3 (.inl (by omega))⟩) (fun h0 => n_gtN (d := 0) (fun hpos => ?_) (fun hz => ?_)))))
    · obtain ⟨i', rfl⟩ : ∃ i', i = i' + 1 := ⟨i - 1, by omega⟩
      have hb : l[i']? = some l[i'] := by simp [show i' < l.length by omega]
      generalize l[i'] = b at hb
      have hlb : lastT l (i' + 1) = b.t := by simp only [lastT, hb]
      refine n_dget (i' + 1) rfl hd rfl (n_rdI (z := (a.t : Int)) rfl (n_rdS (z := a.v) rfl (n_sub (by omega) (by omega) (n_dget i' (by omega) (rowsA_get hb) rfl (n_rdI (z := (b.t : Int)) rfl (n_rdS (z := b.v) rfl (n_leN (fun h1 => ⟨rfl, bad3 (.inl (by omega))⟩) (fun h1 => ?_))))))))
      refine n_dget (i' + 1) rfl hd rfl (n_rdI (z := (a.t : Int)) rfl (n_rdS (z := a.v) rfl (n_scmp_eq (fun h2 => ⟨rfl, bad3 (.inr (toList_nil.1 h2))⟩) (fun h2 => ?_))))
      obtain ⟨r1, r2⟩ := rest (by omega) h2
      refine n_dget (i' + 1) rfl hd rfl (n_rdI (z := (a.t : Int)) rfl (n_rdS (z := a.v) rfl (n_slen (n_gtN (d := 65535) (fun h3 => ⟨rfl, r1 h3⟩) (fun h3 => ?_)))))
      have h3' : ¬ 65535 < a.v.data.toList.length := by omega
      refine n_dget (i' + 1) rfl hd rfl (n_rdI (z := (a.t : Int)) rfl (n_rdS (z := a.v) rfl (n_str (n_cat ?_ (n_dget (i' + 1) rfl hd rfl (n_rdI (z := (a.t : Int)) rfl (n_rdS (z := a.v) rfl (n_slen ⟨a.v.data.toList.length, rfl, by omega, n_cat ?_ (n_dget (i' + 1) rfl hd rfl (n_rdI (z := (a.t : Int)) rfl (n_rdS (z := a.v) rfl (n_cat ?_ (n_inc (by omega) ⟨rfl, fin h3' (r2 h3')⟩)))))⟩))))))))
      · simp only [bytes_toList, List.length_map, List.length_cons, List.length_nil]; omega
      · simp only [bytes_toList, List.length_append, List.length_map, List.length_cons, List.length_nil, tl]; omega
      · simp only [bytes_toList, List.length_append, List.length_map, List.length_cons, List.length_nil, tl]; omega
    · have hi0 : i = 0 := by omega
      subst hi0
      have hl0 : lastT l 0 = 0 := rfl
      refine n_dget 0 rfl hd rfl (n_rdI (z := (a.t : Int)) rfl (n_rdS (z := a.v) rfl (n_scmp_eq (fun h2 => ⟨rfl, bad3 (.inr (toList_nil.1 h2))⟩) (fun h2 => ?_))))
      obtain ⟨r1, r2⟩ := rest (by omega) h2
      refine n_dget 0 rfl hd rfl (n_rdI (z := (a.t : Int)) rfl (n_rdS (z := a.v) rfl (n_slen (n_gtN (d := 65535) (fun h3 => ⟨rfl, r1 h3⟩) (fun h3 => ?_)))))
      have h3' : ¬ 65535 < a.v.data.toList.length := by omega
      refine n_dget 0 rfl hd rfl (n_rdI (z := (a.t : Int)) rfl (n_rdS (z := a.v) rfl (n_str (n_cat ?_ (n_dget 0 rfl hd rfl (n_rdI (z := (a.t : Int)) rfl (n_rdS (z := a.v) rfl (n_slen ⟨a.v.data.toList.length, rfl, by omega, n_cat ?_ (n_dget 0 rfl hd rfl (n_rdI (z := (a.t : Int)) rfl (n_rdS (z := a.v) rfl (n_cat ?_ (n_inc (by omega) ⟨rfl, fin h3' (r2 h3')⟩)))))⟩))))))))
      · simp only [bytes_toList, List.length_map, List.length_cons, List.length_nil]; omega
      · simp only [bytes_toList, List.length_append, List.length_map, List.length_cons, List.length_nil, tl]; omega
      · simp only [bytes_toList, List.length_append, List.length_map, List.length_cons, List.length_nil, tl]; omega
  · have e : i = l.length := by omega
    subst e
    rw [List.drop_length] at heq
    refine ⟨rfl, [top, top, .string (bytesOf (attsB l))], [], ?_, .inl ⟨heq, rfl, rfl, rfl⟩⟩
    rw [List.take_length]; exact Wk.refl _ _ _ _
def LSs : LSt := fun c n vals obs A E => ∃ l : List At, (∀ a ∈ l, a.t < 256) ∧ c = loopIn Tryz.prog 130 3 ∧ n = 75 ∧ vals = [dsl (rowsA l), .string (bytesOf []), .int .i64 (0 : Int)] ∧ obs = [] ∧
  (encE 0 l = 0 → A (bytesOf (attsB l))) ∧ (encE 0 l ≠ 0 → E (encE 0 l : Int))
theorem lpSs : LoopOk Tryz.prog 100 [0, 4, 5] (sLoopS LSs) := by
  show LoopOk Tryz.prog 100 [0, 4, 5] (lpS [2, 3, 4] _)
  refine lp_mk okp (W := howOf S0 Sp0 [] [] [(137, sTwo MRr)] []) (kn_pu (pu1 pu137)) lp_none ?_
  rintro c n vals obs K ⟨l, ht, hc, hn, hv, ho, hA, hE⟩
  subst hc; subst hn; subst hv; subst ho
  refine ⟨{i : Nat // InvS l i}, 0, 300, fun p => l.length - p.1, IS l, fun _ e v o => RS l e v o, ⟨0, ⟨Nat.zero_le _, rfl, by simp [lastT], by simp [lastT], by simp [attsB]⟩⟩, rfl, Wk.refl _ _ _ _, ?_, roundS l ht⟩
  intro e v o hR
  rcases hR with ⟨h1, rfl, rfl, rfl⟩ | ⟨h1, rfl, rfl, rfl⟩
  · exact hA h1
  · exact hE h1
theorem rencC (l : List At) (ht : ∀ a ∈ l, a.t < 256) : Is (gREnc (real Tryz.prog) LSs (rowsA l) (PQ (retE l))) := by
  refine ⟨?_⟩
  rw [gREnc_eq]
  refine ⟨l, ht, rfl, rfl, rfl, rfl, fun h => ?_, fun h => ?_⟩
  · exact PQ.of (by unfold retE encS; rw [if_pos h, h]; rfl) rfl
  · exact PQ.of (by unfold retE encS; rw [if_neg h]) rfl
theorem pu130 : PuOk Tryz.prog 100 130 (sREnc MRr) := by
  intro args K h
  unfold sREnc at h
  split at h <;> try exact h.elim
  obtain ⟨rs, ⟨l, rfl, ht, hK⟩, hv⟩ := rs_case h
  exact ⟨_, rs_call hv (fun B H => pu_mk okp kn_none (lp1 lpSs) rfl rfl (rencC l ht) B H), hK⟩
structure InvT (l : List ByteArray) (i : Nat) : Prop where
  le : i ≤ l.length
  eq : listE l = listE (l.drop i)
  bd : (listBB (l.take i)).length ≤ i * 65537
def IT (l : List ByteArray) (p : {i : Nat // InvT l i}) : List Value × List (Option AObj) :=
  ([dsl (rowsOf cStr l), .string (bytesOf (listBB (l.take p.1))), .int .i64 (p.1 : Int)], [])
def RT (l : List ByteArray) (e : Exit) (v : List Value) (o : List (Option AObj)) : Prop :=
  (listE l = 0 ∧ e = .exit 0 ∧ v = [top, top, .string (bytesOf (listBB l))] ∧ o = []) ∨
  (listE l ≠ 0 ∧ e = .ret ∧ v = [.string (bytesOf []), .int .i64 (listE l : Int), top] ∧ o = [])
theorem roundT (l : List ByteArray) (hl : l.length < 1000) (p : {i : Nat // InvT l i}) :
    Is (wpe Tryz.prog (real Tryz.prog) (howOf S0 Sp0 [] [] [(137, sTwo MRr)] []) 300 (.code false (loopIn Tryz.prog 129 3) (stOf 100 32 [0, 4, 5] [] (IT l p))) (roundQ 100 [0, 4, 5] [2, 3, 4] 32 []
      (fun vals objs => ∃ a' : {i : Nat // InvT l i}, l.length - a'.1 < l.length - p.1 ∧ Wk 100 (100 + 0) vals objs (IT l a').1 (IT l a').2 ∧ ∀ e v o, RT l e v o → RT l e v o)
      (fun e vals objs => ∃ v o, Wk 100 (100 + 0) vals objs v o ∧ RT l e v o))) := by
  refine ⟨?_⟩
  obtain ⟨i, inv⟩ := p
  have hi := inv.le
  have hbd := inv.bd
  have heq := inv.eq
  show gRLsR (real Tryz.prog) MRr (rowsOf cStr l) (bytesOf (listBB (l.take i))) (i : Int) _ _
  rw [gRLsR_eq]
  refine n_dlen l.length (rowsOf_len _ _) (n_ltN (fun hlt => ?_) (fun hge => ?_))
  · have ha : l[i]? = some l[i] := by simp [hlt]
    generalize l[i] = a at ha
    have htake := take_succ ha
    rw [drop_succ ha] at heq
    simp only [listE] at heq
    have hk : (listBB (l.take i)).length ≤ 1000 * 65537 := Nat.le_trans hbd (Nat.mul_le_mul_right _ (by omega))
    have hd := rowsOf_get (c := cStr) ha
    have tl : (two a.data.toList.length).length = 2 := rfl
    refine n_dget i rfl hd rfl (n_rdS (z := a) rfl (n_slen (n_gtN (d := 65535) (fun h3 => ?_) (fun h3 => ?_))))
    · rw [if_pos (show 65535 < slen a from h3)] at heq
      exact ⟨rfl, _, _, wk_ret, .inr ⟨by omega, rfl, by rw [heq]; rfl, rfl⟩⟩
    rw [if_neg (show ¬ 65535 < slen a by show ¬ 65535 < a.data.toList.length; omega)] at heq
    have hinv : InvT l (i + 1) := by
      refine ⟨hlt, heq, ?_⟩
      have hitem : (itemB a).length = 2 + a.data.toList.length := by simp [itemB, two, slen]; omega
      rw [htake, listBB_snoc, List.length_append, hitem, Nat.add_mul]
      omega
    refine n_dget i rfl hd rfl (n_rdS (z := a) rfl (n_slen ⟨a.data.toList.length, rfl, by omega, n_cat ?_ (n_dget i rfl hd rfl (n_rdS (z := a) rfl (n_cat ?_ (n_inc (by omega) ⟨rfl, ⟨i + 1, hinv⟩, ?_, ?_, fun _ _ _ h => h⟩))))⟩))
    · simp only [bytes_toList, tl]; omega
    · simp only [bytes_toList, List.length_append, tl]; omega
    · show l.length - (i + 1) < l.length - i
      omega
    · have e : (listBB (l.take i) ++ two a.data.toList.length) ++ a.data.toList = listBB (l.take (i + 1)) := by
        rw [htake, listBB_snoc]; simp [itemB, slen]
      simp only [bytes_toList]
      rw [e]
      exact drop0 rfl
  · have e : i = l.length := by omega
    subst e
    rw [List.drop_length] at heq
    refine ⟨rfl, [top, top, .string (bytesOf (listBB l))], [], ?_, .inl ⟨heq, rfl, rfl, rfl⟩⟩
    rw [List.take_length]; exact Wk.refl _ _ _ _
def LTs : LSt := fun c n vals obs A E => ∃ l : List ByteArray, l.length < 1000 ∧ c = loopIn Tryz.prog 129 3 ∧ n = 32 ∧ vals = [dsl (rowsOf cStr l), .string (bytesOf []), .int .i64 (0 : Int)] ∧ obs = [] ∧
  (listE l = 0 → A (bytesOf (listBB l))) ∧ (listE l ≠ 0 → E (listE l : Int))
theorem lpTs : LoopOk Tryz.prog 100 [0, 4, 5] (sLoopS LTs) := by
  show LoopOk Tryz.prog 100 [0, 4, 5] (lpS [2, 3, 4] _)
  refine lp_mk okp (W := howOf S0 Sp0 [] [] [(137, sTwo MRr)] []) (kn_pu (pu1 pu137)) lp_none ?_
  rintro c n vals obs K ⟨l, hl, hc, hn, hv, ho, hA, hE⟩
  subst hc; subst hn; subst hv; subst ho
  refine ⟨{i : Nat // InvT l i}, 0, 300, fun p => l.length - p.1, IT l, fun _ e v o => RT l e v o, ⟨0, ⟨Nat.zero_le _, rfl, by simp [listBB]⟩⟩, rfl, Wk.refl _ _ _ _, ?_, roundT l hl⟩
  intro e v o hR
  rcases hR with ⟨h1, rfl, rfl, rfl⟩ | ⟨h1, rfl, rfl, rfl⟩
  · exact hA h1
  · exact hE h1
theorem rlsC (l : List ByteArray) (hl : l.length < 1000) : Is (gRLs (real Tryz.prog) LTs (rowsOf cStr l) (PQ (retL l))) := by
  refine ⟨?_⟩
  rw [gRLs_eq]
  refine ⟨l, hl, rfl, rfl, rfl, rfl, fun h => ?_, fun h => ?_⟩
  · exact PQ.of (by unfold retL listS; rw [if_pos h, h]; rfl) rfl
  · exact PQ.of (by unfold retL listS; rw [if_neg h]) rfl
theorem rlsH (l : List ByteArray) (hl : l.length < 1000) (B : Base) (H : Heap) : CallH Tryz.prog 100 B 129 [dsl (rowsOf cStr l)] H (.returned (retL l)) H :=
  pu_mk okp kn_none (lp1 lpTs) rfl rfl (rlsC l hl) B H
theorem ok129 : SumOk Tryz.prog 100 129 (sListS MSr) := by
  intro args H K h
  unfold sListS at h
  split at h <;> try exact h.elim
  rename_i t b k k'
  split at h <;> try exact h.elim
  rename_i e1
  obtain rfl := Nat.eq_of_beq_eq_true e1
  obtain ⟨rfl, l, hl, rfl, hob, hK⟩ := h
  refine ⟨_, H, fun B => ?_, hK⟩
  cases l with
  | nil => exact callh_weak (.cons .emptyMD .nil) (rlsH [] hl B H)
  | cons s l =>
    refine callh_weak (.cons (.unmark (by simp)) .nil) ?_
    exact own_deep (pre := []) (post := []) (fun B H => rlsH (s :: l) hl B H) hob (flatStr (s :: l)) (belowStr 0 (s :: l)) (by omega) (by rw [rowsOf_len]) (Nat.le_refl _) rfl rfl rfl B
end
end Go.Proofs.YtblbaohcelldpaaGreat.Ob
