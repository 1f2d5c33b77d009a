/- Lists as bytes: what the code comes to. -/
import Derived.Test.YtblbaohcelldpaaGreatT10
namespace Go.Tlv
open Go Go.Abs
abbrev slen (s : ByteArray) : Nat := s.data.toList.length
def listE : List ByteArray → Nat
  | [] => 0
  | s :: l => if 65535 < slen s then 5 else listE l
def itemB (s : ByteArray) : List UInt8 := two (slen s) ++ s.data.toList
def listBB (l : List ByteArray) : List UInt8 := l.flatMap itemB
def listS (l : List ByteArray) : List UInt8 := if listE l = 0 then listBB l else []
theorem listBB_snoc (l : List ByteArray) (s : ByteArray) : listBB (l ++ [s]) = listBB l ++ itemB s := by simp [listBB]
theorem cellsA_belowN (n : Nat) (l : List At) : belowL n (cellsA l) = true := by
  induction l with
  | nil => rfl
  | cons a l ih => show (true && (true && belowL n (cellsA l))) = true; rw [ih]; rfl
end Go.Tlv
namespace Go.Proofs.YtblbaohcelldpaaGreat.Ob
open Go Go.Abs Go.Tlv
set_option linter.unusedVariables false
set_option maxRecDepth 100000
noncomputable section
structure InvL (l : List ByteArray) (i : Nat) : Prop where
  le : i ≤ l.length
  eq : listE l = listE (l.drop i)
  bd : (listBB (l.take i)).length ≤ i * 65537
def IL (l : List ByteArray) (p : {i : Nat // InvL l i}) : List Value × List (Option AObj) :=
  ([mkS 100 (listBB (l.take p.1)).length, dsl (rowsOf cStr l), .int .i64 (l.length : Int), .int .i64 (p.1 : Int)], [mo (cellsB (listBB (l.take p.1))) 5 1])
def RL (l : List ByteArray) (e : Exit) (v : List Value) (o : List (Option AObj)) : Prop :=
  (listE l = 0 ∧ e = .exit 0 ∧ v = [top, top, mkS 100 (listBB l).length] ∧ o = [mo (cellsB (listBB l)) 5 1]) ∨
  (listE l ≠ 0 ∧ e = .ret ∧ v = [.string (bytesOf []), .int .i64 (listE l : Int), top] ∧ o = [])
theorem take_succ {α : Type} {l : List α} {i : Nat} {a : α} (ha : l[i]? = some a) : l.take (i + 1) = l.take i ++ [a] := by rw [List.take_add_one, ha]; rfl
theorem drop_succ {α : Type} {l : List α} {i : Nat} {a : α} (ha : l[i]? = some a) : l.drop i = a :: l.drop (i + 1) := by
  have hlt := (List.getElem?_eq_some_iff.1 ha).1
  have h2 := List.drop_eq_getElem_cons hlt
  rw [List.getElem?_eq_getElem hlt] at ha
  simp only [Option.some.injEq] at ha
  rw [h2, ha]
theorem roundL (l : List ByteArray) (hl : l.length < 1000) (p : {i : Nat // InvL l i}) :
    Is (wpe Tryz.prog (real Tryz.prog) WS 300 (.code false (loopIn Tryz.prog 125 3) (stOf 100 26 [4, 7, 8, 9] [] (IL l p))) (roundQ 100 [4, 7, 8, 9] [2, 3, 4] 26 []
      (fun vals objs => ∃ a' : {i : Nat // InvL l i}, l.length - a'.1 < l.length - p.1 ∧ Wk 100 (100 + 0) vals objs (IL l a').1 (IL l a').2 ∧ ∀ e v o, RL l e v o → RL l e v o)
      (fun e vals objs => ∃ v o, Wk 100 (100 + 0) vals objs v o ∧ RL l e v o))) := by
  refine ⟨?_⟩
  obtain ⟨i, inv⟩ := p
  have hi := inv.le
  have hbd := inv.bd
  have heq := inv.eq
  show gListR (real Tryz.prog) (listBB (l.take i)).length (mo (cellsB (listBB (l.take i))) 5 1) (rowsOf cStr l) (l.length : Int) (i : Int) _ _
  rw [gListR_eq]
  refine n_ltN (fun hlt => ?_) (fun hge => ?_)
  · have ha : l[i]? = some l[i] := by simp [hlt]
    generalize l[i] = a at ha
    have htake := take_succ ha
    rw [drop_succ ha] at heq
    simp only [listE] at heq
    refine n_dget i rfl (rowsOf_get ha) rfl (n_rdS (z := a) rfl (n_slen (n_gtN (d := 65535) (fun h3 => ?_) (fun h3 => ?_))))
    · rw [if_pos (show 65535 < slen a from h3)] at heq
      exact ⟨rfl, _, _, wk_ret, .inr ⟨by omega, rfl, by rw [heq]; rfl, rfl⟩⟩
    rw [if_neg (show ¬ 65535 < slen a by show ¬ 65535 < a.data.toList.length; omega)] at heq
    have hk : (listBB (l.take i)).length ≤ 1000 * 65537 := Nat.le_trans hbd (Nat.mul_le_mul_right _ (by omega))
    have hT : tops = 140737488355328 := rfl
    have hitem : (itemB a).length = 2 + a.data.toList.length := by simp [itemB, two, slen]; omega
    have hinv : InvL l (i + 1) := by
      refine ⟨hlt, heq, ?_⟩
      rw [htake, listBB_snoc, List.length_append, hitem, Nat.add_mul]
      omega
    have hcell : cellsB (listBB (l.take i)) ++ [.int .u8 ((a.data.toList.length / 256 % 256 : Nat) : Int), .int .u8 ((a.data.toList.length % 256 : Nat) : Int)] ++ bytesV a = cellsB (listBB (l.take (i + 1))) := by
      rw [htake, listBB_snoc, cellsB_app, u8c, u8c, bytesV_c]
      simp [itemB, two, cellsB, slen]
    have hlen : (listBB (l.take (i + 1))).length = (listBB (l.take i)).length + 2 + a.data.toList.length := by
      rw [← cellsB_len, ← hcell]; simp only [List.length_append, cellsB_len, bytesV_c, List.length_cons, List.length_nil]
    have hne : cellsB (listBB (l.take (i + 1))) ≠ [] := by intro e; have := congrArg List.length e; rw [cellsB_len, hlen] at this; simp at this
    refine n_slen (n_shrN (by decide) (n_toU8 t3 t5 (n_toU8 t3 t5 (n_base_mo (by rw [cellsB_len, Nat.mul_one]) (by omega) (n_appX (by omega) rfl rfl (by omega) (by omega) (n_base_c (by simp [cellsB_len]) (by omega) (by omega) (n_appS (fun h => n_inc (by omega) ⟨rfl, ?_⟩) (fun _ => ⟨by omega, by omega, n_inc (by omega) ⟨rfl, ?_⟩⟩))))))))
    · refine ⟨⟨i + 1, hinv⟩, show l.length - (i + 1) < l.length - i by omega, ?_, fun _ _ _ h => h⟩
      show Wk 100 (100 + 0) _ _ (mkS (100 + 0) (listBB (l.take (i + 1))).length :: _) [mo (cellsB (listBB (l.take (i + 1)))) 5 1]
      rw [mo_ne hne, ← hcell, hlen, bytesV_c, h]
      show Wk 100 (100 + 0) _ _ (mkS (100 + 0) _ :: _) ([] ++ [some (.cells (_ ++ []) 5 1 true true)])
      rw [List.append_nil]
      refine wk_out (k0 := 0) (j := 2) (pre := []) (by omega) rfl ?_ rfl (by simp) rfl (fun i o h => by simp at h)
      rw [bytesV_c, h] at hcell
      have : cellsB ([] : List UInt8) = [] := rfl
      rw [this, List.append_nil] at hcell
      rw [hcell]; exact cellsB_below _ _
    · refine ⟨⟨i + 1, hinv⟩, show l.length - (i + 1) < l.length - i by omega, ?_, fun _ _ _ h => h⟩
      show Wk 100 (100 + 0) _ _ (mkS (100 + 0) (listBB (l.take (i + 1))).length :: _) [mo (cellsB (listBB (l.take (i + 1)))) 5 1]
      rw [mo_ne hne, ← hcell, hlen]
      refine wk_out (k0 := 0) (j := 3) (pre := []) (by omega) rfl ?_ rfl (by omega) rfl (fun i o h => by simp at h)
      rw [hcell]; exact cellsB_below _ _
  · have hil : i = l.length := by omega
    subst hil
    rw [List.drop_length] at heq
    refine ⟨rfl, [top, top, mkS 100 (listBB l).length], [mo (cellsB (listBB l)) 5 1], ?_, .inl ⟨heq, rfl, rfl, rfl⟩⟩
    rw [List.take_length]; exact Wk.refl _ _ _ _
def LLs : LEt := fun c n vals obs A E => ∃ l : List ByteArray, l.length < 1000 ∧ c = loopIn Tryz.prog 125 3 ∧ n = 26 ∧ vals = [.slice none 0 0, dsl (rowsOf cStr l), .int .i64 (Int.ofNat l.length), .int .i64 (0 : Int)] ∧ obs = [] ∧
  (listE l = 0 → A (listBB l).length (mo (cellsB (listBB l)) 5 1)) ∧ (listE l ≠ 0 → E (listE l : Int))
theorem lpLs : LoopOk Tryz.prog 100 [4, 7, 8, 9] (sLoopE LLs) := by
  show LoopOk Tryz.prog 100 [4, 7, 8, 9] (lpS [2, 3, 4] _)
  refine lp_mk okp (W := WS) kn_none lp_none ?_
  rintro c n vals obs K ⟨l, hl, hc, hn, hv, ho, hA, hE⟩
  subst hc; subst hn; subst hv; subst ho
  refine ⟨{i : Nat // InvL l i}, 0, 300, fun p => l.length - p.1, IL l, fun _ e v o => RL l e v o, ⟨0, ⟨Nat.zero_le _, rfl, by simp [listBB]⟩⟩, rfl, ?_, ?_, roundL l hl⟩
  · show Wk 100 (100 + 0) _ [] (mkS 100 0 :: _) ([] ++ [none])
    exact wk_nilS
  intro e v o hR
  rcases hR with ⟨h1, rfl, rfl, rfl⟩ | ⟨h1, rfl, rfl, rfl⟩
  · exact hA h1
  · exact hE h1
def retL (l : List ByteArray) : Value := .tuple ⟨[.string (bytesOf (listS l)), .int .i64 (listE l : Int)]⟩
theorem listC (l : List ByteArray) (hl : l.length < 1000) : Is (gList (real Tryz.prog) LLs (rowsOf cStr l) (PQ (retL l))) := by
  refine ⟨?_⟩
  rw [gList_eq]
  refine n_dlen l.length (rowsOf_len _ _) ⟨l, hl, rfl, rfl, rfl, rfl, fun h => ?_, fun h => ?_⟩
  · refine n_strM (cellsB_len _) (cellsB_bytes _) (PQ.of ?_ rfl)
    unfold retL listS; rw [if_pos h, h]; rfl
  · exact PQ.of (by unfold retL listS; rw [if_neg h]) rfl
theorem listH (l : List ByteArray) (hl : l.length < 1000) (B : Base) (H : Heap) : CallH Tryz.prog 100 B 125 [dsl (rowsOf cStr l)] H (.returned (retL l)) H :=
  pu_mk okp kn_none (lp_ok (fun x hx => by simp only [List.mem_singleton] at hx; subst hx; exact lpLs)) rfl rfl (listC l hl) B H
def strV (l : List ByteArray) : List Value := l.map fun s => .string s
theorem flatStr (l : List ByteArray) : flatRows 1 (rowsOf cStr l) = some (strV l) := by
  induction l with
  | nil => rfl
  | cons a l ih =>
    show flatRows 1 (.agg ⟨[.string a]⟩ :: rowsOf cStr l) = _
    simp only [flatRows, ih]; rfl
theorem belowStr (n : Nat) (l : List ByteArray) : belowL n (strV l) = true := by
  induction l with
  | nil => rfl
  | cons a l ih => show (true && belowL n (strV l)) = true; rw [ih]; rfl
def MSr : MSt := fun k ob K => ∃ l : List ByteArray, l.length < 1000 ∧ k = l.length ∧ ob = mo (strV l) 9 1 ∧ K (bytesOf (listS l)) (listE l : Int)
theorem ok125 : SumOk Tryz.prog 100 125 (sListS MSr) := by
  intro args H K h
  unfold sListS at h
  split at h <;> try exact h.elim
  rename_i t b k k'
  split at h <;> try exact h.elim
  rename_i e1
  obtain rfl := Nat.eq_of_beq_eq_true e1
  obtain ⟨rfl, l, hl, rfl, hob, hK⟩ := h
  refine ⟨_, H, fun B => ?_, hK⟩
  cases l with
  | nil => exact callh_weak (.cons .emptyMD .nil) (listH [] hl B H)
  | cons s l =>
    refine callh_weak (.cons (.unmark (by simp)) .nil) ?_
    exact own_deep (pre := []) (post := []) (fun B H => listH (s :: l) hl B H) hob (flatStr (s :: l)) (belowStr 0 (s :: l)) (by omega) (by rw [rowsOf_len]) (Nat.le_refl _) rfl rfl rfl B
end
end Go.Proofs.YtblbaohcelldpaaGreat.Ob
/- One item as bytes: what the code comes to. -/
namespace Go.Tlv
open Go Go.Abs
def u64N (n : Int) : Nat := (n % 18446744073709551616).toNat
theorem u64N_lt (n : Int) : u64N n < 18446744073709551616 := by unfold u64N; omega
theorem addN_e {k m : Nat} (h : m = 0) : addN [] k m = [] := by subst h; unfold addN addT; rw [if_pos]; exact numB_zero
theorem addN_f {k m : Nat} (h : m ≠ 0) : addN [] k m = [⟨k, bytesOf (numB m)⟩] := by
  unfold addN addT; rw [if_neg]; rfl
  exact fun e => h (numB_nil.1 e)
theorem addT_e {k : Nat} {s : ByteArray} (h : s.data.toList = []) : addT [] k s = [] := by unfold addT; rw [if_pos h]
theorem addT_f {k : Nat} {s : ByteArray} (h : s.data.toList ≠ []) : addT [] k s = [⟨k, s⟩] := by unfold addT; rw [if_neg h]; rfl
def attsArm (x : Arm) : List At := addN (addN [] 1 (u64N x.v)) 2 (u64N x.nx)
def attsInstr (x : Instr) : List At := addN (addN (addN (addN (addN (addN (addN [] 1 (u64N x.op)) 2 (u64N x.to)) 3 (u64N x.ak)) 4 x.an) 5 (u64N x.bk)) 6 x.bn) 7 (u64N x.n)
def attsBucket (x : Bucket) : List At := addN (addN [] 1 x.w) 2 (u64N x.b)
def wfArm (_x : Arm) : Prop := True
def wfInstr (x : Instr) : Prop := x.an < 18446744073709551616 ∧ x.bn < 18446744073709551616
def wfBucket (x : Bucket) : Prop := x.w < 18446744073709551616
def wfInt (_n : Int) : Prop := True
def wfNat (n : Nat) : Prop := n < 18446744073709551616
def oneArm (x : Arm) : ByteArray := bytesOf (encS (attsArm x))
def oneInstr (x : Instr) : ByteArray := bytesOf (encS (attsInstr x))
def oneBucket (x : Bucket) : ByteArray := bytesOf (encS (attsBucket x))
def oneInt (n : Int) : ByteArray := bytesOf (numB (u64N n))
def oneNat (n : Nat) : ByteArray := bytesOf (numB n)
end Go.Tlv
namespace Go.Proofs.YtblbaohcelldpaaGreat.Ob
open Go Go.Abs Go.Tlv
set_option linter.unusedVariables false
set_option maxRecDepth 100000
noncomputable section
theorem t22 : Tryz.prog.underlying 22 = some (.int .u32) := by kernel_rfl
theorem t2 : Tryz.prog.underlying 2 = some (.int .i64) := by kernel_rfl
theorem n_cv {src : TypeId} {ks k0 : IntKind} {a : Int} {K : Int → Prop} (hs : Tryz.prog.underlying src = some (.int ks)) (hk : K ((u64N a : Nat) : Int)) : (real Tryz.prog).conv src 23 k0 a .u64 K := by
  refine real_conv hs t23 ?_
  have e : IntKind.u64.wrap a = ((u64N a : Nat) : Int) := by
    have : IntKind.u64.wrap a = a % 18446744073709551616 := by simp [IntKind.wrap, IntKind.signed, IntKind.bits]
    rw [this]; unfold u64N; omega
  rw [e]; exact hk
structure isAb (b len : Nat) (vs : List Value) (l : List At) : Prop where
  v : vs = cellsA l
  n : len = l.length
  b : l.length ≤ b
  ne : l ≠ []
  t : ∀ a ∈ l, a.t < 256
theorem isAb.a {b len : Nat} {vs : List Value} {l : List At} (h : isAb b len vs l) (hb : b < 1000) : isA len vs l := ⟨h.v, h.n, Nat.lt_of_le_of_lt h.b hb, h.ne⟩
theorem isAb_one (k : Nat) (s : ByteArray) (hk : k < 256) : isAb 1 1 (cellsA [⟨k, s⟩]) [⟨k, s⟩] := ⟨rfl, rfl, Nat.le_refl _, by simp, fun a ha => by simp only [List.mem_singleton] at ha; subst ha; exact hk⟩
theorem isAb.step {b len : Nat} {vs : List Value} {l : List At} (h : isAb b len vs l) {k : Nat} (s : ByteArray) (hk : k < 256) : isAb (b + 1) (addT l k s).length (cellsA (addT l k s)) (addT l k s) := by
  refine ⟨rfl, rfl, ?_, addT_ne h.ne, ?_⟩
  · have := h.b
    unfold addT; split
    · omega
    · simp; omega
  · unfold addT; split
    · exact h.t
    · intro a ha
      rcases List.mem_append.1 ha with ha | ha
      · exact h.t a ha
      · simp only [List.mem_singleton] at ha; subst ha; exact hk
theorem n0_mk (k m : Nat) {A : Prop} {B : List Value → Prop} (hk : k < 256) (hm : m < 18446744073709551616) (hA : m = 0 → A) (hB : m ≠ 0 → B (cellsA [⟨k, bytesOf (numB m)⟩])) : MR.n0 (k : Int) (m : Int) A B := ⟨k, m, rfl, rfl, hk, hm, hA, hB⟩
theorem n1_mk (k m : Nat) {b len : Nat} {vs : List Value} {l : List At} {K : Nat → List Value → Prop} (h : isAb b len vs l) (hb : b < 1000) (hk : k < 256) (hm : m < 18446744073709551616) (hK : isAb (b + 1) (addN l k m).length (cellsA (addN l k m)) (addN l k m) → K (addN l k m).length (cellsA (addN l k m))) : MR.n1 len vs (k : Int) (m : Int) K :=
  ⟨l, k, m, rfl, rfl, hk, hm, h.a hb, hK (h.step _ hk)⟩
theorem t0_mk (k : Nat) {s : ByteArray} {A : Prop} {B : List Value → Prop} (hk : k < 256) (hA : s.data.toList = [] → A) (hB : s.data.toList ≠ [] → B (cellsA [⟨k, s⟩])) : MR.t0 (k : Int) s A B := ⟨k, rfl, hk, hA, hB⟩
theorem t1_mk (k : Nat) {s : ByteArray} {b len : Nat} {vs : List Value} {l : List At} {K : Nat → List Value → Prop} (h : isAb b len vs l) (hb : b < 1000) (hk : k < 256) (hK : isAb (b + 1) (addT l k s).length (cellsA (addT l k s)) (addT l k s) → K (addT l k s).length (cellsA (addT l k s))) : MR.t1 len vs (k : Int) s K :=
  ⟨l, k, rfl, hk, h.a hb, hK (h.step _ hk)⟩
theorem bt_mk {b len : Nat} {vs : List Value} {l : List At} {K : ByteArray → Prop} (h : isAb b len vs l) (hb : b < 1000) (hK : K (bytesOf (encS l))) : MR.bt len vs K := ⟨l, h.a hb, h.t, hK⟩
theorem kn8081 : KnOk Tryz.prog 100 (howOf S0 Sp0 [(80, sNumW MR), (81, sBytes MR)] [] [] []) := kn_ok (fun x hx => by
  simp only [List.mem_cons, List.not_mem_nil, or_false] at hx
  rcases hx with rfl | rfl
  · exact numOk
  · exact bytesOk) (fun x hx => by cases hx)
def MF {α : Type} (arg : α → Value) (wf : α → Prop) (one : α → ByteArray) : PSt := fun a K => ∃ x : α, a = arg x ∧ wf x ∧ K (one x)
theorem pu_one {α : Type} {arg : α → Value} {wf : α → Prop} {one : α → ByteArray} {f : FuncId} (h : ∀ x, wf x → ∀ B H, CallH Tryz.prog 100 B f [arg x] H (.returned (.string (one x))) H) : PuOk Tryz.prog 100 f (sF (MF arg wf one)) := by
  intro args K hs
  unfold sF at hs
  split at hs <;> try exact hs.elim
  obtain ⟨x, rfl, hw, hK⟩ := hs
  exact ⟨_, h x hw, hK⟩
theorem putArmC (x : Arm) (hw : wfArm x) : Is (gPutArm (real Tryz.prog) MR (x.v : Int) x.nx (PQ (.string (oneArm x)))) := by
  refine ⟨?_⟩
  rw [gPutArm_eq]
  exact n_cv t22 (⟨rfl, n0_mk 1 (u64N x.v) (by decide) (u64N_lt _) (fun h0 => n_cv t3 (⟨rfl, n0_mk 2 (u64N x.nx) (by decide) (u64N_lt _) (fun h1 => ⟨rfl, (PQ.of (by unfold oneArm attsArm; rw [addN_e h0, addN_e h1] <;> rfl) rfl)⟩) (fun h1 => (fun hI => ⟨rfl, bt_mk hI (by decide) ((PQ.of (by unfold oneArm attsArm; rw [addN_e h0, addN_f h1] <;> rfl) rfl))⟩) (isAb_one 2 (bytesOf (numB (u64N x.nx))) (by decide)))⟩)) (fun h0 => (fun hI => n_cv t3 (⟨rfl, n1_mk 2 (u64N x.nx) hI (by decide) (by decide) (u64N_lt _) (fun hI => ⟨rfl, bt_mk hI (by decide) ((PQ.of (by unfold oneArm attsArm; rw [addN_f h0] <;> rfl) rfl))⟩)⟩)) (isAb_one 1 (bytesOf (numB (u64N x.v))) (by decide)))⟩)
theorem pu92 : PuOk Tryz.prog 100 92 (sF (MF (fun x : Arm => .agg ⟨cArm x⟩) wfArm oneArm)) := pu_one fun x hw B H =>
  pu_mk okp kn8081 lp_none rfl rfl (putArmC x hw) B H
theorem putInstrC (x : Instr) (hw : wfInstr x) : Is (gPutInstr (real Tryz.prog) MR (x.op : Int) x.to (x.ak : Int) (x.an : Int) (x.bk : Int) (x.bn : Int) x.n (PQ (.string (oneInstr x)))) := by
  refine ⟨?_⟩
  rw [gPutInstr_eq]
  exact n_cv t5 (⟨rfl, n0_mk 1 (u64N x.op) (by decide) (u64N_lt _) (fun h0 => n_cv t3 (⟨rfl, n0_mk 2 (u64N x.to) (by decide) (u64N_lt _) (fun h1 => n_cv t5 (⟨rfl, n0_mk 3 (u64N x.ak) (by decide) (u64N_lt _) (fun h2 => ⟨rfl, n0_mk 4 x.an (by decide) hw.1 (fun h3 => n_cv t5 (⟨rfl, n0_mk 5 (u64N x.bk) (by decide) (u64N_lt _) (fun h4 => ⟨rfl, n0_mk 6 x.bn (by decide) hw.2 (fun h5 => n_cv t3 (⟨rfl, n0_mk 7 (u64N x.n) (by decide) (u64N_lt _) (fun h6 => ⟨rfl, (PQ.of (by unfold oneInstr attsInstr; rw [addN_e h0, addN_e h1, addN_e h2, addN_e h3, addN_e h4, addN_e h5, addN_e h6] <;> rfl) rfl)⟩) (fun h6 => (fun hI => ⟨rfl, bt_mk hI (by decide) ((PQ.of (by unfold oneInstr attsInstr; rw [addN_e h0, addN_e h1, addN_e h2, addN_e h3, addN_e h4, addN_e h5, addN_f h6] <;> rfl) rfl))⟩) (isAb_one 7 (bytesOf (numB (u64N x.n))) (by decide)))⟩)) (fun h5 => (fun hI => n_cv t3 (⟨rfl, n1_mk 7 (u64N x.n) hI (by decide) (by decide) (u64N_lt _) (fun hI => ⟨rfl, bt_mk hI (by decide) ((PQ.of (by unfold oneInstr attsInstr; rw [addN_e h0, addN_e h1, addN_e h2, addN_e h3, addN_e h4, addN_f h5] <;> rfl) rfl))⟩)⟩)) (isAb_one 6 (bytesOf (numB x.bn)) (by decide)))⟩) (fun h4 => (fun hI => ⟨rfl, n1_mk 6 x.bn hI (by decide) (by decide) hw.2 (fun hI => n_cv t3 (⟨rfl, n1_mk 7 (u64N x.n) hI (by decide) (by decide) (u64N_lt _) (fun hI => ⟨rfl, bt_mk hI (by decide) ((PQ.of (by unfold oneInstr attsInstr; rw [addN_e h0, addN_e h1, addN_e h2, addN_e h3, addN_f h4] <;> rfl) rfl))⟩)⟩))⟩) (isAb_one 5 (bytesOf (numB (u64N x.bk))) (by decide)))⟩)) (fun h3 => (fun hI => n_cv t5 (⟨rfl, n1_mk 5 (u64N x.bk) hI (by decide) (by decide) (u64N_lt _) (fun hI => ⟨rfl, n1_mk 6 x.bn hI (by decide) (by decide) hw.2 (fun hI => n_cv t3 (⟨rfl, n1_mk 7 (u64N x.n) hI (by decide) (by decide) (u64N_lt _) (fun hI => ⟨rfl, bt_mk hI (by decide) ((PQ.of (by unfold oneInstr attsInstr; rw [addN_e h0, addN_e h1, addN_e h2, addN_f h3] <;> rfl) rfl))⟩)⟩))⟩)⟩)) (isAb_one 4 (bytesOf (numB x.an)) (by decide)))⟩) (fun h2 => (fun hI => ⟨rfl, n1_mk 4 x.an hI (by decide) (by decide) hw.1 (fun hI => n_cv t5 (⟨rfl, n1_mk 5 (u64N x.bk) hI (by decide) (by decide) (u64N_lt _) (fun hI => ⟨rfl, n1_mk 6 x.bn hI (by decide) (by decide) hw.2 (fun hI => n_cv t3 (⟨rfl, n1_mk 7 (u64N x.n) hI (by decide) (by decide) (u64N_lt _) (fun hI => ⟨rfl, bt_mk hI (by decide) ((PQ.of (by unfold oneInstr attsInstr; rw [addN_e h0, addN_e h1, addN_f h2] <;> rfl) rfl))⟩)⟩))⟩)⟩))⟩) (isAb_one 3 (bytesOf (numB (u64N x.ak))) (by decide)))⟩)) (fun h1 => (fun hI => n_cv t5 (⟨rfl, n1_mk 3 (u64N x.ak) hI (by decide) (by decide) (u64N_lt _) (fun hI => ⟨rfl, n1_mk 4 x.an hI (by decide) (by decide) hw.1 (fun hI => n_cv t5 (⟨rfl, n1_mk 5 (u64N x.bk) hI (by decide) (by decide) (u64N_lt _) (fun hI => ⟨rfl, n1_mk 6 x.bn hI (by decide) (by decide) hw.2 (fun hI => n_cv t3 (⟨rfl, n1_mk 7 (u64N x.n) hI (by decide) (by decide) (u64N_lt _) (fun hI => ⟨rfl, bt_mk hI (by decide) ((PQ.of (by unfold oneInstr attsInstr; rw [addN_e h0, addN_f h1] <;> rfl) rfl))⟩)⟩))⟩)⟩))⟩)⟩)) (isAb_one 2 (bytesOf (numB (u64N x.to))) (by decide)))⟩)) (fun h0 => (fun hI => n_cv t3 (⟨rfl, n1_mk 2 (u64N x.to) hI (by decide) (by decide) (u64N_lt _) (fun hI => n_cv t5 (⟨rfl, n1_mk 3 (u64N x.ak) hI (by decide) (by decide) (u64N_lt _) (fun hI => ⟨rfl, n1_mk 4 x.an hI (by decide) (by decide) hw.1 (fun hI => n_cv t5 (⟨rfl, n1_mk 5 (u64N x.bk) hI (by decide) (by decide) (u64N_lt _) (fun hI => ⟨rfl, n1_mk 6 x.bn hI (by decide) (by decide) hw.2 (fun hI => n_cv t3 (⟨rfl, n1_mk 7 (u64N x.n) hI (by decide) (by decide) (u64N_lt _) (fun hI => ⟨rfl, bt_mk hI (by decide) ((PQ.of (by unfold oneInstr attsInstr; rw [addN_f h0] <;> rfl) rfl))⟩)⟩))⟩)⟩))⟩)⟩))⟩)) (isAb_one 1 (bytesOf (numB (u64N x.op))) (by decide)))⟩)
theorem pu83 : PuOk Tryz.prog 100 83 (sF (MF (fun x : Instr => .agg ⟨cInstr x⟩) wfInstr oneInstr)) := pu_one fun x hw B H =>
  pu_mk okp kn8081 lp_none rfl rfl (putInstrC x hw) B H
theorem putBucketC (x : Bucket) (hw : wfBucket x) : Is (gPutBucket (real Tryz.prog) MR (x.w : Int) x.b (PQ (.string (oneBucket x)))) := by
  refine ⟨?_⟩
  rw [gPutBucket_eq]
  exact ⟨rfl, n0_mk 1 x.w (by decide) hw (fun h0 => n_cv t3 (⟨rfl, n0_mk 2 (u64N x.b) (by decide) (u64N_lt _) (fun h1 => ⟨rfl, (PQ.of (by unfold oneBucket attsBucket; rw [addN_e h0, addN_e h1] <;> rfl) rfl)⟩) (fun h1 => (fun hI => ⟨rfl, bt_mk hI (by decide) ((PQ.of (by unfold oneBucket attsBucket; rw [addN_e h0, addN_f h1] <;> rfl) rfl))⟩) (isAb_one 2 (bytesOf (numB (u64N x.b))) (by decide)))⟩)) (fun h0 => (fun hI => n_cv t3 (⟨rfl, n1_mk 2 (u64N x.b) hI (by decide) (by decide) (u64N_lt _) (fun hI => ⟨rfl, bt_mk hI (by decide) ((PQ.of (by unfold oneBucket attsBucket; rw [addN_f h0] <;> rfl) rfl))⟩)⟩)) (isAb_one 1 (bytesOf (numB x.w)) (by decide)))⟩
theorem pu99 : PuOk Tryz.prog 100 99 (sF (MF (fun x : Bucket => .agg ⟨cBucket x⟩) wfBucket oneBucket)) := pu_one fun x hw B H =>
  pu_mk okp kn8081 lp_none rfl rfl (putBucketC x hw) B H
theorem putIntC (n : Int) : Is (gPutInt (real Tryz.prog) MR n (PQ (.string (oneInt n)))) := by
  refine ⟨?_⟩
  rw [gPutInt_eq]
  exact n_cv t3 ⟨_, rfl, u64N_lt _, PQ.of rfl rfl⟩
theorem pu94 : PuOk Tryz.prog 100 94 (sF (MF (fun n : Int => .int .i64 n) wfInt oneInt)) := pu_one fun x hw B H => pu_mk okp knN lp_none rfl rfl (putIntC x) B H
theorem pu95N : PuOk Tryz.prog 100 95 (sF (MF (fun n : Nat => .int .u64 (n : Int)) wfNat oneNat)) := pu_one fun x hw B H => pu_mk okp kn_none lp_none rfl rfl (numC x hw) B H
end
end Go.Proofs.YtblbaohcelldpaaGreat.Ob
