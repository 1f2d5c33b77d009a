/- The same objects are the same: what the reference comes to. -/
import Derived.Test.YtblbaohcelldpaaGreatT23
import Derived.Test.YtblbaohcelldpaaGreatWC
namespace Go.Proofs.YtblbaohcelldpaaGreat.Ob
open Go Go.Abs Go.Tlv
set_option linter.unusedVariables false
set_option maxRecDepth 100000
noncomputable section
theorem allEq_refl (l : List Int) : allEq (l.map fun a => (a, a)) = true := by
  induction l with
  | nil => rfl
  | cons a l ih => unfold allEq at ih ⊢; simp
theorem ag_same {t : TypeId} {l : List Value} {ns : List Int} {X Y : Prop} (h : eqPairs Tryz.prog 5 t l l = some (ns.map fun a => (a, a))) (hm : Tryz.prog.eqGuardType Tryz.prog.depth t = false) (hl : plainL l = true) (h1 : X) : (real Tryz.prog).agEq .eql t l l X Y :=
  n_agEql h hm hl hl (fun _ => h1) (fun e => by rw [allEq_refl] at e; cases e)
theorem ag_sameN {t : TypeId} {l : List Value} {ns : List Int} {X Y : Prop} (h : eqPairs Tryz.prog 5 t l l = some (ns.map fun a => (a, a))) (hm : Tryz.prog.eqGuardType Tryz.prog.depth t = false) (hl : plainL l = true) (h1 : Y) : (real Tryz.prog).agEq .neq t l l X Y :=
  n_agNeq h hm hl hl (fun e => by rw [allEq_refl] at e; cases e) (fun _ => h1)
theorem c_eq {k : IntKind} {a : Int} {X Y : Prop} (h : X) : (real Tryz.prog).cmp .eql k a k a X Y := n_eql (fun _ => h) (fun e => absurd rfl e)
theorem c_ne {k : IntKind} {a : Int} {X Y : Prop} (h : Y) : (real Tryz.prog).cmp .neq k a k a X Y := n_neq (fun e => absurd rfl e) (fun _ => h)
theorem s_eq {s : ByteArray} {X Y : Prop} (h : X) : (real Tryz.prog).scmp .eql s s X Y := n_scmp_eq (fun _ => h) (fun e => absurd rfl e)
theorem s_ne {s : ByteArray} {X Y : Prop} (h : Y) : (real Tryz.prog).scmp .neq s s X Y := n_scmp_ne (fun e => absurd rfl e) (fun _ => h)
theorem b_eq {b : Bool} {X Y : Prop} (h : X) : (real Tryz.prog).bcmp .eql b b X Y := .inl ⟨rfl, fun _ => h, fun e => by simp at e⟩
theorem b_ne {b : Bool} {X Y : Prop} (h : Y) : (real Tryz.prog).bcmp .neq b b X Y := .inr ⟨rfl, fun e => by simp at e, fun _ => h⟩
theorem g29 : Tryz.prog.eqGuardType Tryz.prog.depth 29 = false := by kernel_rfl
theorem g42 : Tryz.prog.eqGuardType Tryz.prog.depth 42 = false := by kernel_rfl
theorem g44 : Tryz.prog.eqGuardType Tryz.prog.depth 44 = false := by kernel_rfl
theorem g69 : Tryz.prog.eqGuardType Tryz.prog.depth 69 = false := by kernel_rfl
theorem g80 : Tryz.prog.eqGuardType Tryz.prog.depth 80 = false := by kernel_rfl
theorem g106 : Tryz.prog.eqGuardType Tryz.prog.depth 106 = false := by kernel_rfl
abbrev pY : Value := .pointer (some ⟨101, 0, none⟩)
def IQ (ob : AObj) (n : Nat) (i : {i : Nat // i ≤ n}) : List Value × List (Option AObj) := ([pX, pY, .int .i64 (i.1 : Int)], [some ob, some ob])
def RQ (ob : AObj) (e : Exit) (v : List Value) (o : List (Option AObj)) : Prop := e = .exit 0 ∧ v = [pX, pY, top] ∧ o = [some ob, some ob]
def LQr (f nt : Nat) (ob : AObj) : LQt := fun code n vals obs E => code = loopIn Tryz.prog f 4 ∧ n = nt ∧ vals = [pX, pY, .int .i64 (0 : Int)] ∧ obs = [some ob, some ob] ∧ E
def MEr {α : Type} (v : α → Value) (fit : α → Prop) : MEt := fun a b K => ∃ x : α, a = v x ∧ b = v x ∧ fit x ∧ K true
theorem pu_e {α : Type} {v : α → Value} {fit : α → Prop} {f : FuncId} (h : ∀ x, fit x → ∀ B H, CallH Tryz.prog 100 B f [v x, v x] H (.returned (.bool true)) H) : PuOk Tryz.prog 100 f (sEq (MEr v fit)) := by
  intro args K hs
  unfold sEq at hs
  split at hs <;> try exact hs.elim
  obtain ⟨x, rfl, rfl, hf, hK⟩ := hs
  exact ⟨_, h x hf, hK⟩
theorem rndQNode (x : ONode) (hf : fitNode x) (i : {i : Nat // i ≤ x.arms.length}) :
    Is (wpe Tryz.prog (real Tryz.prog) (howOf S0 Sp0 [] [] [] []) 300 (.code false (loopIn Tryz.prog 53 4) (stOf 100 85 [2, 3, 5] [] (IQ (obNode x) x.arms.length i))) (roundQ 100 [2, 3, 5] [2, 3, 4] 85 []
      (fun vals objs => ∃ a' : {i : Nat // i ≤ x.arms.length}, x.arms.length - a'.1 < x.arms.length - i.1 ∧ Wk 100 (100 + 2) vals objs (IQ (obNode x) x.arms.length a').1 (IQ (obNode x) x.arms.length a').2 ∧ ∀ e v o, RQ (obNode x) e v o → RQ (obNode x) e v o)
      (fun e vals objs => ∃ v o, Wk 100 (100 + 2) vals objs v o ∧ RQ (obNode x) e v o))) := by
  refine ⟨?_⟩
  obtain ⟨i, hi⟩ := i
  have hf' : x.arms.length < 1000000000 := hf
  show gSameNodeR (real Tryz.prog) x.id x.size x.lo x.lw x.lu x.so x.sw (rowsOf cArm x.arms) x.ot (i : Int) _ _
  rw [gSameNodeR_eq]
  refine n_dlen x.arms.length (rowsOf_len _ _) (n_ltN (fun hlt => ?_) (fun hge => ?_))
  · have hy : x.arms[i]? = some x.arms[i] := by simp [hlt]
    generalize x.arms[i] = y at hy
    refine n_dget i rfl (rowsOf_get hy) rfl (n_rdI rfl (n_rdI rfl (n_dget i rfl (rowsOf_get hy) rfl (n_rdI rfl (n_rdI rfl (ag_sameN (ns := [(y.v : Int), y.nx]) (by kernel_rfl) g69 rfl (n_inc (by omega) ⟨rfl, ⟨i + 1, hlt⟩, ?_, Wk.refl _ _ _ _, fun _ _ _ h => h⟩)))))))
    show x.arms.length - (i + 1) < x.arms.length - i
    omega
  · exact ⟨rfl, _, _, Wk.refl _ _ _ _, rfl, rfl, rfl⟩
theorem lpQNode (x : ONode) (hf : fitNode x) : LoopOk Tryz.prog 100 [2, 3, 5] (sLoopQ (LQr 53 85 (obNode x))) := by
  show LoopOk Tryz.prog 100 [2, 3, 5] (lpS [2, 3, 4] _)
  refine lp_mk okp (W := howOf S0 Sp0 [] [] [] []) kn_none lp_none ?_
  intro c n vals obs K h
  split at h <;> try exact h.elim
  obtain ⟨hc, hn, hv2, ho, hA⟩ := h
  subst hc; subst hn; subst ho
  simp only [List.cons.injEq] at hv2
  obtain ⟨rfl, rfl, rfl⟩ := hv2
  refine ⟨{i : Nat // i ≤ x.arms.length}, 2, 300, fun a => x.arms.length - a.1, IQ (obNode x) x.arms.length, fun _ e v o => RQ (obNode x) e v o, ⟨0, Nat.zero_le _⟩, rfl, Wk.refl _ _ _ _, ?_, rndQNode x hf⟩
  intro e v o hR
  obtain ⟨rfl, rfl, rfl⟩ := hR
  exact hA
theorem sameNodeC (x : ONode) : Is (gSameNode (real Tryz.prog) (LQr 53 85 (obNode x)) x.id x.size x.lo x.lw x.lu x.so x.sw (rowsOf cArm x.arms) x.ot (PQ (.bool true))) := by
  refine ⟨?_⟩
  rw [gSameNode_eq]
  exact n_dlen x.arms.length (rowsOf_len _ _) (n_dlen x.arms.length (rowsOf_len _ _) (c_ne ⟨rfl, rfl, rfl, rfl, c_eq (c_eq (c_eq (c_eq (c_eq (c_eq (c_eq (c_eq (PQ.of rfl rfl))))))))⟩))
theorem sameNodeH (x : ONode) (hf : fitNode x) (B : Base) (H : Heap) : CallH Tryz.prog 100 B 53 [vNode x, vNode x] H (.returned (.bool true)) H := pu_mk okp kn_none (lp1 (lpQNode x hf)) rfl rfl (sameNodeC x) B H
theorem sameFieldC (x : OField) : Is (gSameField (real Tryz.prog) x.id (x.base : Int) x.node x.off x.wid (PQ (.bool true))) := by
  refine ⟨?_⟩
  rw [gSameField_eq]
  exact ag_same (ns := [x.id, (x.base : Int), x.node, x.off, x.wid]) (by kernel_rfl) g29 rfl (PQ.of rfl rfl)
theorem sameFieldH (x : OField) (hf : fitField x) (B : Base) (H : Heap) : CallH Tryz.prog 100 B 54 [vField x, vField x] H (.returned (.bool true)) H := pu_mk okp kn_none lp_none rfl rfl (sameFieldC x) B H
theorem rndQTable (x : OTable) (hf : fitTable x) (i : {i : Nat // i ≤ x.keys.length}) :
    Is (wpe Tryz.prog (real Tryz.prog) (howOf S0 Sp0 [] [] [] []) 300 (.code false (loopIn Tryz.prog 55 4) (stOf 100 57 [2, 3, 5] [] (IQ (obTable x) x.keys.length i))) (roundQ 100 [2, 3, 5] [2, 3, 4] 57 []
      (fun vals objs => ∃ a' : {i : Nat // i ≤ x.keys.length}, x.keys.length - a'.1 < x.keys.length - i.1 ∧ Wk 100 (100 + 2) vals objs (IQ (obTable x) x.keys.length a').1 (IQ (obTable x) x.keys.length a').2 ∧ ∀ e v o, RQ (obTable x) e v o → RQ (obTable x) e v o)
      (fun e vals objs => ∃ v o, Wk 100 (100 + 2) vals objs v o ∧ RQ (obTable x) e v o))) := by
  refine ⟨?_⟩
  obtain ⟨i, hi⟩ := i
  have hf' : x.keys.length < 1000000000 := hf
  show gSameTableR (real Tryz.prog) x.id (x.kind : Int) (rowsOf cInt x.keys) x.cap x.miss (i : Int) _ _
  rw [gSameTableR_eq]
  refine n_dlen x.keys.length (rowsOf_len _ _) (n_ltN (fun hlt => ?_) (fun hge => ?_))
  · have hy : x.keys[i]? = some x.keys[i] := by simp [hlt]
    generalize x.keys[i] = y at hy
    refine n_dget i rfl (rowsOf_get hy) rfl (n_rdI rfl (n_dget i rfl (rowsOf_get hy) rfl (n_rdI rfl (c_ne (n_inc (by omega) ⟨rfl, ⟨i + 1, hlt⟩, ?_, Wk.refl _ _ _ _, fun _ _ _ h => h⟩)))))
    show x.keys.length - (i + 1) < x.keys.length - i
    omega
  · exact ⟨rfl, _, _, Wk.refl _ _ _ _, rfl, rfl, rfl⟩
theorem lpQTable (x : OTable) (hf : fitTable x) : LoopOk Tryz.prog 100 [2, 3, 5] (sLoopQ (LQr 55 57 (obTable x))) := by
  show LoopOk Tryz.prog 100 [2, 3, 5] (lpS [2, 3, 4] _)
  refine lp_mk okp (W := howOf S0 Sp0 [] [] [] []) kn_none lp_none ?_
  intro c n vals obs K h
  split at h <;> try exact h.elim
  obtain ⟨hc, hn, hv2, ho, hA⟩ := h
  subst hc; subst hn; subst ho
  simp only [List.cons.injEq] at hv2
  obtain ⟨rfl, rfl, rfl⟩ := hv2
  refine ⟨{i : Nat // i ≤ x.keys.length}, 2, 300, fun a => x.keys.length - a.1, IQ (obTable x) x.keys.length, fun _ e v o => RQ (obTable x) e v o, ⟨0, Nat.zero_le _⟩, rfl, Wk.refl _ _ _ _, ?_, rndQTable x hf⟩
  intro e v o hR
  obtain ⟨rfl, rfl, rfl⟩ := hR
  exact hA
theorem sameTableC (x : OTable) : Is (gSameTable (real Tryz.prog) (LQr 55 57 (obTable x)) x.id (x.kind : Int) (rowsOf cInt x.keys) x.cap x.miss (PQ (.bool true))) := by
  refine ⟨?_⟩
  rw [gSameTable_eq]
  exact n_dlen x.keys.length (rowsOf_len _ _) (n_dlen x.keys.length (rowsOf_len _ _) (c_ne ⟨rfl, rfl, rfl, rfl, c_eq (c_eq (c_eq (c_eq (PQ.of rfl rfl))))⟩))
theorem sameTableH (x : OTable) (hf : fitTable x) (B : Base) (H : Heap) : CallH Tryz.prog 100 B 55 [vTable x, vTable x] H (.returned (.bool true)) H := pu_mk okp kn_none (lp1 (lpQTable x hf)) rfl rfl (sameTableC x) B H
theorem rndQEntry (x : OEntry) (hf : fitEntry x) (i : {i : Nat // i ≤ x.args.length}) :
    Is (wpe Tryz.prog (real Tryz.prog) (howOf S0 Sp0 [] [] [] []) 300 (.code false (loopIn Tryz.prog 56 4) (stOf 100 99 [2, 3, 5] [] (IQ (obEntry x) x.args.length i))) (roundQ 100 [2, 3, 5] [2, 3, 4] 99 []
      (fun vals objs => ∃ a' : {i : Nat // i ≤ x.args.length}, x.args.length - a'.1 < x.args.length - i.1 ∧ Wk 100 (100 + 2) vals objs (IQ (obEntry x) x.args.length a').1 (IQ (obEntry x) x.args.length a').2 ∧ ∀ e v o, RQ (obEntry x) e v o → RQ (obEntry x) e v o)
      (fun e vals objs => ∃ v o, Wk 100 (100 + 2) vals objs v o ∧ RQ (obEntry x) e v o))) := by
  refine ⟨?_⟩
  obtain ⟨i, hi⟩ := i
  have hf' : x.args.length < 1000000000 := hf
  show gSameEntryR (real Tryz.prog) x.tab x.key x.oth x.len x.prio x.blk (rowsOf cNat x.args) x.idle x.hard (x.cook : Int) x.tell (i : Int) _ _
  rw [gSameEntryR_eq]
  refine n_dlen x.args.length (rowsOf_len _ _) (n_ltN (fun hlt => ?_) (fun hge => ?_))
  · have hy : x.args[i]? = some x.args[i] := by simp [hlt]
    generalize x.args[i] = y at hy
    refine n_dget i rfl (rowsOf_get hy) rfl (n_rdI rfl (n_dget i rfl (rowsOf_get hy) rfl (n_rdI rfl (c_ne (n_inc (by omega) ⟨rfl, ⟨i + 1, hlt⟩, ?_, Wk.refl _ _ _ _, fun _ _ _ h => h⟩)))))
    show x.args.length - (i + 1) < x.args.length - i
    omega
  · exact ⟨rfl, _, _, Wk.refl _ _ _ _, rfl, rfl, rfl⟩
theorem lpQEntry (x : OEntry) (hf : fitEntry x) : LoopOk Tryz.prog 100 [2, 3, 5] (sLoopQ (LQr 56 99 (obEntry x))) := by
  show LoopOk Tryz.prog 100 [2, 3, 5] (lpS [2, 3, 4] _)
  refine lp_mk okp (W := howOf S0 Sp0 [] [] [] []) kn_none lp_none ?_
  intro c n vals obs K h
  split at h <;> try exact h.elim
  obtain ⟨hc, hn, hv2, ho, hA⟩ := h
  subst hc; subst hn; subst ho
  simp only [List.cons.injEq] at hv2
  obtain ⟨rfl, rfl, rfl⟩ := hv2
  refine ⟨{i : Nat // i ≤ x.args.length}, 2, 300, fun a => x.args.length - a.1, IQ (obEntry x) x.args.length, fun _ e v o => RQ (obEntry x) e v o, ⟨0, Nat.zero_le _⟩, rfl, Wk.refl _ _ _ _, ?_, rndQEntry x hf⟩
  intro e v o hR
  obtain ⟨rfl, rfl, rfl⟩ := hR
  exact hA
theorem sameEntryC (x : OEntry) : Is (gSameEntry (real Tryz.prog) (LQr 56 99 (obEntry x)) x.tab x.key x.oth x.len x.prio x.blk (rowsOf cNat x.args) x.idle x.hard (x.cook : Int) x.tell (PQ (.bool true))) := by
  refine ⟨?_⟩
  rw [gSameEntry_eq]
  exact n_dlen x.args.length (rowsOf_len _ _) (n_dlen x.args.length (rowsOf_len _ _) (c_ne ⟨rfl, rfl, rfl, rfl, c_eq (s_eq (s_eq (c_eq (c_eq (c_eq (c_eq (c_eq (c_eq (b_eq (PQ.of rfl rfl))))))))))⟩))
theorem sameEntryH (x : OEntry) (hf : fitEntry x) (B : Base) (H : Heap) : CallH Tryz.prog 100 B 56 [vEntry x, vEntry x] H (.returned (.bool true)) H := pu_mk okp kn_none (lp1 (lpQEntry x hf)) rfl rfl (sameEntryC x) B H
theorem rndQBlock (x : OBlock) (hf : fitBlock x) (i : {i : Nat // i ≤ x.code.length}) :
    Is (wpe Tryz.prog (real Tryz.prog) (howOf S0 Sp0 [] [] [] []) 300 (.code false (loopIn Tryz.prog 57 4) (stOf 100 36 [2, 3, 5] [] (IQ (obBlock x) x.code.length i))) (roundQ 100 [2, 3, 5] [2, 3, 4] 36 []
      (fun vals objs => ∃ a' : {i : Nat // i ≤ x.code.length}, x.code.length - a'.1 < x.code.length - i.1 ∧ Wk 100 (100 + 2) vals objs (IQ (obBlock x) x.code.length a').1 (IQ (obBlock x) x.code.length a').2 ∧ ∀ e v o, RQ (obBlock x) e v o → RQ (obBlock x) e v o)
      (fun e vals objs => ∃ v o, Wk 100 (100 + 2) vals objs v o ∧ RQ (obBlock x) e v o))) := by
  refine ⟨?_⟩
  obtain ⟨i, hi⟩ := i
  have hf' : x.code.length < 1000000000 := hf
  show gSameBlockR (real Tryz.prog) x.id (rowsOf cInstr x.code) (i : Int) _ _
  rw [gSameBlockR_eq]
  refine n_dlen x.code.length (rowsOf_len _ _) (n_ltN (fun hlt => ?_) (fun hge => ?_))
  · have hy : x.code[i]? = some x.code[i] := by simp [hlt]
    generalize x.code[i] = y at hy
    refine n_dget i rfl (rowsOf_get hy) rfl (n_rdI rfl (n_rdI rfl (n_rdI rfl (n_rdI rfl (n_rdI rfl (n_rdI rfl (n_rdI rfl (n_dget i rfl (rowsOf_get hy) rfl (n_rdI rfl (n_rdI rfl (n_rdI rfl (n_rdI rfl (n_rdI rfl (n_rdI rfl (n_rdI rfl (ag_sameN (ns := [(y.op : Int), y.to, (y.ak : Int), (y.an : Int), (y.bk : Int), (y.bn : Int), y.n]) (by kernel_rfl) g80 rfl (n_inc (by omega) ⟨rfl, ⟨i + 1, hlt⟩, ?_, Wk.refl _ _ _ _, fun _ _ _ h => h⟩)))))))))))))))))
    show x.code.length - (i + 1) < x.code.length - i
    omega
  · exact ⟨rfl, _, _, Wk.refl _ _ _ _, rfl, rfl, rfl⟩
theorem lpQBlock (x : OBlock) (hf : fitBlock x) : LoopOk Tryz.prog 100 [2, 3, 5] (sLoopQ (LQr 57 36 (obBlock x))) := by
  show LoopOk Tryz.prog 100 [2, 3, 5] (lpS [2, 3, 4] _)
  refine lp_mk okp (W := howOf S0 Sp0 [] [] [] []) kn_none lp_none ?_
  intro c n vals obs K h
  split at h <;> try exact h.elim
  obtain ⟨hc, hn, hv2, ho, hA⟩ := h
  subst hc; subst hn; subst ho
  simp only [List.cons.injEq] at hv2
  obtain ⟨rfl, rfl, rfl⟩ := hv2
  refine ⟨{i : Nat // i ≤ x.code.length}, 2, 300, fun a => x.code.length - a.1, IQ (obBlock x) x.code.length, fun _ e v o => RQ (obBlock x) e v o, ⟨0, Nat.zero_le _⟩, rfl, Wk.refl _ _ _ _, ?_, rndQBlock x hf⟩
  intro e v o hR
  obtain ⟨rfl, rfl, rfl⟩ := hR
  exact hA
theorem sameBlockC (x : OBlock) : Is (gSameBlock (real Tryz.prog) (LQr 57 36 (obBlock x)) x.id (rowsOf cInstr x.code) (PQ (.bool true))) := by
  refine ⟨?_⟩
  rw [gSameBlock_eq]
  exact n_dlen x.code.length (rowsOf_len _ _) (n_dlen x.code.length (rowsOf_len _ _) (c_ne ⟨rfl, rfl, rfl, rfl, c_eq (PQ.of rfl rfl)⟩))
theorem sameBlockH (x : OBlock) (hf : fitBlock x) (B : Base) (H : Heap) : CallH Tryz.prog 100 B 57 [vBlock x, vBlock x] H (.returned (.bool true)) H := pu_mk okp kn_none (lp1 (lpQBlock x hf)) rfl rfl (sameBlockC x) B H
theorem rndQGroup (x : OGroup) (hf : fitGroup x) (i : {i : Nat // i ≤ x.bks.length}) :
    Is (wpe Tryz.prog (real Tryz.prog) (howOf S0 Sp0 [] [] [] []) 300 (.code false (loopIn Tryz.prog 58 4) (stOf 100 50 [2, 3, 5] [] (IQ (obGroup x) x.bks.length i))) (roundQ 100 [2, 3, 5] [2, 3, 4] 50 []
      (fun vals objs => ∃ a' : {i : Nat // i ≤ x.bks.length}, x.bks.length - a'.1 < x.bks.length - i.1 ∧ Wk 100 (100 + 2) vals objs (IQ (obGroup x) x.bks.length a').1 (IQ (obGroup x) x.bks.length a').2 ∧ ∀ e v o, RQ (obGroup x) e v o → RQ (obGroup x) e v o)
      (fun e vals objs => ∃ v o, Wk 100 (100 + 2) vals objs v o ∧ RQ (obGroup x) e v o))) := by
  refine ⟨?_⟩
  obtain ⟨i, hi⟩ := i
  have hf' : x.bks.length < 1000000000 := hf
  show gSameGroupR (real Tryz.prog) x.id (x.kind : Int) x.fld (rowsOf cBucket x.bks) (i : Int) _ _
  rw [gSameGroupR_eq]
  refine n_dlen x.bks.length (rowsOf_len _ _) (n_ltN (fun hlt => ?_) (fun hge => ?_))
  · have hy : x.bks[i]? = some x.bks[i] := by simp [hlt]
    generalize x.bks[i] = y at hy
    refine n_dget i rfl (rowsOf_get hy) rfl (n_rdI rfl (n_rdI rfl (n_dget i rfl (rowsOf_get hy) rfl (n_rdI rfl (n_rdI rfl (ag_sameN (ns := [(y.w : Int), y.b]) (by kernel_rfl) g106 rfl (n_inc (by omega) ⟨rfl, ⟨i + 1, hlt⟩, ?_, Wk.refl _ _ _ _, fun _ _ _ h => h⟩)))))))
    show x.bks.length - (i + 1) < x.bks.length - i
    omega
  · exact ⟨rfl, _, _, Wk.refl _ _ _ _, rfl, rfl, rfl⟩
theorem lpQGroup (x : OGroup) (hf : fitGroup x) : LoopOk Tryz.prog 100 [2, 3, 5] (sLoopQ (LQr 58 50 (obGroup x))) := by
  show LoopOk Tryz.prog 100 [2, 3, 5] (lpS [2, 3, 4] _)
  refine lp_mk okp (W := howOf S0 Sp0 [] [] [] []) kn_none lp_none ?_
  intro c n vals obs K h
  split at h <;> try exact h.elim
  obtain ⟨hc, hn, hv2, ho, hA⟩ := h
  subst hc; subst hn; subst ho
  simp only [List.cons.injEq] at hv2
  obtain ⟨rfl, rfl, rfl⟩ := hv2
  refine ⟨{i : Nat // i ≤ x.bks.length}, 2, 300, fun a => x.bks.length - a.1, IQ (obGroup x) x.bks.length, fun _ e v o => RQ (obGroup x) e v o, ⟨0, Nat.zero_le _⟩, rfl, Wk.refl _ _ _ _, ?_, rndQGroup x hf⟩
  intro e v o hR
  obtain ⟨rfl, rfl, rfl⟩ := hR
  exact hA
theorem sameGroupC (x : OGroup) : Is (gSameGroup (real Tryz.prog) (LQr 58 50 (obGroup x)) x.id (x.kind : Int) x.fld (rowsOf cBucket x.bks) (PQ (.bool true))) := by
  refine ⟨?_⟩
  rw [gSameGroup_eq]
  exact n_dlen x.bks.length (rowsOf_len _ _) (n_dlen x.bks.length (rowsOf_len _ _) (c_ne ⟨rfl, rfl, rfl, rfl, c_eq (c_eq (c_eq (PQ.of rfl rfl)))⟩))
theorem sameGroupH (x : OGroup) (hf : fitGroup x) (B : Base) (H : Heap) : CallH Tryz.prog 100 B 58 [vGroup x, vGroup x] H (.returned (.bool true)) H := pu_mk okp kn_none (lp1 (lpQGroup x hf)) rfl rfl (sameGroupC x) B H
theorem sameMeterC (x : OMeter) : Is (gSameMeter (real Tryz.prog) x.id x.rate x.burst (PQ (.bool true))) := by
  refine ⟨?_⟩
  rw [gSameMeter_eq]
  exact ag_same (ns := [x.id, x.rate, x.burst]) (by kernel_rfl) g42 rfl (PQ.of rfl rfl)
theorem sameMeterH (x : OMeter) (hf : fitMeter x) (B : Base) (H : Heap) : CallH Tryz.prog 100 B 59 [vMeter x, vMeter x] H (.returned (.bool true)) H := pu_mk okp kn_none lp_none rfl rfl (sameMeterC x) B H
theorem sameRegsC (x : ORegs) : Is (gSameRegs (real Tryz.prog) x.id x.size (PQ (.bool true))) := by
  refine ⟨?_⟩
  rw [gSameRegs_eq]
  exact ag_same (ns := [x.id, x.size]) (by kernel_rfl) g44 rfl (PQ.of rfl rfl)
theorem sameRegsH (x : ORegs) (hf : fitRegs x) (B : Base) (H : Heap) : CallH Tryz.prog 100 B 60 [vRegs x, vRegs x] H (.returned (.bool true)) H := pu_mk okp kn_none lp_none rfl rfl (sameRegsC x) B H
end
end Go.Proofs.YtblbaohcelldpaaGreat.Ob
