/- Objects as bytes: what the code comes to. -/
import Derived.Test.YtblbaohcelldpaaGreatT14
namespace Go.Tlv
open Go Go.Abs
def addB (l : List At) (k : Nat) (b : Bool) : List At := if b = true then addN l k 1 else l
theorem addB_t {l : List At} {k : Nat} {b : Bool} (h : b = true) : addB l k b = addN l k 1 := if_pos h
theorem addB_f {l : List At} {k : Nat} {b : Bool} (h : b = false) : addB l k b = l := if_neg (by rw [h]; simp)
def putV (may : Bool) (l : List At) : Value := match may with
  | true => .tuple ⟨[.string (bytesOf (encS l)), .int .i64 (0 : Int)]⟩
  | false => .tuple ⟨[.string (bytesOf []), .int .i64 (3 : Int)]⟩
def attsNode (x : ONode) : List At := addT (addN (addN (addN (addN (addN (addN (addN (addN [] 1 (u64N x.id)) 2 (u64N x.size)) 3 (u64N x.lo)) 4 (u64N x.lw)) 5 (u64N x.lu)) 6 (u64N x.so)) 7 (u64N x.sw)) 8 (u64N x.ot)) 9 (bytesOf (listS (x.arms.map oneArm)))
def wfNode (_x : ONode) : Prop := True
def attsField (x : OField) : List At := addN (addN (addN (addN (addN [] 1 (u64N x.id)) 2 (u64N x.base)) 3 (u64N x.node)) 4 (u64N x.off)) 5 (u64N x.wid)
def wfField (_x : OField) : Prop := True
def attsTable (x : OTable) : List At := addN (addN (addT (addN (addN [] 1 (u64N x.id)) 2 (u64N x.kind)) 3 (bytesOf (listS (x.keys.map oneInt)))) 4 (u64N x.cap)) 5 (u64N x.miss)
def wfTable (_x : OTable) : Prop := True
def attsEntry (x : OEntry) : List At := addB (addN (addN (addN (addT (addN (addN (addN (addT (addT (addN [] 1 (u64N x.tab)) 2 x.key) 3 x.oth) 4 (u64N x.len)) 5 (u64N x.prio)) 6 (u64N x.blk)) 7 (bytesOf (listS (x.args.map oneNat)))) 8 (u64N x.idle)) 9 (u64N x.hard)) 10 x.cook) 11 x.tell
def wfEntry (x : OEntry) : Prop := (∀ y ∈ x.args, wfNat y) ∧ x.cook < 18446744073709551616
def attsBlock (x : OBlock) : List At := addT (addN [] 1 (u64N x.id)) 2 (bytesOf (listS (x.code.map oneInstr)))
def wfBlock (x : OBlock) : Prop := ∀ y ∈ x.code, wfInstr y
def attsGroup (x : OGroup) : List At := addT (addN (addN (addN [] 1 (u64N x.id)) 2 (u64N x.kind)) 3 (u64N x.fld)) 4 (bytesOf (listS (x.bks.map oneBucket)))
def wfGroup (x : OGroup) : Prop := ∀ y ∈ x.bks, wfBucket y
def attsMeter (x : OMeter) : List At := addN (addN (addN [] 1 (u64N x.id)) 2 (u64N x.rate)) 3 (u64N x.burst)
def wfMeter (_x : OMeter) : Prop := True
def attsRegs (x : ORegs) : List At := addN (addN [] 1 (u64N x.id)) 2 (u64N x.size)
def wfRegs (_x : ORegs) : Prop := True
end Go.Tlv
namespace Go.Proofs.YtblbaohcelldpaaGreat.Ob
open Go Go.Abs Go.Tlv
set_option linter.unusedVariables false
set_option maxRecDepth 100000
noncomputable section
def MBr {α : Type} (v : α → Value) (fit : α → Prop) (may : α → Bool) : MBt := fun a K => ∃ x : α, a = v x ∧ fit x ∧ K (may x)
theorem pu_b {α : Type} {v : α → Value} {fit : α → Prop} {may : α → Bool} {f : FuncId} (h : ∀ x, fit x → ∀ B H, CallH Tryz.prog 100 B f [v x] H (.returned (.bool (may x))) H) : PuOk Tryz.prog 100 f (sB (MBr v fit may)) := by
  intro args K hs
  unfold sB at hs
  split at hs <;> try exact hs.elim
  obtain ⟨x, rfl, hf, hK⟩ := hs
  exact ⟨_, h x hf, hK⟩
theorem knP {l : KnL} {pu : PuL} (h : ∀ x ∈ l, SumOk Tryz.prog 100 x.1 x.2) (h' : ∀ x ∈ pu, PuOk Tryz.prog 100 x.1 x.2) : KnOk Tryz.prog 100 (howOf S0 Sp0 ((80, sNumW MR) :: (96, sText MR) :: (81, sBytes MR) :: l) [] pu []) := kn_ok (fun x hx => by
  simp only [List.mem_cons] at hx
  rcases hx with rfl | rfl | rfl | hx
  · exact numOk
  · exact textOk
  · exact bytesOk
  · exact h x hx) h'
theorem putV_below (n : Nat) (m : Bool) (l : List At) : below n (putV m l) = true := by cases m <;> rfl
theorem sum1 {g : FuncId} {S : List Value → Heap → VK → Prop} (h : SumOk Tryz.prog 100 g S) : ∀ x ∈ [(g, S)], SumOk Tryz.prog 100 x.1 x.2 := fun x hx => by simp only [List.mem_singleton] at hx; subst hx; exact h
theorem sum0 : ∀ x ∈ ([] : KnL), SumOk Tryz.prog 100 x.1 x.2 := fun x hx => by cases hx
theorem putNodeC (x : ONode) (hf : fitNode x) (hw : wfNode x) (hl : x.arms.length < 1000) : Is (gPutNode (real Tryz.prog) MR (MBr vNode fitNode mayNode) (MLr cArm wfArm oneArm) x.id x.size x.lo x.lw x.lu x.so x.sw (rowsOf cArm x.arms) x.ot (PQ (putV (mayNode x) (attsNode x)))) := by
  refine ⟨?_⟩
  rw [gPutNode_eq]
  exact ⟨x, rfl, hf, branch_mk (fun hm => n_cv t3 (⟨rfl, n0_mk 1 (u64N x.id) (by decide) (u64N_lt _) (fun h0 => n_cv t3 (⟨rfl, n0_mk 2 (u64N x.size) (by decide) (u64N_lt _) (fun h1 => n_cv t3 (⟨rfl, n0_mk 3 (u64N x.lo) (by decide) (u64N_lt _) (fun h2 => n_cv t3 (⟨rfl, n0_mk 4 (u64N x.lw) (by decide) (u64N_lt _) (fun h3 => n_cv t3 (⟨rfl, n0_mk 5 (u64N x.lu) (by decide) (u64N_lt _) (fun h4 => n_cv t3 (⟨rfl, n0_mk 6 (u64N x.so) (by decide) (u64N_lt _) (fun h5 => n_cv t3 (⟨rfl, n0_mk 7 (u64N x.sw) (by decide) (u64N_lt _) (fun h6 => n_cv t3 (⟨rfl, n0_mk 8 (u64N x.ot) (by decide) (u64N_lt _) (fun h7 => ml_mk hl (fun _ _ => trivial) (⟨rfl, t0_mk 9 (by decide) (fun h8 => ⟨rfl, (PQ.of (by rw [hm]; unfold putV attsNode; rw [addN_e h0, addN_e h1, addN_e h2, addN_e h3, addN_e h4, addN_e h5, addN_e h6, addN_e h7, addT_e h8] <;> rfl) (putV_below _ _ _))⟩) (fun h8 => (fun hI => ⟨rfl, bt_mk hI (by decide) ((PQ.of (by rw [hm]; unfold putV attsNode; rw [addN_e h0, addN_e h1, addN_e h2, addN_e h3, addN_e h4, addN_e h5, addN_e h6, addN_e h7, addT_f h8] <;> rfl) (putV_below _ _ _)))⟩) (isAb_one 9 (bytesOf (listS (x.arms.map oneArm))) (by decide)))⟩)) (fun h7 => (fun hI => ml_mk hl (fun _ _ => trivial) (⟨rfl, t1_mk 9 hI (by decide) (by decide) (fun hI => ⟨rfl, bt_mk hI (by decide) ((PQ.of (by rw [hm]; unfold putV attsNode; rw [addN_e h0, addN_e h1, addN_e h2, addN_e h3, addN_e h4, addN_e h5, addN_e h6, addN_f h7] <;> rfl) (putV_below _ _ _)))⟩)⟩)) (isAb_one 8 (bytesOf (numB (u64N x.ot))) (by decide)))⟩)) (fun h6 => (fun hI => n_cv t3 (⟨rfl, n1_mk 8 (u64N x.ot) hI (by decide) (by decide) (u64N_lt _) (fun hI => ml_mk hl (fun _ _ => trivial) (⟨rfl, t1_mk 9 hI (by decide) (by decide) (fun hI => ⟨rfl, bt_mk hI (by decide) ((PQ.of (by rw [hm]; unfold putV attsNode; rw [addN_e h0, addN_e h1, addN_e h2, addN_e h3, addN_e h4, addN_e h5, addN_f h6] <;> rfl) (putV_below _ _ _)))⟩)⟩))⟩)) (isAb_one 7 (bytesOf (numB (u64N x.sw))) (by decide)))⟩)) (fun h5 => (fun hI => n_cv t3 (⟨rfl, n1_mk 7 (u64N x.sw) hI (by decide) (by decide) (u64N_lt _) (fun hI => n_cv t3 (⟨rfl, n1_mk 8 (u64N x.ot) hI (by decide) (by decide) (u64N_lt _) (fun hI => ml_mk hl (fun _ _ => trivial) (⟨rfl, t1_mk 9 hI (by decide) (by decide) (fun hI => ⟨rfl, bt_mk hI (by decide) ((PQ.of (by rw [hm]; unfold putV attsNode; rw [addN_e h0, addN_e h1, addN_e h2, addN_e h3, addN_e h4, addN_f h5] <;> rfl) (putV_below _ _ _)))⟩)⟩))⟩))⟩)) (isAb_one 6 (bytesOf (numB (u64N x.so))) (by decide)))⟩)) (fun h4 => (fun hI => n_cv t3 (⟨rfl, n1_mk 6 (u64N x.so) hI (by decide) (by decide) (u64N_lt _) (fun hI => n_cv t3 (⟨rfl, n1_mk 7 (u64N x.sw) hI (by decide) (by decide) (u64N_lt _) (fun hI => n_cv t3 (⟨rfl, n1_mk 8 (u64N x.ot) hI (by decide) (by decide) (u64N_lt _) (fun hI => ml_mk hl (fun _ _ => trivial) (⟨rfl, t1_mk 9 hI (by decide) (by decide) (fun hI => ⟨rfl, bt_mk hI (by decide) ((PQ.of (by rw [hm]; unfold putV attsNode; rw [addN_e h0, addN_e h1, addN_e h2, addN_e h3, addN_f h4] <;> rfl) (putV_below _ _ _)))⟩)⟩))⟩))⟩))⟩)) (isAb_one 5 (bytesOf (numB (u64N x.lu))) (by decide)))⟩)) (fun h3 => (fun hI => n_cv t3 (⟨rfl, n1_mk 5 (u64N x.lu) hI (by decide) (by decide) (u64N_lt _) (fun hI => n_cv t3 (⟨rfl, n1_mk 6 (u64N x.so) hI (by decide) (by decide) (u64N_lt _) (fun hI => n_cv t3 (⟨rfl, n1_mk 7 (u64N x.sw) hI (by decide) (by decide) (u64N_lt _) (fun hI => n_cv t3 (⟨rfl, n1_mk 8 (u64N x.ot) hI (by decide) (by decide) (u64N_lt _) (fun hI => ml_mk hl (fun _ _ => trivial) (⟨rfl, t1_mk 9 hI (by decide) (by decide) (fun hI => ⟨rfl, bt_mk hI (by decide) ((PQ.of (by rw [hm]; unfold putV attsNode; rw [addN_e h0, addN_e h1, addN_e h2, addN_f h3] <;> rfl) (putV_below _ _ _)))⟩)⟩))⟩))⟩))⟩))⟩)) (isAb_one 4 (bytesOf (numB (u64N x.lw))) (by decide)))⟩)) (fun h2 => (fun hI => n_cv t3 (⟨rfl, n1_mk 4 (u64N x.lw) hI (by decide) (by decide) (u64N_lt _) (fun hI => n_cv t3 (⟨rfl, n1_mk 5 (u64N x.lu) hI (by decide) (by decide) (u64N_lt _) (fun hI => n_cv t3 (⟨rfl, n1_mk 6 (u64N x.so) hI (by decide) (by decide) (u64N_lt _) (fun hI => n_cv t3 (⟨rfl, n1_mk 7 (u64N x.sw) hI (by decide) (by decide) (u64N_lt _) (fun hI => n_cv t3 (⟨rfl, n1_mk 8 (u64N x.ot) hI (by decide) (by decide) (u64N_lt _) (fun hI => ml_mk hl (fun _ _ => trivial) (⟨rfl, t1_mk 9 hI (by decide) (by decide) (fun hI => ⟨rfl, bt_mk hI (by decide) ((PQ.of (by rw [hm]; unfold putV attsNode; rw [addN_e h0, addN_e h1, addN_f h2] <;> rfl) (putV_below _ _ _)))⟩)⟩))⟩))⟩))⟩))⟩))⟩)) (isAb_one 3 (bytesOf (numB (u64N x.lo))) (by decide)))⟩)) (fun h1 => (fun hI => n_cv t3 (⟨rfl, n1_mk 3 (u64N x.lo) hI (by decide) (by decide) (u64N_lt _) (fun hI => n_cv t3 (⟨rfl, n1_mk 4 (u64N x.lw) hI (by decide) (by decide) (u64N_lt _) (fun hI => n_cv t3 (⟨rfl, n1_mk 5 (u64N x.lu) hI (by decide) (by decide) (u64N_lt _) (fun hI => n_cv t3 (⟨rfl, n1_mk 6 (u64N x.so) hI (by decide) (by decide) (u64N_lt _) (fun hI => n_cv t3 (⟨rfl, n1_mk 7 (u64N x.sw) hI (by decide) (by decide) (u64N_lt _) (fun hI => n_cv t3 (⟨rfl, n1_mk 8 (u64N x.ot) hI (by decide) (by decide) (u64N_lt _) (fun hI => ml_mk hl (fun _ _ => trivial) (⟨rfl, t1_mk 9 hI (by decide) (by decide) (fun hI => ⟨rfl, bt_mk hI (by decide) ((PQ.of (by rw [hm]; unfold putV attsNode; rw [addN_e h0, addN_f h1] <;> rfl) (putV_below _ _ _)))⟩)⟩))⟩))⟩))⟩))⟩))⟩))⟩)) (isAb_one 2 (bytesOf (numB (u64N x.size))) (by decide)))⟩)) (fun h0 => (fun hI => n_cv t3 (⟨rfl, n1_mk 2 (u64N x.size) hI (by decide) (by decide) (u64N_lt _) (fun hI => n_cv t3 (⟨rfl, n1_mk 3 (u64N x.lo) hI (by decide) (by decide) (u64N_lt _) (fun hI => n_cv t3 (⟨rfl, n1_mk 4 (u64N x.lw) hI (by decide) (by decide) (u64N_lt _) (fun hI => n_cv t3 (⟨rfl, n1_mk 5 (u64N x.lu) hI (by decide) (by decide) (u64N_lt _) (fun hI => n_cv t3 (⟨rfl, n1_mk 6 (u64N x.so) hI (by decide) (by decide) (u64N_lt _) (fun hI => n_cv t3 (⟨rfl, n1_mk 7 (u64N x.sw) hI (by decide) (by decide) (u64N_lt _) (fun hI => n_cv t3 (⟨rfl, n1_mk 8 (u64N x.ot) hI (by decide) (by decide) (u64N_lt _) (fun hI => ml_mk hl (fun _ _ => trivial) (⟨rfl, t1_mk 9 hI (by decide) (by decide) (fun hI => ⟨rfl, bt_mk hI (by decide) ((PQ.of (by rw [hm]; unfold putV attsNode; rw [addN_f h0] <;> rfl) (putV_below _ _ _)))⟩)⟩))⟩))⟩))⟩))⟩))⟩))⟩))⟩)) (isAb_one 1 (bytesOf (numB (u64N x.id))) (by decide)))⟩)) (fun hm => PQ.of (by rw [hm]; rfl) (putV_below _ _ _))⟩
theorem putNodeH (x : ONode) (hf : fitNode x) (hw : wfNode x) (hl : x.arms.length < 1000) (B : Base) (H : Heap) : CallH Tryz.prog 100 B 32 [vNode x] H (.returned (putV (mayNode x) (attsNode x))) H :=
  pu_mk okp (knP (sum1 ok91) (pu1 (pu_b mayNodeH))) lp_none rfl (putV_below _ _ _) (putNodeC x hf hw hl) B H
theorem putFieldC (x : OField) (hf : fitField x) (hw : wfField x) : Is (gPutField (real Tryz.prog) MR (MBr vField fitField mayField) (MLr cInt wfInt oneInt) x.id (x.base : Int) x.node x.off x.wid (PQ (putV (mayField x) (attsField x)))) := by
  refine ⟨?_⟩
  rw [gPutField_eq]
  exact ⟨x, rfl, hf, branch_mk (fun hm => n_cv t3 (⟨rfl, n0_mk 1 (u64N x.id) (by decide) (u64N_lt _) (fun h0 => n_cv t5 (⟨rfl, n0_mk 2 (u64N x.base) (by decide) (u64N_lt _) (fun h1 => n_cv t3 (⟨rfl, n0_mk 3 (u64N x.node) (by decide) (u64N_lt _) (fun h2 => n_cv t3 (⟨rfl, n0_mk 4 (u64N x.off) (by decide) (u64N_lt _) (fun h3 => n_cv t3 (⟨rfl, n0_mk 5 (u64N x.wid) (by decide) (u64N_lt _) (fun h4 => ⟨rfl, (PQ.of (by rw [hm]; unfold putV attsField; rw [addN_e h0, addN_e h1, addN_e h2, addN_e h3, addN_e h4] <;> rfl) (putV_below _ _ _))⟩) (fun h4 => (fun hI => ⟨rfl, bt_mk hI (by decide) ((PQ.of (by rw [hm]; unfold putV attsField; rw [addN_e h0, addN_e h1, addN_e h2, addN_e h3, addN_f h4] <;> rfl) (putV_below _ _ _)))⟩) (isAb_one 5 (bytesOf (numB (u64N x.wid))) (by decide)))⟩)) (fun h3 => (fun hI => n_cv t3 (⟨rfl, n1_mk 5 (u64N x.wid) hI (by decide) (by decide) (u64N_lt _) (fun hI => ⟨rfl, bt_mk hI (by decide) ((PQ.of (by rw [hm]; unfold putV attsField; rw [addN_e h0, addN_e h1, addN_e h2, addN_f h3] <;> rfl) (putV_below _ _ _)))⟩)⟩)) (isAb_one 4 (bytesOf (numB (u64N x.off))) (by decide)))⟩)) (fun h2 => (fun hI => n_cv t3 (⟨rfl, n1_mk 4 (u64N x.off) hI (by decide) (by decide) (u64N_lt _) (fun hI => n_cv t3 (⟨rfl, n1_mk 5 (u64N x.wid) hI (by decide) (by decide) (u64N_lt _) (fun hI => ⟨rfl, bt_mk hI (by decide) ((PQ.of (by rw [hm]; unfold putV attsField; rw [addN_e h0, addN_e h1, addN_f h2] <;> rfl) (putV_below _ _ _)))⟩)⟩))⟩)) (isAb_one 3 (bytesOf (numB (u64N x.node))) (by decide)))⟩)) (fun h1 => (fun hI => n_cv t3 (⟨rfl, n1_mk 3 (u64N x.node) hI (by decide) (by decide) (u64N_lt _) (fun hI => n_cv t3 (⟨rfl, n1_mk 4 (u64N x.off) hI (by decide) (by decide) (u64N_lt _) (fun hI => n_cv t3 (⟨rfl, n1_mk 5 (u64N x.wid) hI (by decide) (by decide) (u64N_lt _) (fun hI => ⟨rfl, bt_mk hI (by decide) ((PQ.of (by rw [hm]; unfold putV attsField; rw [addN_e h0, addN_f h1] <;> rfl) (putV_below _ _ _)))⟩)⟩))⟩))⟩)) (isAb_one 2 (bytesOf (numB (u64N x.base))) (by decide)))⟩)) (fun h0 => (fun hI => n_cv t5 (⟨rfl, n1_mk 2 (u64N x.base) hI (by decide) (by decide) (u64N_lt _) (fun hI => n_cv t3 (⟨rfl, n1_mk 3 (u64N x.node) hI (by decide) (by decide) (u64N_lt _) (fun hI => n_cv t3 (⟨rfl, n1_mk 4 (u64N x.off) hI (by decide) (by decide) (u64N_lt _) (fun hI => n_cv t3 (⟨rfl, n1_mk 5 (u64N x.wid) hI (by decide) (by decide) (u64N_lt _) (fun hI => ⟨rfl, bt_mk hI (by decide) ((PQ.of (by rw [hm]; unfold putV attsField; rw [addN_f h0] <;> rfl) (putV_below _ _ _)))⟩)⟩))⟩))⟩))⟩)) (isAb_one 1 (bytesOf (numB (u64N x.id))) (by decide)))⟩)) (fun hm => PQ.of (by rw [hm]; rfl) (putV_below _ _ _))⟩
theorem putFieldH (x : OField) (hf : fitField x) (hw : wfField x) (B : Base) (H : Heap) : CallH Tryz.prog 100 B 23 [vField x] H (.returned (putV (mayField x) (attsField x))) H :=
  pu_mk okp (knP sum0 (pu1 (pu_b mayFieldH))) lp_none rfl (putV_below _ _ _) (putFieldC x hf hw) B H
theorem putTableC (x : OTable) (hf : fitTable x) (hw : wfTable x) (hl : x.keys.length < 1000) : Is (gPutTable (real Tryz.prog) MR (MBr vTable fitTable mayTable) (MLr cInt wfInt oneInt) x.id (x.kind : Int) (rowsOf cInt x.keys) x.cap x.miss (PQ (putV (mayTable x) (attsTable x)))) := by
  refine ⟨?_⟩
  rw [gPutTable_eq]
  exact ⟨x, rfl, hf, branch_mk (fun hm => n_cv t3 (⟨rfl, n0_mk 1 (u64N x.id) (by decide) (u64N_lt _) (fun h0 => n_cv t5 (⟨rfl, n0_mk 2 (u64N x.kind) (by decide) (u64N_lt _) (fun h1 => ml_mk hl (fun _ _ => trivial) (⟨rfl, t0_mk 3 (by decide) (fun h2 => n_cv t3 (⟨rfl, n0_mk 4 (u64N x.cap) (by decide) (u64N_lt _) (fun h3 => n_cv t3 (⟨rfl, n0_mk 5 (u64N x.miss) (by decide) (u64N_lt _) (fun h4 => ⟨rfl, (PQ.of (by rw [hm]; unfold putV attsTable; rw [addN_e h0, addN_e h1, addT_e h2, addN_e h3, addN_e h4] <;> rfl) (putV_below _ _ _))⟩) (fun h4 => (fun hI => ⟨rfl, bt_mk hI (by decide) ((PQ.of (by rw [hm]; unfold putV attsTable; rw [addN_e h0, addN_e h1, addT_e h2, addN_e h3, addN_f h4] <;> rfl) (putV_below _ _ _)))⟩) (isAb_one 5 (bytesOf (numB (u64N x.miss))) (by decide)))⟩)) (fun h3 => (fun hI => n_cv t3 (⟨rfl, n1_mk 5 (u64N x.miss) hI (by decide) (by decide) (u64N_lt _) (fun hI => ⟨rfl, bt_mk hI (by decide) ((PQ.of (by rw [hm]; unfold putV attsTable; rw [addN_e h0, addN_e h1, addT_e h2, addN_f h3] <;> rfl) (putV_below _ _ _)))⟩)⟩)) (isAb_one 4 (bytesOf (numB (u64N x.cap))) (by decide)))⟩)) (fun h2 => (fun hI => n_cv t3 (⟨rfl, n1_mk 4 (u64N x.cap) hI (by decide) (by decide) (u64N_lt _) (fun hI => n_cv t3 (⟨rfl, n1_mk 5 (u64N x.miss) hI (by decide) (by decide) (u64N_lt _) (fun hI => ⟨rfl, bt_mk hI (by decide) ((PQ.of (by rw [hm]; unfold putV attsTable; rw [addN_e h0, addN_e h1, addT_f h2] <;> rfl) (putV_below _ _ _)))⟩)⟩))⟩)) (isAb_one 3 (bytesOf (listS (x.keys.map oneInt))) (by decide)))⟩)) (fun h1 => (fun hI => ml_mk hl (fun _ _ => trivial) (⟨rfl, t1_mk 3 hI (by decide) (by decide) (fun hI => n_cv t3 (⟨rfl, n1_mk 4 (u64N x.cap) hI (by decide) (by decide) (u64N_lt _) (fun hI => n_cv t3 (⟨rfl, n1_mk 5 (u64N x.miss) hI (by decide) (by decide) (u64N_lt _) (fun hI => ⟨rfl, bt_mk hI (by decide) ((PQ.of (by rw [hm]; unfold putV attsTable; rw [addN_e h0, addN_f h1] <;> rfl) (putV_below _ _ _)))⟩)⟩))⟩))⟩)) (isAb_one 2 (bytesOf (numB (u64N x.kind))) (by decide)))⟩)) (fun h0 => (fun hI => n_cv t5 (⟨rfl, n1_mk 2 (u64N x.kind) hI (by decide) (by decide) (u64N_lt _) (fun hI => ml_mk hl (fun _ _ => trivial) (⟨rfl, t1_mk 3 hI (by decide) (by decide) (fun hI => n_cv t3 (⟨rfl, n1_mk 4 (u64N x.cap) hI (by decide) (by decide) (u64N_lt _) (fun hI => n_cv t3 (⟨rfl, n1_mk 5 (u64N x.miss) hI (by decide) (by decide) (u64N_lt _) (fun hI => ⟨rfl, bt_mk hI (by decide) ((PQ.of (by rw [hm]; unfold putV attsTable; rw [addN_f h0] <;> rfl) (putV_below _ _ _)))⟩)⟩))⟩))⟩))⟩)) (isAb_one 1 (bytesOf (numB (u64N x.id))) (by decide)))⟩)) (fun hm => PQ.of (by rw [hm]; rfl) (putV_below _ _ _))⟩
theorem putTableH (x : OTable) (hf : fitTable x) (hw : wfTable x) (hl : x.keys.length < 1000) (B : Base) (H : Heap) : CallH Tryz.prog 100 B 33 [vTable x] H (.returned (putV (mayTable x) (attsTable x))) H :=
  pu_mk okp (knP (sum1 ok93) (pu1 (pu_b mayTableH))) lp_none rfl (putV_below _ _ _) (putTableC x hf hw hl) B H
theorem putEntryC (x : OEntry) (hf : fitEntry x) (hw : wfEntry x) (hl : x.args.length < 1000) : Is (gPutEntry (real Tryz.prog) MR (MBr vEntry fitEntry mayEntry) (MLr cNat wfNat oneNat) x.tab x.key x.oth x.len x.prio x.blk (rowsOf cNat x.args) x.idle x.hard (x.cook : Int) x.tell (PQ (putV (mayEntry x) (attsEntry x)))) := by
  refine ⟨?_⟩
  rw [gPutEntry_eq]
  exact ⟨x, rfl, hf, branch_mk (fun hm => n_cv t3 (⟨rfl, n0_mk 1 (u64N x.tab) (by decide) (u64N_lt _) (fun h0 => ⟨rfl, t0_mk 2 (by decide) (fun h1 => ⟨rfl, t0_mk 3 (by decide) (fun h2 => n_cv t3 (⟨rfl, n0_mk 4 (u64N x.len) (by decide) (u64N_lt _) (fun h3 => n_cv t3 (⟨rfl, n0_mk 5 (u64N x.prio) (by decide) (u64N_lt _) (fun h4 => n_cv t3 (⟨rfl, n0_mk 6 (u64N x.blk) (by decide) (u64N_lt _) (fun h5 => ml_mk hl hw.1 (⟨rfl, t0_mk 7 (by decide) (fun h6 => n_cv t2 (⟨rfl, n0_mk 8 (u64N x.idle) (by decide) (u64N_lt _) (fun h7 => n_cv t2 (⟨rfl, n0_mk 9 (u64N x.hard) (by decide) (u64N_lt _) (fun h8 => ⟨rfl, n0_mk 10 x.cook (by decide) hw.2 (fun h9 => branch_mk (fun hb10 => ⟨rfl, n0_mk 11 1 (by decide) (by decide) (fun h10 => ⟨rfl, (PQ.of (by rw [hm]; unfold putV attsEntry; rw [addN_e h0, addT_e h1, addT_e h2, addN_e h3, addN_e h4, addN_e h5, addT_e h6, addN_e h7, addN_e h8, addN_e h9, addB_t hb10, addN_e h10] <;> rfl) (putV_below _ _ _))⟩) (fun h10 => (fun hI => ⟨rfl, bt_mk hI (by decide) ((PQ.of (by rw [hm]; unfold putV attsEntry; rw [addN_e h0, addT_e h1, addT_e h2, addN_e h3, addN_e h4, addN_e h5, addT_e h6, addN_e h7, addN_e h8, addN_e h9, addB_t hb10, addN_f h10] <;> rfl) (putV_below _ _ _)))⟩) (isAb_one 11 (bytesOf (numB 1)) (by decide)))⟩) (fun hb10 => ⟨rfl, (PQ.of (by rw [hm]; unfold putV attsEntry; rw [addN_e h0, addT_e h1, addT_e h2, addN_e h3, addN_e h4, addN_e h5, addT_e h6, addN_e h7, addN_e h8, addN_e h9, addB_f hb10] <;> rfl) (putV_below _ _ _))⟩)) (fun h9 => (fun hI => branch_mk (fun hb10 => ⟨rfl, n1_mk 11 1 hI (by decide) (by decide) (by decide) (fun hI => ⟨rfl, bt_mk hI (by decide) ((PQ.of (by rw [hm]; unfold putV attsEntry; rw [addN_e h0, addT_e h1, addT_e h2, addN_e h3, addN_e h4, addN_e h5, addT_e h6, addN_e h7, addN_e h8, addN_f h9, addB_t hb10] <;> rfl) (putV_below _ _ _)))⟩)⟩) (fun hb10 => ⟨rfl, bt_mk hI (by decide) ((PQ.of (by rw [hm]; unfold putV attsEntry; rw [addN_e h0, addT_e h1, addT_e h2, addN_e h3, addN_e h4, addN_e h5, addT_e h6, addN_e h7, addN_e h8, addN_f h9, addB_f hb10] <;> rfl) (putV_below _ _ _)))⟩)) (isAb_one 10 (bytesOf (numB x.cook)) (by decide)))⟩) (fun h8 => (fun hI => ⟨rfl, n1_mk 10 x.cook hI (by decide) (by decide) hw.2 (fun hI => branch_mk (fun hb10 => ⟨rfl, n1_mk 11 1 hI (by decide) (by decide) (by decide) (fun hI => ⟨rfl, bt_mk hI (by decide) ((PQ.of (by rw [hm]; unfold putV attsEntry; rw [addN_e h0, addT_e h1, addT_e h2, addN_e h3, addN_e h4, addN_e h5, addT_e h6, addN_e h7, addN_f h8, addB_t hb10] <;> rfl) (putV_below _ _ _)))⟩)⟩) (fun hb10 => ⟨rfl, bt_mk hI (by decide) ((PQ.of (by rw [hm]; unfold putV attsEntry; rw [addN_e h0, addT_e h1, addT_e h2, addN_e h3, addN_e h4, addN_e h5, addT_e h6, addN_e h7, addN_f h8, addB_f hb10] <;> rfl) (putV_below _ _ _)))⟩))⟩) (isAb_one 9 (bytesOf (numB (u64N x.hard))) (by decide)))⟩)) (fun h7 => (fun hI => n_cv t2 (⟨rfl, n1_mk 9 (u64N x.hard) hI (by decide) (by decide) (u64N_lt _) (fun hI => ⟨rfl, n1_mk 10 x.cook hI (by decide) (by decide) hw.2 (fun hI => branch_mk (fun hb10 => ⟨rfl, n1_mk 11 1 hI (by decide) (by decide) (by decide) (fun hI => ⟨rfl, bt_mk hI (by decide) ((PQ.of (by rw [hm]; unfold putV attsEntry; rw [addN_e h0, addT_e h1, addT_e h2, addN_e h3, addN_e h4, addN_e h5, addT_e h6, addN_f h7, addB_t hb10] <;> rfl) (putV_below _ _ _)))⟩)⟩) (fun hb10 => ⟨rfl, bt_mk hI (by decide) ((PQ.of (by rw [hm]; unfold putV attsEntry; rw [addN_e h0, addT_e h1, addT_e h2, addN_e h3, addN_e h4, addN_e h5, addT_e h6, addN_f h7, addB_f hb10] <;> rfl) (putV_below _ _ _)))⟩))⟩)⟩)) (isAb_one 8 (bytesOf (numB (u64N x.idle))) (by decide)))⟩)) (fun h6 => (fun hI => n_cv t2 (⟨rfl, n1_mk 8 (u64N x.idle) hI (by decide) (by decide) (u64N_lt _) (fun hI => n_cv t2 (⟨rfl, n1_mk 9 (u64N x.hard) hI (by decide) (by decide) (u64N_lt _) (fun hI => ⟨rfl, n1_mk 10 x.cook hI (by decide) (by decide) hw.2 (fun hI => branch_mk (fun hb10 => ⟨rfl, n1_mk 11 1 hI (by decide) (by decide) (by decide) (fun hI => ⟨rfl, bt_mk hI (by decide) ((PQ.of (by rw [hm]; unfold putV attsEntry; rw [addN_e h0, addT_e h1, addT_e h2, addN_e h3, addN_e h4, addN_e h5, addT_f h6, addB_t hb10] <;> rfl) (putV_below _ _ _)))⟩)⟩) (fun hb10 => ⟨rfl, bt_mk hI (by decide) ((PQ.of (by rw [hm]; unfold putV attsEntry; rw [addN_e h0, addT_e h1, addT_e h2, addN_e h3, addN_e h4, addN_e h5, addT_f h6, addB_f hb10] <;> rfl) (putV_below _ _ _)))⟩))⟩)⟩))⟩)) (isAb_one 7 (bytesOf (listS (x.args.map oneNat))) (by decide)))⟩)) (fun h5 => (fun hI => ml_mk hl hw.1 (⟨rfl, t1_mk 7 hI (by decide) (by decide) (fun hI => n_cv t2 (⟨rfl, n1_mk 8 (u64N x.idle) hI (by decide) (by decide) (u64N_lt _) (fun hI => n_cv t2 (⟨rfl, n1_mk 9 (u64N x.hard) hI (by decide) (by decide) (u64N_lt _) (fun hI => ⟨rfl, n1_mk 10 x.cook hI (by decide) (by decide) hw.2 (fun hI => branch_mk (fun hb10 => ⟨rfl, n1_mk 11 1 hI (by decide) (by decide) (by decide) (fun hI => ⟨rfl, bt_mk hI (by decide) ((PQ.of (by rw [hm]; unfold putV attsEntry; rw [addN_e h0, addT_e h1, addT_e h2, addN_e h3, addN_e h4, addN_f h5, addB_t hb10] <;> rfl) (putV_below _ _ _)))⟩)⟩) (fun hb10 => ⟨rfl, bt_mk hI (by decide) ((PQ.of (by rw [hm]; unfold putV attsEntry; rw [addN_e h0, addT_e h1, addT_e h2, addN_e h3, addN_e h4, addN_f h5, addB_f hb10] <;> rfl) (putV_below _ _ _)))⟩))⟩)⟩))⟩))⟩)) (isAb_one 6 (bytesOf (numB (u64N x.blk))) (by decide)))⟩)) (fun h4 => (fun hI => n_cv t3 (⟨rfl, n1_mk 6 (u64N x.blk) hI (by decide) (by decide) (u64N_lt _) (fun hI => ml_mk hl hw.1 (⟨rfl, t1_mk 7 hI (by decide) (by decide) (fun hI => n_cv t2 (⟨rfl, n1_mk 8 (u64N x.idle) hI (by decide) (by decide) (u64N_lt _) (fun hI => n_cv t2 (⟨rfl, n1_mk 9 (u64N x.hard) hI (by decide) (by decide) (u64N_lt _) (fun hI => ⟨rfl, n1_mk 10 x.cook hI (by decide) (by decide) hw.2 (fun hI => branch_mk (fun hb10 => ⟨rfl, n1_mk 11 1 hI (by decide) (by decide) (by decide) (fun hI => ⟨rfl, bt_mk hI (by decide) ((PQ.of (by rw [hm]; unfold putV attsEntry; rw [addN_e h0, addT_e h1, addT_e h2, addN_e h3, addN_f h4, addB_t hb10] <;> rfl) (putV_below _ _ _)))⟩)⟩) (fun hb10 => ⟨rfl, bt_mk hI (by decide) ((PQ.of (by rw [hm]; unfold putV attsEntry; rw [addN_e h0, addT_e h1, addT_e h2, addN_e h3, addN_f h4, addB_f hb10] <;> rfl) (putV_below _ _ _)))⟩))⟩)⟩))⟩))⟩))⟩)) (isAb_one 5 (bytesOf (numB (u64N x.prio))) (by decide)))⟩)) (fun h3 => (fun hI => n_cv t3 (⟨rfl, n1_mk 5 (u64N x.prio) hI (by decide) (by decide) (u64N_lt _) (fun hI => n_cv t3 (⟨rfl, n1_mk 6 (u64N x.blk) hI (by decide) (by decide) (u64N_lt _) (fun hI => ml_mk hl hw.1 (⟨rfl, t1_mk 7 hI (by decide) (by decide) (fun hI => n_cv t2 (⟨rfl, n1_mk 8 (u64N x.idle) hI (by decide) (by decide) (u64N_lt _) (fun hI => n_cv t2 (⟨rfl, n1_mk 9 (u64N x.hard) hI (by decide) (by decide) (u64N_lt _) (fun hI => ⟨rfl, n1_mk 10 x.cook hI (by decide) (by decide) hw.2 (fun hI => branch_mk (fun hb10 => ⟨rfl, n1_mk 11 1 hI (by decide) (by decide) (by decide) (fun hI => ⟨rfl, bt_mk hI (by decide) ((PQ.of (by rw [hm]; unfold putV attsEntry; rw [addN_e h0, addT_e h1, addT_e h2, addN_f h3, addB_t hb10] <;> rfl) (putV_below _ _ _)))⟩)⟩) (fun hb10 => ⟨rfl, bt_mk hI (by decide) ((PQ.of (by rw [hm]; unfold putV attsEntry; rw [addN_e h0, addT_e h1, addT_e h2, addN_f h3, addB_f hb10] <;> rfl) (putV_below _ _ _)))⟩))⟩)⟩))⟩))⟩))⟩))⟩)) (isAb_one 4 (bytesOf (numB (u64N x.len))) (by decide)))⟩)) (fun h2 => (fun hI => n_cv t3 (⟨rfl, n1_mk 4 (u64N x.len) hI (by decide) (by decide) (u64N_lt _) (fun hI => n_cv t3 (⟨rfl, n1_mk 5 (u64N x.prio) hI (by decide) (by decide) (u64N_lt _) (fun hI => n_cv t3 (⟨rfl, n1_mk 6 (u64N x.blk) hI (by decide) (by decide) (u64N_lt _) (fun hI => ml_mk hl hw.1 (⟨rfl, t1_mk 7 hI (by decide) (by decide) (fun hI => n_cv t2 (⟨rfl, n1_mk 8 (u64N x.idle) hI (by decide) (by decide) (u64N_lt _) (fun hI => n_cv t2 (⟨rfl, n1_mk 9 (u64N x.hard) hI (by decide) (by decide) (u64N_lt _) (fun hI => ⟨rfl, n1_mk 10 x.cook hI (by decide) (by decide) hw.2 (fun hI => branch_mk (fun hb10 => ⟨rfl, n1_mk 11 1 hI (by decide) (by decide) (by decide) (fun hI => ⟨rfl, bt_mk hI (by decide) ((PQ.of (by rw [hm]; unfold putV attsEntry; rw [addN_e h0, addT_e h1, addT_f h2, addB_t hb10] <;> rfl) (putV_below _ _ _)))⟩)⟩) (fun hb10 => ⟨rfl, bt_mk hI (by decide) ((PQ.of (by rw [hm]; unfold putV attsEntry; rw [addN_e h0, addT_e h1, addT_f h2, addB_f hb10] <;> rfl) (putV_below _ _ _)))⟩))⟩)⟩))⟩))⟩))⟩))⟩))⟩)) (isAb_one 3 x.oth (by decide)))⟩) (fun h1 => (fun hI => ⟨rfl, t1_mk 3 hI (by decide) (by decide) (fun hI => n_cv t3 (⟨rfl, n1_mk 4 (u64N x.len) hI (by decide) (by decide) (u64N_lt _) (fun hI => n_cv t3 (⟨rfl, n1_mk 5 (u64N x.prio) hI (by decide) (by decide) (u64N_lt _) (fun hI => n_cv t3 (⟨rfl, n1_mk 6 (u64N x.blk) hI (by decide) (by decide) (u64N_lt _) (fun hI => ml_mk hl hw.1 (⟨rfl, t1_mk 7 hI (by decide) (by decide) (fun hI => n_cv t2 (⟨rfl, n1_mk 8 (u64N x.idle) hI (by decide) (by decide) (u64N_lt _) (fun hI => n_cv t2 (⟨rfl, n1_mk 9 (u64N x.hard) hI (by decide) (by decide) (u64N_lt _) (fun hI => ⟨rfl, n1_mk 10 x.cook hI (by decide) (by decide) hw.2 (fun hI => branch_mk (fun hb10 => ⟨rfl, n1_mk 11 1 hI (by decide) (by decide) (by decide) (fun hI => ⟨rfl, bt_mk hI (by decide) ((PQ.of (by rw [hm]; unfold putV attsEntry; rw [addN_e h0, addT_f h1, addB_t hb10] <;> rfl) (putV_below _ _ _)))⟩)⟩) (fun hb10 => ⟨rfl, bt_mk hI (by decide) ((PQ.of (by rw [hm]; unfold putV attsEntry; rw [addN_e h0, addT_f h1, addB_f hb10] <;> rfl) (putV_below _ _ _)))⟩))⟩)⟩))⟩))⟩))⟩))⟩))⟩))⟩) (isAb_one 2 x.key (by decide)))⟩) (fun h0 => (fun hI => ⟨rfl, t1_mk 2 hI (by decide) (by decide) (fun hI => ⟨rfl, t1_mk 3 hI (by decide) (by decide) (fun hI => n_cv t3 (⟨rfl, n1_mk 4 (u64N x.len) hI (by decide) (by decide) (u64N_lt _) (fun hI => n_cv t3 (⟨rfl, n1_mk 5 (u64N x.prio) hI (by decide) (by decide) (u64N_lt _) (fun hI => n_cv t3 (⟨rfl, n1_mk 6 (u64N x.blk) hI (by decide) (by decide) (u64N_lt _) (fun hI => ml_mk hl hw.1 (⟨rfl, t1_mk 7 hI (by decide) (by decide) (fun hI => n_cv t2 (⟨rfl, n1_mk 8 (u64N x.idle) hI (by decide) (by decide) (u64N_lt _) (fun hI => n_cv t2 (⟨rfl, n1_mk 9 (u64N x.hard) hI (by decide) (by decide) (u64N_lt _) (fun hI => ⟨rfl, n1_mk 10 x.cook hI (by decide) (by decide) hw.2 (fun hI => branch_mk (fun hb10 => ⟨rfl, n1_mk 11 1 hI (by decide) (by decide) (by decide) (fun hI => ⟨rfl, bt_mk hI (by decide) ((PQ.of (by rw [hm]; unfold putV attsEntry; rw [addN_f h0, addB_t hb10] <;> rfl) (putV_below _ _ _)))⟩)⟩) (fun hb10 => ⟨rfl, bt_mk hI (by decide) ((PQ.of (by rw [hm]; unfold putV attsEntry; rw [addN_f h0, addB_f hb10] <;> rfl) (putV_below _ _ _)))⟩))⟩)⟩))⟩))⟩))⟩))⟩))⟩))⟩)⟩) (isAb_one 1 (bytesOf (numB (u64N x.tab))) (by decide)))⟩)) (fun hm => PQ.of (by rw [hm]; rfl) (putV_below _ _ _))⟩
theorem putEntryH (x : OEntry) (hf : fitEntry x) (hw : wfEntry x) (hl : x.args.length < 1000) (B : Base) (H : Heap) : CallH Tryz.prog 100 B 34 [vEntry x] H (.returned (putV (mayEntry x) (attsEntry x))) H :=
  pu_mk okp (knP (sum1 ok97) (pu1 (pu_b mayEntryH))) lp_none rfl (putV_below _ _ _) (putEntryC x hf hw hl) B H
theorem putBlockC (x : OBlock) (hf : fitBlock x) (hw : wfBlock x) (hl : x.code.length < 1000) : Is (gPutBlock (real Tryz.prog) MR (MBr vBlock fitBlock mayBlock) (MLr cInstr wfInstr oneInstr) x.id (rowsOf cInstr x.code) (PQ (putV (mayBlock x) (attsBlock x)))) := by
  refine ⟨?_⟩
  rw [gPutBlock_eq]
  exact ⟨x, rfl, hf, branch_mk (fun hm => n_cv t3 (⟨rfl, n0_mk 1 (u64N x.id) (by decide) (u64N_lt _) (fun h0 => ml_mk hl hw (⟨rfl, t0_mk 2 (by decide) (fun h1 => ⟨rfl, (PQ.of (by rw [hm]; unfold putV attsBlock; rw [addN_e h0, addT_e h1] <;> rfl) (putV_below _ _ _))⟩) (fun h1 => (fun hI => ⟨rfl, bt_mk hI (by decide) ((PQ.of (by rw [hm]; unfold putV attsBlock; rw [addN_e h0, addT_f h1] <;> rfl) (putV_below _ _ _)))⟩) (isAb_one 2 (bytesOf (listS (x.code.map oneInstr))) (by decide)))⟩)) (fun h0 => (fun hI => ml_mk hl hw (⟨rfl, t1_mk 2 hI (by decide) (by decide) (fun hI => ⟨rfl, bt_mk hI (by decide) ((PQ.of (by rw [hm]; unfold putV attsBlock; rw [addN_f h0] <;> rfl) (putV_below _ _ _)))⟩)⟩)) (isAb_one 1 (bytesOf (numB (u64N x.id))) (by decide)))⟩)) (fun hm => PQ.of (by rw [hm]; rfl) (putV_below _ _ _))⟩
theorem putBlockH (x : OBlock) (hf : fitBlock x) (hw : wfBlock x) (hl : x.code.length < 1000) (B : Base) (H : Heap) : CallH Tryz.prog 100 B 22 [vBlock x] H (.returned (putV (mayBlock x) (attsBlock x))) H :=
  pu_mk okp (knP (sum1 ok82) (pu1 (pu_b mayBlockH))) lp_none rfl (putV_below _ _ _) (putBlockC x hf hw hl) B H
theorem putGroupC (x : OGroup) (hf : fitGroup x) (hw : wfGroup x) (hl : x.bks.length < 1000) : Is (gPutGroup (real Tryz.prog) MR (MBr vGroup fitGroup mayGroup) (MLr cBucket wfBucket oneBucket) x.id (x.kind : Int) x.fld (rowsOf cBucket x.bks) (PQ (putV (mayGroup x) (attsGroup x)))) := by
  refine ⟨?_⟩
  rw [gPutGroup_eq]
  exact ⟨x, rfl, hf, branch_mk (fun hm => n_cv t3 (⟨rfl, n0_mk 1 (u64N x.id) (by decide) (u64N_lt _) (fun h0 => n_cv t5 (⟨rfl, n0_mk 2 (u64N x.kind) (by decide) (u64N_lt _) (fun h1 => n_cv t3 (⟨rfl, n0_mk 3 (u64N x.fld) (by decide) (u64N_lt _) (fun h2 => ml_mk hl hw (⟨rfl, t0_mk 4 (by decide) (fun h3 => ⟨rfl, (PQ.of (by rw [hm]; unfold putV attsGroup; rw [addN_e h0, addN_e h1, addN_e h2, addT_e h3] <;> rfl) (putV_below _ _ _))⟩) (fun h3 => (fun hI => ⟨rfl, bt_mk hI (by decide) ((PQ.of (by rw [hm]; unfold putV attsGroup; rw [addN_e h0, addN_e h1, addN_e h2, addT_f h3] <;> rfl) (putV_below _ _ _)))⟩) (isAb_one 4 (bytesOf (listS (x.bks.map oneBucket))) (by decide)))⟩)) (fun h2 => (fun hI => ml_mk hl hw (⟨rfl, t1_mk 4 hI (by decide) (by decide) (fun hI => ⟨rfl, bt_mk hI (by decide) ((PQ.of (by rw [hm]; unfold putV attsGroup; rw [addN_e h0, addN_e h1, addN_f h2] <;> rfl) (putV_below _ _ _)))⟩)⟩)) (isAb_one 3 (bytesOf (numB (u64N x.fld))) (by decide)))⟩)) (fun h1 => (fun hI => n_cv t3 (⟨rfl, n1_mk 3 (u64N x.fld) hI (by decide) (by decide) (u64N_lt _) (fun hI => ml_mk hl hw (⟨rfl, t1_mk 4 hI (by decide) (by decide) (fun hI => ⟨rfl, bt_mk hI (by decide) ((PQ.of (by rw [hm]; unfold putV attsGroup; rw [addN_e h0, addN_f h1] <;> rfl) (putV_below _ _ _)))⟩)⟩))⟩)) (isAb_one 2 (bytesOf (numB (u64N x.kind))) (by decide)))⟩)) (fun h0 => (fun hI => n_cv t5 (⟨rfl, n1_mk 2 (u64N x.kind) hI (by decide) (by decide) (u64N_lt _) (fun hI => n_cv t3 (⟨rfl, n1_mk 3 (u64N x.fld) hI (by decide) (by decide) (u64N_lt _) (fun hI => ml_mk hl hw (⟨rfl, t1_mk 4 hI (by decide) (by decide) (fun hI => ⟨rfl, bt_mk hI (by decide) ((PQ.of (by rw [hm]; unfold putV attsGroup; rw [addN_f h0] <;> rfl) (putV_below _ _ _)))⟩)⟩))⟩))⟩)) (isAb_one 1 (bytesOf (numB (u64N x.id))) (by decide)))⟩)) (fun hm => PQ.of (by rw [hm]; rfl) (putV_below _ _ _))⟩
theorem putGroupH (x : OGroup) (hf : fitGroup x) (hw : wfGroup x) (hl : x.bks.length < 1000) (B : Base) (H : Heap) : CallH Tryz.prog 100 B 35 [vGroup x] H (.returned (putV (mayGroup x) (attsGroup x))) H :=
  pu_mk okp (knP (sum1 ok98) (pu1 (pu_b mayGroupH))) lp_none rfl (putV_below _ _ _) (putGroupC x hf hw hl) B H
theorem putMeterC (x : OMeter) (hf : fitMeter x) (hw : wfMeter x) : Is (gPutMeter (real Tryz.prog) MR (MBr vMeter fitMeter mayMeter) (MLr cInt wfInt oneInt) x.id x.rate x.burst (PQ (putV (mayMeter x) (attsMeter x)))) := by
  refine ⟨?_⟩
  rw [gPutMeter_eq]
  exact ⟨x, rfl, hf, branch_mk (fun hm => n_cv t3 (⟨rfl, n0_mk 1 (u64N x.id) (by decide) (u64N_lt _) (fun h0 => n_cv t2 (⟨rfl, n0_mk 2 (u64N x.rate) (by decide) (u64N_lt _) (fun h1 => n_cv t2 (⟨rfl, n0_mk 3 (u64N x.burst) (by decide) (u64N_lt _) (fun h2 => ⟨rfl, (PQ.of (by rw [hm]; unfold putV attsMeter; rw [addN_e h0, addN_e h1, addN_e h2] <;> rfl) (putV_below _ _ _))⟩) (fun h2 => (fun hI => ⟨rfl, bt_mk hI (by decide) ((PQ.of (by rw [hm]; unfold putV attsMeter; rw [addN_e h0, addN_e h1, addN_f h2] <;> rfl) (putV_below _ _ _)))⟩) (isAb_one 3 (bytesOf (numB (u64N x.burst))) (by decide)))⟩)) (fun h1 => (fun hI => n_cv t2 (⟨rfl, n1_mk 3 (u64N x.burst) hI (by decide) (by decide) (u64N_lt _) (fun hI => ⟨rfl, bt_mk hI (by decide) ((PQ.of (by rw [hm]; unfold putV attsMeter; rw [addN_e h0, addN_f h1] <;> rfl) (putV_below _ _ _)))⟩)⟩)) (isAb_one 2 (bytesOf (numB (u64N x.rate))) (by decide)))⟩)) (fun h0 => (fun hI => n_cv t2 (⟨rfl, n1_mk 2 (u64N x.rate) hI (by decide) (by decide) (u64N_lt _) (fun hI => n_cv t2 (⟨rfl, n1_mk 3 (u64N x.burst) hI (by decide) (by decide) (u64N_lt _) (fun hI => ⟨rfl, bt_mk hI (by decide) ((PQ.of (by rw [hm]; unfold putV attsMeter; rw [addN_f h0] <;> rfl) (putV_below _ _ _)))⟩)⟩))⟩)) (isAb_one 1 (bytesOf (numB (u64N x.id))) (by decide)))⟩)) (fun hm => PQ.of (by rw [hm]; rfl) (putV_below _ _ _))⟩
theorem putMeterH (x : OMeter) (hf : fitMeter x) (hw : wfMeter x) (B : Base) (H : Heap) : CallH Tryz.prog 100 B 36 [vMeter x] H (.returned (putV (mayMeter x) (attsMeter x))) H :=
  pu_mk okp (knP sum0 (pu1 (pu_b mayMeterH))) lp_none rfl (putV_below _ _ _) (putMeterC x hf hw) B H
theorem putRegsC (x : ORegs) (hf : fitRegs x) (hw : wfRegs x) : Is (gPutRegs (real Tryz.prog) MR (MBr vRegs fitRegs mayRegs) (MLr cInt wfInt oneInt) x.id x.size (PQ (putV (mayRegs x) (attsRegs x)))) := by
  refine ⟨?_⟩
  rw [gPutRegs_eq]
  exact ⟨x, rfl, hf, branch_mk (fun hm => n_cv t3 (⟨rfl, n0_mk 1 (u64N x.id) (by decide) (u64N_lt _) (fun h0 => n_cv t3 (⟨rfl, n0_mk 2 (u64N x.size) (by decide) (u64N_lt _) (fun h1 => ⟨rfl, (PQ.of (by rw [hm]; unfold putV attsRegs; rw [addN_e h0, addN_e h1] <;> rfl) (putV_below _ _ _))⟩) (fun h1 => (fun hI => ⟨rfl, bt_mk hI (by decide) ((PQ.of (by rw [hm]; unfold putV attsRegs; rw [addN_e h0, addN_f h1] <;> rfl) (putV_below _ _ _)))⟩) (isAb_one 2 (bytesOf (numB (u64N x.size))) (by decide)))⟩)) (fun h0 => (fun hI => n_cv t3 (⟨rfl, n1_mk 2 (u64N x.size) hI (by decide) (by decide) (u64N_lt _) (fun hI => ⟨rfl, bt_mk hI (by decide) ((PQ.of (by rw [hm]; unfold putV attsRegs; rw [addN_f h0] <;> rfl) (putV_below _ _ _)))⟩)⟩)) (isAb_one 1 (bytesOf (numB (u64N x.id))) (by decide)))⟩)) (fun hm => PQ.of (by rw [hm]; rfl) (putV_below _ _ _))⟩
theorem putRegsH (x : ORegs) (hf : fitRegs x) (hw : wfRegs x) (B : Base) (H : Heap) : CallH Tryz.prog 100 B 21 [vRegs x] H (.returned (putV (mayRegs x) (attsRegs x))) H :=
  pu_mk okp (knP sum0 (pu1 (pu_b mayRegsH))) lp_none rfl (putV_below _ _ _) (putRegsC x hf hw) B H
end
end Go.Proofs.YtblbaohcelldpaaGreat.Ob
/- The reference's bytes: what the code asks. -/
namespace Go.Proofs.YtblbaohcelldpaaGreat.Ob
open Go Go.Abs Go.Tlv
set_option linter.unusedVariables false
noncomputable section
structure Mr where
  tx : List Value → Int → ByteArray → (List Value → Prop) → Prop
  nu : List Value → Int → Int → (List Value → Prop) → Prop
  en : List Value → (ByteArray → Int → Prop) → Prop
  nb : Int → (ByteArray → Prop) → Prop
  tw : Int → (ByteArray → Prop) → Prop
def rsOf (v : Value) (K : List Value → Prop) : Prop := match v with
  | .slice none 0 0 => K []
  | .iface t (.agg ⟨rs⟩) => match Nat.beq t mkD with
    | true => K rs
    | false => False
  | _ => False
def sRText (M : Mr) : List Value → (Value → Prop) → Prop
  | [v, .int .u8 kind, .string s], K => rsOf v fun rs => M.tx rs kind s fun r => K (dsl r)
  | _, _ => False
def sRNumT (M : Mr) : List Value → (Value → Prop) → Prop
  | [v, .int .u8 kind, .int .u64 n], K => rsOf v fun rs => M.nu rs kind n fun r => K (dsl r)
  | _, _ => False
def sREnc (M : Mr) : List Value → (Value → Prop) → Prop
  | [v], K => rsOf v fun rs => M.en rs fun s e => K (.tuple ⟨[.string s, .int .i64 e]⟩)
  | _, _ => False
def sRNb (M : Mr) : List Value → (Value → Prop) → Prop
  | [.int .u64 n], K => M.nb n fun s => K (.string s)
  | _, _ => False
def sTwo (M : Mr) : List Value → (Value → Prop) → Prop
  | [.int .i64 n], K => M.tw n fun s => K (.string s)
  | _, _ => False
def gTwo (N : Nd) (n : Int) (K : RK) : Prop := wpe Tryz.prog N (howOf S0 Sp0 [] [] [] []) 300 (.call 137 [.int .i64 n] h0) (retQ 100 K)
def gRT (N : Nd) (rs : List Value) (kind : Int) (s : ByteArray) (K : RK) : Prop := wpe Tryz.prog N (howOf sy1 Sp0 [] [] [] []) 300 (.call 106 [dsl rs, .int .u8 kind, .string s] h0) (retQ 100 K)
def gRN (N : Nd) (M : Mr) (rs : List Value) (kind : Int) (n : Int) (K : RK) : Prop := wpe Tryz.prog N (howOf S0 Sp0 [] [] [(105, sRNb M), (106, sRText M)] []) 300 (.call 101 [dsl rs, .int .u8 kind, .int .u64 n] h0) (retQ 100 K)
set_option maxRecDepth 100000
theorem gTwo_eq (N : Nd) (n : Int) (K : RK) : gTwo N n K =
 (N.ari .quo .i64 n .i64 (256 : Int) (fun z0 =>
 N.conv 3 5 .i64 z0 .u8 (fun z1 =>
 N.ari .rem .i64 n .i64 (256 : Int) (fun z2 =>
 N.conv 3 5 .i64 z2 .u8 (fun z3 =>
 N.str [z1, z3] (fun s4 =>
 K (.string s4) [(some (AObj.cells [(.int .u8 z1), (.int .u8 z3)] 5 1 false true))])))))) := by kernel_rfl
theorem gRT_eq (N : Nd) (rs : List Value) (kind : Int) (s : ByteArray) (K : RK) : gRT N rs kind s K =
 (N.scmp .eql s (bytesOf []) (K (dsl rs) []) (N.appD 0 [] rs 2 24 (N.appX 0 [] 1 [(.int .u8 kind), (.string s)] 2 24 (fun l0 o1 =>
 K (.slice (some ⟨102, 0, none⟩) o1 o1) [(some (AObj.cells [] 183 2 false true)), (some (AObj.cells [(.int .u8 kind), (.string s)] 183 2 false true)), (some (AObj.cells l0 183 2 true true))])) (fun l0 o1 =>
 N.base false o1 o1 (some (AObj.cells l0 183 2 true true)) 183 2 (fun l2 =>
 N.appX o1 l2 1 [(.int .u8 kind), (.string s)] 2 24 (fun l3 o4 =>
 K (.slice (some ⟨103, 0, none⟩) o4 o4) [(some (AObj.cells [] 183 2 false true)), none, (some (AObj.cells [(.int .u8 kind), (.string s)] 183 2 false true)), (some (AObj.cells l3 183 2 true true))]))))) := by kernel_rfl
theorem gRN_eq (N : Nd) (M : Mr) (rs : List Value) (kind : Int) (n : Int) (K : RK) : gRN N M rs kind n K =
 (M.nb n (fun s0 =>
 M.tx rs kind s0 (fun l1 =>
 K (dsl l1) []))) := by kernel_rfl
abbrev LSt := Code → Nat → List Value → List (Option AObj) → (ByteArray → Prop) → (Int → Prop) → Prop
def sLoopS (L : LSt) : LpS := lpS [2, 3, 4] fun c n vals obs K => L c n vals obs (fun s => K (.exit 0) [top, top, .string s] []) (fun e => K .ret [.string (bytesOf []), .int .i64 e, top] [])
def gREnc (N : Nd) (L : LSt) (rs : List Value) (K : RK) : Prop := wpe Tryz.prog N (howOf S0 Sp0 [] [(3, (75, ([0, 4, 5], sLoopS L)))] [] []) 300 (.call 130 [dsl rs] h0) (retQ 100 K)
def gREncR (N : Nd) (M : Mr) (rs : List Value) (s : ByteArray) (i : Int) (back : Bk) (out : Ot) : Prop :=
  wpe Tryz.prog N (howOf S0 Sp0 [] [] [(137, sTwo M)] []) 300 (.code false (loopIn Tryz.prog 130 3) (stOf 100 75 [0, 4, 5] [] ([dsl rs, .string s, .int .i64 i], []))) (roundQ 100 [0, 4, 5] [2, 3, 4] 75 [] back out)
set_option maxRecDepth 100000
theorem gREnc_eq (N : Nd) (L : LSt) (rs : List Value) (K : RK) : gREnc N L rs K =
 (L (loopIn Tryz.prog 130 3) 75 [(dsl rs), (.string (bytesOf [])), (.int .i64 (0 : Int))] [] (fun s0 =>
 K (.tuple (Array.mk [(.string s0), (.int .i64 (0 : Int))])) []) (fun z0 =>
 K (.tuple (Array.mk [(.string (bytesOf [])), (.int .i64 z0)])) [])) := by kernel_rfl
theorem gREncR_eq (N : Nd) (M : Mr) (rs : List Value) (s : ByteArray) (i : Int) (back : Bk) (out : Ot) : gREncR N M rs s i back out =
 (N.dlen rs (fun o0 =>
 N.cmp .lss .i64 i .i64 (Int.ofNat o0) (N.dget rs i 2 (fun l1 =>
 N.rdI .u8 l1 0 (fun z2 =>
 N.rdS l1 1 (fun s3 =>
 N.cmp .eql .u8 z2 .u8 (0 : Int) (nD ∧
 (out Exit.ret [(.string (bytesOf [])), (.int .i64 (3 : Int)), (.string s)] [])) (N.cmp .gtr .i64 i .i64 (0 : Int) (N.dget rs i 2 (fun l4 =>
 N.rdI .u8 l4 0 (fun z5 =>
 N.rdS l4 1 (fun s6 =>
 N.ari .sub .i64 i .i64 (1 : Int) (fun z7 =>
 N.dget rs z7 2 (fun l8 =>
 N.rdI .u8 l8 0 (fun z9 =>
 N.rdS l8 1 (fun s10 =>
 N.cmp .leq .u8 z5 .u8 z9 (nD ∧
 (out Exit.ret [(.string (bytesOf [])), (.int .i64 (3 : Int)), (.string s)] [])) (N.dget rs i 2 (fun l11 =>
 N.rdI .u8 l11 0 (fun z12 =>
 N.rdS l11 1 (fun s13 =>
 N.scmp .eql s13 (bytesOf []) (nD ∧
 (out Exit.ret [(.string (bytesOf [])), (.int .i64 (3 : Int)), (.string s)] [])) (N.dget rs i 2 (fun l14 =>
 N.rdI .u8 l14 0 (fun z15 =>
 N.rdS l14 1 (fun s16 =>
 N.slen s16 (fun z17 =>
 N.cmp .gtr .i64 z17 .i64 (65535 : Int) (nD ∧
 (out Exit.ret [(.string (bytesOf [])), (.int .i64 (5 : Int)), (.string s)] [])) (N.dget rs i 2 (fun l18 =>
 N.rdI .u8 l18 0 (fun z19 =>
 N.rdS l18 1 (fun s20 =>
 N.str [z19] (fun s21 =>
 N.cat s s21 (fun s22 =>
 N.dget rs i 2 (fun l23 =>
 N.rdI .u8 l23 0 (fun z24 =>
 N.rdS l23 1 (fun s25 =>
 N.slen s25 (fun z26 =>
 M.tw z26 (fun s27 =>
 N.cat s22 s27 (fun s28 =>
 N.dget rs i 2 (fun l29 =>
 N.rdI .u8 l29 0 (fun z30 =>
 N.rdS l29 1 (fun s31 =>
 N.cat s28 s31 (fun s32 =>
 N.ari .add .i64 i .i64 (1 : Int) (fun z33 =>
 nD ∧
 (back [(dsl rs), (.string s32), (.int .i64 z33)] [(some (AObj.cells [(.int .u8 z19)] 5 1 false true))]))))))))))))))))))))))))))))))))))) (N.dget rs i 2 (fun l4 =>
 N.rdI .u8 l4 0 (fun z5 =>
 N.rdS l4 1 (fun s6 =>
 N.scmp .eql s6 (bytesOf []) (nD ∧
 (out Exit.ret [(.string (bytesOf [])), (.int .i64 (3 : Int)), (.string s)] [])) (N.dget rs i 2 (fun l7 =>
 N.rdI .u8 l7 0 (fun z8 =>
 N.rdS l7 1 (fun s9 =>
 N.slen s9 (fun z10 =>
 N.cmp .gtr .i64 z10 .i64 (65535 : Int) (nD ∧
 (out Exit.ret [(.string (bytesOf [])), (.int .i64 (5 : Int)), (.string s)] [])) (N.dget rs i 2 (fun l11 =>
 N.rdI .u8 l11 0 (fun z12 =>
 N.rdS l11 1 (fun s13 =>
 N.str [z12] (fun s14 =>
 N.cat s s14 (fun s15 =>
 N.dget rs i 2 (fun l16 =>
 N.rdI .u8 l16 0 (fun z17 =>
 N.rdS l16 1 (fun s18 =>
 N.slen s18 (fun z19 =>
 M.tw z19 (fun s20 =>
 N.cat s15 s20 (fun s21 =>
 N.dget rs i 2 (fun l22 =>
 N.rdI .u8 l22 0 (fun z23 =>
 N.rdS l22 1 (fun s24 =>
 N.cat s21 s24 (fun s25 =>
 N.ari .add .i64 i .i64 (1 : Int) (fun z26 =>
 nD ∧
 (back [(dsl rs), (.string s25), (.int .i64 z26)] [(some (AObj.cells [(.int .u8 z12)] 5 1 false true))])))))))))))))))))))))))))))))))) (nD ∧
 (out (Exit.exit 0) [(.chan (some 0)), (.chan (some 0)), (.string s)] [])))) := by kernel_rfl
def gRLs (N : Nd) (L : LSt) (rs : List Value) (K : RK) : Prop := wpe Tryz.prog N (howOf S0 Sp0 [] [(3, (32, ([0, 4, 5], sLoopS L)))] [] []) 300 (.call 129 [dsl rs] h0) (retQ 100 K)
def gRLsR (N : Nd) (M : Mr) (rs : List Value) (s : ByteArray) (i : Int) (back : Bk) (out : Ot) : Prop :=
  wpe Tryz.prog N (howOf S0 Sp0 [] [] [(137, sTwo M)] []) 300 (.code false (loopIn Tryz.prog 129 3) (stOf 100 32 [0, 4, 5] [] ([dsl rs, .string s, .int .i64 i], []))) (roundQ 100 [0, 4, 5] [2, 3, 4] 32 [] back out)
set_option maxRecDepth 100000
theorem gRLs_eq (N : Nd) (L : LSt) (rs : List Value) (K : RK) : gRLs N L rs K =
 (L (loopIn Tryz.prog 129 3) 32 [(dsl rs), (.string (bytesOf [])), (.int .i64 (0 : Int))] [] (fun s0 =>
 K (.tuple (Array.mk [(.string s0), (.int .i64 (0 : Int))])) []) (fun z0 =>
 K (.tuple (Array.mk [(.string (bytesOf [])), (.int .i64 z0)])) [])) := by kernel_rfl
theorem gRLsR_eq (N : Nd) (M : Mr) (rs : List Value) (s : ByteArray) (i : Int) (back : Bk) (out : Ot) : gRLsR N M rs s i back out =
 (N.dlen rs (fun o0 =>
 N.cmp .lss .i64 i .i64 (Int.ofNat o0) (N.dget rs i 1 (fun l1 =>
 N.rdS l1 0 (fun s2 =>
 N.slen s2 (fun z3 =>
 N.cmp .gtr .i64 z3 .i64 (65535 : Int) (nD ∧
 (out Exit.ret [(.string (bytesOf [])), (.int .i64 (5 : Int)), (.string s)] [])) (N.dget rs i 1 (fun l4 =>
 N.rdS l4 0 (fun s5 =>
 N.slen s5 (fun z6 =>
 M.tw z6 (fun s7 =>
 N.cat s s7 (fun s8 =>
 N.dget rs i 1 (fun l9 =>
 N.rdS l9 0 (fun s10 =>
 N.cat s8 s10 (fun s11 =>
 N.ari .add .i64 i .i64 (1 : Int) (fun z12 =>
 nD ∧
 (back [(dsl rs), (.string s11), (.int .i64 z12)] []))))))))))))))) (nD ∧
 (out (Exit.exit 0) [(.chan (some 0)), (.chan (some 0)), (.string s)] [])))) := by kernel_rfl
def WRb (M : Mr) : How := howOf S0 Sp0 [] [] [(101, sRNumT M), (130, sREnc M)] []
def gRPutArm (N : Nd) (M : Mr) (v nx : Int) (K : RK) : Prop := wpe Tryz.prog N (WRb M) 300 (.call 102 [.agg ⟨[.int .u32 v, .int .i64 nx]⟩] h0) (retQ 100 K)
def gRPutInstr (N : Nd) (M : Mr) (op to ak an bk bn n : Int) (K : RK) : Prop := wpe Tryz.prog N (WRb M) 300 (.call 107 [.agg ⟨[.int .u8 op, .int .i64 to, .int .u8 ak, .int .u64 an, .int .u8 bk, .int .u64 bn, .int .i64 n]⟩] h0) (retQ 100 K)
def gRPutBucket (N : Nd) (M : Mr) (w b : Int) (K : RK) : Prop := wpe Tryz.prog N (WRb M) 300 (.call 108 [.agg ⟨[.int .u64 w, .int .i64 b]⟩] h0) (retQ 100 K)
set_option maxRecDepth 100000
theorem gRPutArm_eq (N : Nd) (M : Mr) (v : Int) (nx : Int) (K : RK) : gRPutArm N M v nx K =
 (N.conv 22 23 .u32 v .u64 (fun z0 =>
 M.nu [] (1 : Int) z0 (fun l1 =>
 N.conv 3 23 .i64 nx .u64 (fun z2 =>
 M.nu l1 (2 : Int) z2 (fun l3 =>
 M.en l3 (fun s4 z5 =>
 K (.string s4) [(some (AObj.cells [(.int .u32 v), (.int .i64 nx)] 69 2 false true))])))))) := by kernel_rfl
theorem gRPutInstr_eq (N : Nd) (M : Mr) (op : Int) (to : Int) (ak : Int) (an : Int) (bk : Int) (bn : Int) (n : Int) (K : RK) : gRPutInstr N M op to ak an bk bn n K =
 (N.conv 5 23 .u8 op .u64 (fun z0 =>
 M.nu [] (1 : Int) z0 (fun l1 =>
 N.conv 3 23 .i64 to .u64 (fun z2 =>
 M.nu l1 (2 : Int) z2 (fun l3 =>
 N.conv 5 23 .u8 ak .u64 (fun z4 =>
 M.nu l3 (3 : Int) z4 (fun l5 =>
 M.nu l5 (4 : Int) an (fun l6 =>
 N.conv 5 23 .u8 bk .u64 (fun z7 =>
 M.nu l6 (5 : Int) z7 (fun l8 =>
 M.nu l8 (6 : Int) bn (fun l9 =>
 N.conv 3 23 .i64 n .u64 (fun z10 =>
 M.nu l9 (7 : Int) z10 (fun l11 =>
 M.en l11 (fun s12 z13 =>
 K (.string s12) [(some (AObj.cells [(.int .u8 op), (.int .i64 to), (.int .u8 ak), (.int .u64 an), (.int .u8 bk), (.int .u64 bn), (.int .i64 n)] 80 7 false true))])))))))))))))) := by kernel_rfl
theorem gRPutBucket_eq (N : Nd) (M : Mr) (w : Int) (b : Int) (K : RK) : gRPutBucket N M w b K =
 (M.nu [] (1 : Int) w (fun l0 =>
 N.conv 3 23 .i64 b .u64 (fun z1 =>
 M.nu l0 (2 : Int) z1 (fun l2 =>
 M.en l2 (fun s3 z4 =>
 K (.string s3) [(some (AObj.cells [(.int .u64 w), (.int .i64 b)] 106 2 false true))]))))) := by kernel_rfl
end
end Go.Proofs.YtblbaohcelldpaaGreat.Ob
