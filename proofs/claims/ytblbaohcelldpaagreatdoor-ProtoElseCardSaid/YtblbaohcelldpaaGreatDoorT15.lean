/- Objects as bytes: what the code comes to. -/
import Derived.Test.YtblbaohcelldpaaGreatDoorT14
import Derived.Test.YtblbaohcelldpaaGreatDoorS6
import Derived.Test.YtblbaohcelldpaaGreatDoorS4
set_option linter.all false
namespace Go.Proofs.YtblbaohcelldpaaGreatDoor.Ob
open Go Go.Abs Go.Tlv
set_option maxRecDepth 100000
noncomputable section
def MBr{α:Type}(v:α->Value)(fit:α->Prop)(may:α->Bool):MBt:=fun a K=>∃x:α,a=v x/\fit x/\K (may x)
theorem pu_b{α:Type}{v:α->Value}{fit:α->Prop}{may:α->Bool}{f:FuncId}(h:∀x,fit x->∀B H,CallH Tryz.prog 100 B f [v x] H (.returned (.bool (may x))) H):PuOk Tryz.prog 100 f (sB (MBr v fit may)):=by
 intro args K hs
 unfold sB at hs
 split at hs<;>try exact hs.elim
 obtain⟨x,rfl,hf,hK⟩:=hs
 exact⟨_,h x hf,hK⟩
theorem knP{l:KnL}{pu:PuL}(h:∀x∈l,SumOk Tryz.prog 100 x.1 x.2)(h':∀x∈pu,PuOk Tryz.prog 100 x.1 x.2):KnOk Tryz.prog 100 (howOf S0 Sp0 ((154,sNumW MR)::(178,sText MR)::(157,sBytes MR)::l) [] pu []):=kn_ok (fun x hx=>by
 simp only[List.mem_cons]at hx
 rcases hx with rfl|rfl|rfl|hx
 ·exact numOk
 ·exact textOk
 ·exact bytesOk
 ·exact h x hx) h'
theorem putV_below(n:Nat)(m:Bool)(l:List At):below n (putV m l)=true:=by cases m<;>rfl
theorem sum1{g:FuncId}{S:List Value->Heap->VK->Prop}(h:SumOk Tryz.prog 100 g S):∀x∈[(g,S)],SumOk Tryz.prog 100 x.1 x.2:=fun x hx=>by simp only[List.mem_singleton]at hx;subst hx;exact h
theorem sum0:∀x∈([]:KnL),SumOk Tryz.prog 100 x.1 x.2:=fun x hx=>by cases hx
theorem putNodeC(x:ONode)(hf:fitNode x)(hw:wfNode x)(hl:mayNode x=true->x.arms.length<1000):Is (gPutNode (real Tryz.prog) MR (MBr vNode fitNode mayNode) (MLr cArm wfArm oneArm) x.id x.size x.lo x.lw x.lu x.so x.sw (rowsOf cArm x.arms) x.ot (PQ (putV (mayNode x) (attsNode x)))):=by
 refine⟨?_⟩
 rw[gPutNode_eq]
 exact⟨x,rfl,hf,branch_mk (fun hm=>n_cv t3 (⟨rfl,n0_mk 1 (u64N x.id) (by decide) (u64N_lt _) (fun h0=>n_cv t3 (⟨rfl,n0_mk 2 (u64N x.size) (by decide) (u64N_lt _) (fun h1=>n_cv t3 (⟨rfl,n0_mk 3 (u64N x.lo) (by decide) (u64N_lt _) (fun h2=>n_cv t3 (⟨rfl,n0_mk 4 (u64N x.lw) (by decide) (u64N_lt _) (fun h3=>n_cv t3 (⟨rfl,n0_mk 5 (u64N x.lu) (by decide) (u64N_lt _) (fun h4=>n_cv t3 (⟨rfl,n0_mk 6 (u64N x.so) (by decide) (u64N_lt _) (fun h5=>n_cv t3 (⟨rfl,n0_mk 7 (u64N x.sw) (by decide) (u64N_lt _) (fun h6=>n_cv t3 (⟨rfl,n0_mk 8 (u64N x.ot) (by decide) (u64N_lt _) (fun h7=>ml_mk (hl hm) (fun _ _=>trivial) (⟨rfl,t0_mk 9 (by decide) (fun h8=>⟨rfl,(PQ.of (by rw[hm];unfold putV attsNode;rw[addN_e h0,addN_e h1,addN_e h2,addN_e h3,addN_e h4,addN_e h5,addN_e h6,addN_e h7,addT_e h8]<;>rfl) (putV_below _ _ _))⟩) (fun h8=>(fun hI=>⟨rfl,bt_mk hI (by decide) ((PQ.of (by rw[hm];unfold putV attsNode;rw[addN_e h0,addN_e h1,addN_e h2,addN_e h3,addN_e h4,addN_e h5,addN_e h6,addN_e h7,addT_f h8]<;>rfl) (putV_below _ _ _)))⟩) (isAb_one 9 (bytesOf (listS (x.arms.map oneArm))) (by decide)))⟩)) (fun h7=>(fun hI=>ml_mk (hl hm) (fun _ _=>trivial) (⟨rfl,t1_mk 9 hI (by decide) (by decide) (fun hI=>⟨rfl,bt_mk hI (by decide) ((PQ.of (by rw[hm];unfold putV attsNode;rw[addN_e h0,addN_e h1,addN_e h2,addN_e h3,addN_e h4,addN_e h5,addN_e h6,addN_f h7]<;>rfl) (putV_below _ _ _)))⟩)⟩)) (isAb_one 8 (bytesOf (numB (u64N x.ot))) (by decide)))⟩)) (fun h6=>(fun hI=>n_cv t3 (⟨rfl,n1_mk 8 (u64N x.ot) hI (by decide) (by decide) (u64N_lt _) (fun hI=>ml_mk (hl hm) (fun _ _=>trivial) (⟨rfl,t1_mk 9 hI (by decide) (by decide) (fun hI=>⟨rfl,bt_mk hI (by decide) ((PQ.of (by rw[hm];unfold putV attsNode;rw[addN_e h0,addN_e h1,addN_e h2,addN_e h3,addN_e h4,addN_e h5,addN_f h6]<;>rfl) (putV_below _ _ _)))⟩)⟩))⟩)) (isAb_one 7 (bytesOf (numB (u64N x.sw))) (by decide)))⟩)) (fun h5=>(fun hI=>n_cv t3 (⟨rfl,n1_mk 7 (u64N x.sw) hI (by decide) (by decide) (u64N_lt _) (fun hI=>n_cv t3 (⟨rfl,n1_mk 8 (u64N x.ot) hI (by decide) (by decide) (u64N_lt _) (fun hI=>ml_mk (hl hm) (fun _ _=>trivial) (⟨rfl,t1_mk 9 hI (by decide) (by decide) (fun hI=>⟨rfl,bt_mk hI (by decide) ((PQ.of (by rw[hm];unfold putV attsNode;rw[addN_e h0,addN_e h1,addN_e h2,addN_e h3,addN_e h4,addN_f h5]<;>rfl) (putV_below _ _ _)))⟩)⟩))⟩))⟩)) (isAb_one 6 (bytesOf (numB (u64N x.so))) (by decide)))⟩)) (fun h4=>(fun hI=>n_cv t3 (⟨rfl,n1_mk 6 (u64N x.so) hI (by decide) (by decide) (u64N_lt _) (fun hI=>n_cv t3 (⟨rfl,n1_mk 7 (u64N x.sw) hI (by decide) (by decide) (u64N_lt _) (fun hI=>n_cv t3 (⟨rfl,n1_mk 8 (u64N x.ot) hI (by decide) (by decide) (u64N_lt _) (fun hI=>ml_mk (hl hm) (fun _ _=>trivial) (⟨rfl,t1_mk 9 hI (by decide) (by decide) (fun hI=>⟨rfl,bt_mk hI (by decide) ((PQ.of (by rw[hm];unfold putV attsNode;rw[addN_e h0,addN_e h1,addN_e h2,addN_e h3,addN_f h4]<;>rfl) (putV_below _ _ _)))⟩)⟩))⟩))⟩))⟩)) (isAb_one 5 (bytesOf (numB (u64N x.lu))) (by decide)))⟩)) (fun h3=>(fun hI=>n_cv t3 (⟨rfl,n1_mk 5 (u64N x.lu) hI (by decide) (by decide) (u64N_lt _) (fun hI=>n_cv t3 (⟨rfl,n1_mk 6 (u64N x.so) hI (by decide) (by decide) (u64N_lt _) (fun hI=>n_cv t3 (⟨rfl,n1_mk 7 (u64N x.sw) hI (by decide) (by decide) (u64N_lt _) (fun hI=>n_cv t3 (⟨rfl,n1_mk 8 (u64N x.ot) hI (by decide) (by decide) (u64N_lt _) (fun hI=>ml_mk (hl hm) (fun _ _=>trivial) (⟨rfl,t1_mk 9 hI (by decide) (by decide) (fun hI=>⟨rfl,bt_mk hI (by decide) ((PQ.of (by rw[hm];unfold putV attsNode;rw[addN_e h0,addN_e h1,addN_e h2,addN_f h3]<;>rfl) (putV_below _ _ _)))⟩)⟩))⟩))⟩))⟩))⟩)) (isAb_one 4 (bytesOf (numB (u64N x.lw))) (by decide)))⟩)) (fun h2=>(fun hI=>n_cv t3 (⟨rfl,n1_mk 4 (u64N x.lw) hI (by decide) (by decide) (u64N_lt _) (fun hI=>n_cv t3 (⟨rfl,n1_mk 5 (u64N x.lu) hI (by decide) (by decide) (u64N_lt _) (fun hI=>n_cv t3 (⟨rfl,n1_mk 6 (u64N x.so) hI (by decide) (by decide) (u64N_lt _) (fun hI=>n_cv t3 (⟨rfl,n1_mk 7 (u64N x.sw) hI (by decide) (by decide) (u64N_lt _) (fun hI=>n_cv t3 (⟨rfl,n1_mk 8 (u64N x.ot) hI (by decide) (by decide) (u64N_lt _) (fun hI=>ml_mk (hl hm) (fun _ _=>trivial) (⟨rfl,t1_mk 9 hI (by decide) (by decide) (fun hI=>⟨rfl,bt_mk hI (by decide) ((PQ.of (by rw[hm];unfold putV attsNode;rw[addN_e h0,addN_e h1,addN_f h2]<;>rfl) (putV_below _ _ _)))⟩)⟩))⟩))⟩))⟩))⟩))⟩)) (isAb_one 3 (bytesOf (numB (u64N x.lo))) (by decide)))⟩)) (fun h1=>(fun hI=>n_cv t3 (⟨rfl,n1_mk 3 (u64N x.lo) hI (by decide) (by decide) (u64N_lt _) (fun hI=>n_cv t3 (⟨rfl,n1_mk 4 (u64N x.lw) hI (by decide) (by decide) (u64N_lt _) (fun hI=>n_cv t3 (⟨rfl,n1_mk 5 (u64N x.lu) hI (by decide) (by decide) (u64N_lt _) (fun hI=>n_cv t3 (⟨rfl,n1_mk 6 (u64N x.so) hI (by decide) (by decide) (u64N_lt _) (fun hI=>n_cv t3 (⟨rfl,n1_mk 7 (u64N x.sw) hI (by decide) (by decide) (u64N_lt _) (fun hI=>n_cv t3 (⟨rfl,n1_mk 8 (u64N x.ot) hI (by decide) (by decide) (u64N_lt _) (fun hI=>ml_mk (hl hm) (fun _ _=>trivial) (⟨rfl,t1_mk 9 hI (by decide) (by decide) (fun hI=>⟨rfl,bt_mk hI (by decide) ((PQ.of (by rw[hm];unfold putV attsNode;rw[addN_e h0,addN_f h1]<;>rfl) (putV_below _ _ _)))⟩)⟩))⟩))⟩))⟩))⟩))⟩))⟩)) (isAb_one 2 (bytesOf (numB (u64N x.size))) (by decide)))⟩)) (fun h0=>(fun hI=>n_cv t3 (⟨rfl,n1_mk 2 (u64N x.size) hI (by decide) (by decide) (u64N_lt _) (fun hI=>n_cv t3 (⟨rfl,n1_mk 3 (u64N x.lo) hI (by decide) (by decide) (u64N_lt _) (fun hI=>n_cv t3 (⟨rfl,n1_mk 4 (u64N x.lw) hI (by decide) (by decide) (u64N_lt _) (fun hI=>n_cv t3 (⟨rfl,n1_mk 5 (u64N x.lu) hI (by decide) (by decide) (u64N_lt _) (fun hI=>n_cv t3 (⟨rfl,n1_mk 6 (u64N x.so) hI (by decide) (by decide) (u64N_lt _) (fun hI=>n_cv t3 (⟨rfl,n1_mk 7 (u64N x.sw) hI (by decide) (by decide) (u64N_lt _) (fun hI=>n_cv t3 (⟨rfl,n1_mk 8 (u64N x.ot) hI (by decide) (by decide) (u64N_lt _) (fun hI=>ml_mk (hl hm) (fun _ _=>trivial) (⟨rfl,t1_mk 9 hI (by decide) (by decide) (fun hI=>⟨rfl,bt_mk hI (by decide) ((PQ.of (by rw[hm];unfold putV attsNode;rw[addN_f h0]<;>rfl) (putV_below _ _ _)))⟩)⟩))⟩))⟩))⟩))⟩))⟩))⟩))⟩)) (isAb_one 1 (bytesOf (numB (u64N x.id))) (by decide)))⟩)) (fun hm=>PQ.of (by rw[hm];rfl) (putV_below _ _ _))⟩
theorem putNodeH(x:ONode)(hf:fitNode x)(hw:wfNode x)(B:Base)(H:Heap):CallH Tryz.prog 100 B 87 [vNode x] H (.returned (putV (mayNode x) (attsNode x))) H:=
 pu_mk okp (knP (sum1 ok91) (pu1 (pu_b mayNodeH))) lp_none rfl (putV_below _ _ _) (putNodeC x hf hw (fun hm=>by have:=(mayNode_iff.1 hm).2.1;omega)) B H
theorem putFieldC(x:OField)(hf:fitField x)(hw:wfField x):Is (gPutField (real Tryz.prog) MR (MBr vField fitField mayField) (MLr cInt wfInt oneInt) x.id (x.base:Int) x.node x.off x.wid (PQ (putV (mayField x) (attsField x)))):=by
 refine⟨?_⟩
 rw[gPutField_eq]
 exact⟨x,rfl,hf,branch_mk (fun hm=>n_cv t3 (⟨rfl,n0_mk 1 (u64N x.id) (by decide) (u64N_lt _) (fun h0=>n_cv t5 (⟨rfl,n0_mk 2 (u64N x.base) (by decide) (u64N_lt _) (fun h1=>n_cv t3 (⟨rfl,n0_mk 3 (u64N x.node) (by decide) (u64N_lt _) (fun h2=>n_cv t3 (⟨rfl,n0_mk 4 (u64N x.off) (by decide) (u64N_lt _) (fun h3=>n_cv t3 (⟨rfl,n0_mk 5 (u64N x.wid) (by decide) (u64N_lt _) (fun h4=>⟨rfl,(PQ.of (by rw[hm];unfold putV attsField;rw[addN_e h0,addN_e h1,addN_e h2,addN_e h3,addN_e h4]<;>rfl) (putV_below _ _ _))⟩) (fun h4=>(fun hI=>⟨rfl,bt_mk hI (by decide) ((PQ.of (by rw[hm];unfold putV attsField;rw[addN_e h0,addN_e h1,addN_e h2,addN_e h3,addN_f h4]<;>rfl) (putV_below _ _ _)))⟩) (isAb_one 5 (bytesOf (numB (u64N x.wid))) (by decide)))⟩)) (fun h3=>(fun hI=>n_cv t3 (⟨rfl,n1_mk 5 (u64N x.wid) hI (by decide) (by decide) (u64N_lt _) (fun hI=>⟨rfl,bt_mk hI (by decide) ((PQ.of (by rw[hm];unfold putV attsField;rw[addN_e h0,addN_e h1,addN_e h2,addN_f h3]<;>rfl) (putV_below _ _ _)))⟩)⟩)) (isAb_one 4 (bytesOf (numB (u64N x.off))) (by decide)))⟩)) (fun h2=>(fun hI=>n_cv t3 (⟨rfl,n1_mk 4 (u64N x.off) hI (by decide) (by decide) (u64N_lt _) (fun hI=>n_cv t3 (⟨rfl,n1_mk 5 (u64N x.wid) hI (by decide) (by decide) (u64N_lt _) (fun hI=>⟨rfl,bt_mk hI (by decide) ((PQ.of (by rw[hm];unfold putV attsField;rw[addN_e h0,addN_e h1,addN_f h2]<;>rfl) (putV_below _ _ _)))⟩)⟩))⟩)) (isAb_one 3 (bytesOf (numB (u64N x.node))) (by decide)))⟩)) (fun h1=>(fun hI=>n_cv t3 (⟨rfl,n1_mk 3 (u64N x.node) hI (by decide) (by decide) (u64N_lt _) (fun hI=>n_cv t3 (⟨rfl,n1_mk 4 (u64N x.off) hI (by decide) (by decide) (u64N_lt _) (fun hI=>n_cv t3 (⟨rfl,n1_mk 5 (u64N x.wid) hI (by decide) (by decide) (u64N_lt _) (fun hI=>⟨rfl,bt_mk hI (by decide) ((PQ.of (by rw[hm];unfold putV attsField;rw[addN_e h0,addN_f h1]<;>rfl) (putV_below _ _ _)))⟩)⟩))⟩))⟩)) (isAb_one 2 (bytesOf (numB (u64N x.base))) (by decide)))⟩)) (fun h0=>(fun hI=>n_cv t5 (⟨rfl,n1_mk 2 (u64N x.base) hI (by decide) (by decide) (u64N_lt _) (fun hI=>n_cv t3 (⟨rfl,n1_mk 3 (u64N x.node) hI (by decide) (by decide) (u64N_lt _) (fun hI=>n_cv t3 (⟨rfl,n1_mk 4 (u64N x.off) hI (by decide) (by decide) (u64N_lt _) (fun hI=>n_cv t3 (⟨rfl,n1_mk 5 (u64N x.wid) hI (by decide) (by decide) (u64N_lt _) (fun hI=>⟨rfl,bt_mk hI (by decide) ((PQ.of (by rw[hm];unfold putV attsField;rw[addN_f h0]<;>rfl) (putV_below _ _ _)))⟩)⟩))⟩))⟩))⟩)) (isAb_one 1 (bytesOf (numB (u64N x.id))) (by decide)))⟩)) (fun hm=>PQ.of (by rw[hm];rfl) (putV_below _ _ _))⟩
theorem putFieldH(x:OField)(hf:fitField x)(hw:wfField x)(B:Base)(H:Heap):CallH Tryz.prog 100 B 91 [vField x] H (.returned (putV (mayField x) (attsField x))) H:=
 pu_mk okp (knP sum0 (pu1 (pu_b mayFieldH))) lp_none rfl (putV_below _ _ _) (putFieldC x hf hw) B H
theorem putTableC(x:OTable)(hf:fitTable x)(hw:wfTable x)(hl:mayTable x=true->x.keys.length<1000):Is (gPutTable (real Tryz.prog) MR (MBr vTable fitTable mayTable) (MLr cInt wfInt oneInt) x.id (x.kind:Int) (rowsOf cInt x.keys) x.cap x.miss (PQ (putV (mayTable x) (attsTable x)))):=by
 refine⟨?_⟩
 rw[gPutTable_eq]
 exact⟨x,rfl,hf,branch_mk (fun hm=>n_cv t3 (⟨rfl,n0_mk 1 (u64N x.id) (by decide) (u64N_lt _) (fun h0=>n_cv t5 (⟨rfl,n0_mk 2 (u64N x.kind) (by decide) (u64N_lt _) (fun h1=>ml_mk (hl hm) (fun _ _=>trivial) (⟨rfl,t0_mk 3 (by decide) (fun h2=>n_cv t3 (⟨rfl,n0_mk 4 (u64N x.cap) (by decide) (u64N_lt _) (fun h3=>n_cv t3 (⟨rfl,n0_mk 5 (u64N x.miss) (by decide) (u64N_lt _) (fun h4=>⟨rfl,(PQ.of (by rw[hm];unfold putV attsTable;rw[addN_e h0,addN_e h1,addT_e h2,addN_e h3,addN_e h4]<;>rfl) (putV_below _ _ _))⟩) (fun h4=>(fun hI=>⟨rfl,bt_mk hI (by decide) ((PQ.of (by rw[hm];unfold putV attsTable;rw[addN_e h0,addN_e h1,addT_e h2,addN_e h3,addN_f h4]<;>rfl) (putV_below _ _ _)))⟩) (isAb_one 5 (bytesOf (numB (u64N x.miss))) (by decide)))⟩)) (fun h3=>(fun hI=>n_cv t3 (⟨rfl,n1_mk 5 (u64N x.miss) hI (by decide) (by decide) (u64N_lt _) (fun hI=>⟨rfl,bt_mk hI (by decide) ((PQ.of (by rw[hm];unfold putV attsTable;rw[addN_e h0,addN_e h1,addT_e h2,addN_f h3]<;>rfl) (putV_below _ _ _)))⟩)⟩)) (isAb_one 4 (bytesOf (numB (u64N x.cap))) (by decide)))⟩)) (fun h2=>(fun hI=>n_cv t3 (⟨rfl,n1_mk 4 (u64N x.cap) hI (by decide) (by decide) (u64N_lt _) (fun hI=>n_cv t3 (⟨rfl,n1_mk 5 (u64N x.miss) hI (by decide) (by decide) (u64N_lt _) (fun hI=>⟨rfl,bt_mk hI (by decide) ((PQ.of (by rw[hm];unfold putV attsTable;rw[addN_e h0,addN_e h1,addT_f h2]<;>rfl) (putV_below _ _ _)))⟩)⟩))⟩)) (isAb_one 3 (bytesOf (listS (x.keys.map oneInt))) (by decide)))⟩)) (fun h1=>(fun hI=>ml_mk (hl hm) (fun _ _=>trivial) (⟨rfl,t1_mk 3 hI (by decide) (by decide) (fun hI=>n_cv t3 (⟨rfl,n1_mk 4 (u64N x.cap) hI (by decide) (by decide) (u64N_lt _) (fun hI=>n_cv t3 (⟨rfl,n1_mk 5 (u64N x.miss) hI (by decide) (by decide) (u64N_lt _) (fun hI=>⟨rfl,bt_mk hI (by decide) ((PQ.of (by rw[hm];unfold putV attsTable;rw[addN_e h0,addN_f h1]<;>rfl) (putV_below _ _ _)))⟩)⟩))⟩))⟩)) (isAb_one 2 (bytesOf (numB (u64N x.kind))) (by decide)))⟩)) (fun h0=>(fun hI=>n_cv t5 (⟨rfl,n1_mk 2 (u64N x.kind) hI (by decide) (by decide) (u64N_lt _) (fun hI=>ml_mk (hl hm) (fun _ _=>trivial) (⟨rfl,t1_mk 3 hI (by decide) (by decide) (fun hI=>n_cv t3 (⟨rfl,n1_mk 4 (u64N x.cap) hI (by decide) (by decide) (u64N_lt _) (fun hI=>n_cv t3 (⟨rfl,n1_mk 5 (u64N x.miss) hI (by decide) (by decide) (u64N_lt _) (fun hI=>⟨rfl,bt_mk hI (by decide) ((PQ.of (by rw[hm];unfold putV attsTable;rw[addN_f h0]<;>rfl) (putV_below _ _ _)))⟩)⟩))⟩))⟩))⟩)) (isAb_one 1 (bytesOf (numB (u64N x.id))) (by decide)))⟩)) (fun hm=>PQ.of (by rw[hm];rfl) (putV_below _ _ _))⟩
theorem putTableH(x:OTable)(hf:fitTable x)(hw:wfTable x)(B:Base)(H:Heap):CallH Tryz.prog 100 B 95 [vTable x] H (.returned (putV (mayTable x) (attsTable x))) H:=
 pu_mk okp (knP (sum1 ok93) (pu1 (pu_b mayTableH))) lp_none rfl (putV_below _ _ _) (putTableC x hf hw (fun hm=>by have:=(mayTable_iff.1 hm).2.1;omega)) B H
theorem putEntryC(x:OEntry)(hf:fitEntry x)(hw:wfEntry x)(hl:mayEntry x=true->x.args.length<1000):Is (gPutEntry (real Tryz.prog) MR (MBr vEntry fitEntry mayEntry) (MLr cNat wfNat oneNat) x.tab x.key x.oth x.len x.prio x.blk (rowsOf cNat x.args) x.idle x.hard (x.cook:Int) x.tell (PQ (putV (mayEntry x) (attsEntry x)))):=by
 refine⟨?_⟩
 rw[gPutEntry_eq]
 exact⟨x,rfl,hf,branch_mk (fun hm=>n_cv t3 (⟨rfl,n0_mk 1 (u64N x.tab) (by decide) (u64N_lt _) (fun h0=>⟨rfl,t0_mk 2 (by decide) (fun h1=>⟨rfl,t0_mk 3 (by decide) (fun h2=>n_cv t3 (⟨rfl,n0_mk 4 (u64N x.len) (by decide) (u64N_lt _) (fun h3=>n_cv t3 (⟨rfl,n0_mk 5 (u64N x.prio) (by decide) (u64N_lt _) (fun h4=>n_cv t3 (⟨rfl,n0_mk 6 (u64N x.blk) (by decide) (u64N_lt _) (fun h5=>ml_mk (hl hm) hw.1 (⟨rfl,t0_mk 7 (by decide) (fun h6=>n_cv t2 (⟨rfl,n0_mk 8 (u64N x.idle) (by decide) (u64N_lt _) (fun h7=>n_cv t2 (⟨rfl,n0_mk 9 (u64N x.hard) (by decide) (u64N_lt _) (fun h8=>⟨rfl,n0_mk 10 x.cook (by decide) hw.2 (fun h9=>branch_mk (fun hb10=>⟨rfl,n0_mk 11 1 (by decide) (by decide) (fun h10=>⟨rfl,(PQ.of (by rw[hm];unfold putV attsEntry;rw[addN_e h0,addT_e h1,addT_e h2,addN_e h3,addN_e h4,addN_e h5,addT_e h6,addN_e h7,addN_e h8,addN_e h9,addB_t hb10,addN_e h10]<;>rfl) (putV_below _ _ _))⟩) (fun h10=>(fun hI=>⟨rfl,bt_mk hI (by decide) ((PQ.of (by rw[hm];unfold putV attsEntry;rw[addN_e h0,addT_e h1,addT_e h2,addN_e h3,addN_e h4,addN_e h5,addT_e h6,addN_e h7,addN_e h8,addN_e h9,addB_t hb10,addN_f h10]<;>rfl) (putV_below _ _ _)))⟩) (isAb_one 11 (bytesOf (numB 1)) (by decide)))⟩) (fun hb10=>⟨rfl,(PQ.of (by rw[hm];unfold putV attsEntry;rw[addN_e h0,addT_e h1,addT_e h2,addN_e h3,addN_e h4,addN_e h5,addT_e h6,addN_e h7,addN_e h8,addN_e h9,addB_f hb10]<;>rfl) (putV_below _ _ _))⟩)) (fun h9=>(fun hI=>branch_mk (fun hb10=>⟨rfl,n1_mk 11 1 hI (by decide) (by decide) (by decide) (fun hI=>⟨rfl,bt_mk hI (by decide) ((PQ.of (by rw[hm];unfold putV attsEntry;rw[addN_e h0,addT_e h1,addT_e h2,addN_e h3,addN_e h4,addN_e h5,addT_e h6,addN_e h7,addN_e h8,addN_f h9,addB_t hb10]<;>rfl) (putV_below _ _ _)))⟩)⟩) (fun hb10=>⟨rfl,bt_mk hI (by decide) ((PQ.of (by rw[hm];unfold putV attsEntry;rw[addN_e h0,addT_e h1,addT_e h2,addN_e h3,addN_e h4,addN_e h5,addT_e h6,addN_e h7,addN_e h8,addN_f h9,addB_f hb10]<;>rfl) (putV_below _ _ _)))⟩)) (isAb_one 10 (bytesOf (numB x.cook)) (by decide)))⟩) (fun h8=>(fun hI=>⟨rfl,n1_mk 10 x.cook hI (by decide) (by decide) hw.2 (fun hI=>branch_mk (fun hb10=>⟨rfl,n1_mk 11 1 hI (by decide) (by decide) (by decide) (fun hI=>⟨rfl,bt_mk hI (by decide) ((PQ.of (by rw[hm];unfold putV attsEntry;rw[addN_e h0,addT_e h1,addT_e h2,addN_e h3,addN_e h4,addN_e h5,addT_e h6,addN_e h7,addN_f h8,addB_t hb10]<;>rfl) (putV_below _ _ _)))⟩)⟩) (fun hb10=>⟨rfl,bt_mk hI (by decide) ((PQ.of (by rw[hm];unfold putV attsEntry;rw[addN_e h0,addT_e h1,addT_e h2,addN_e h3,addN_e h4,addN_e h5,addT_e h6,addN_e h7,addN_f h8,addB_f hb10]<;>rfl) (putV_below _ _ _)))⟩))⟩) (isAb_one 9 (bytesOf (numB (u64N x.hard))) (by decide)))⟩)) (fun h7=>(fun hI=>n_cv t2 (⟨rfl,n1_mk 9 (u64N x.hard) hI (by decide) (by decide) (u64N_lt _) (fun hI=>⟨rfl,n1_mk 10 x.cook hI (by decide) (by decide) hw.2 (fun hI=>branch_mk (fun hb10=>⟨rfl,n1_mk 11 1 hI (by decide) (by decide) (by decide) (fun hI=>⟨rfl,bt_mk hI (by decide) ((PQ.of (by rw[hm];unfold putV attsEntry;rw[addN_e h0,addT_e h1,addT_e h2,addN_e h3,addN_e h4,addN_e h5,addT_e h6,addN_f h7,addB_t hb10]<;>rfl) (putV_below _ _ _)))⟩)⟩) (fun hb10=>⟨rfl,bt_mk hI (by decide) ((PQ.of (by rw[hm];unfold putV attsEntry;rw[addN_e h0,addT_e h1,addT_e h2,addN_e h3,addN_e h4,addN_e h5,addT_e h6,addN_f h7,addB_f hb10]<;>rfl) (putV_below _ _ _)))⟩))⟩)⟩)) (isAb_one 8 (bytesOf (numB (u64N x.idle))) (by decide)))⟩)) (fun h6=>(fun hI=>n_cv t2 (⟨rfl,n1_mk 8 (u64N x.idle) hI (by decide) (by decide) (u64N_lt _) (fun hI=>n_cv t2 (⟨rfl,n1_mk 9 (u64N x.hard) hI (by decide) (by decide) (u64N_lt _) (fun hI=>⟨rfl,n1_mk 10 x.cook hI (by decide) (by decide) hw.2 (fun hI=>branch_mk (fun hb10=>⟨rfl,n1_mk 11 1 hI (by decide) (by decide) (by decide) (fun hI=>⟨rfl,bt_mk hI (by decide) ((PQ.of (by rw[hm];unfold putV attsEntry;rw[addN_e h0,addT_e h1,addT_e h2,addN_e h3,addN_e h4,addN_e h5,addT_f h6,addB_t hb10]<;>rfl) (putV_below _ _ _)))⟩)⟩) (fun hb10=>⟨rfl,bt_mk hI (by decide) ((PQ.of (by rw[hm];unfold putV attsEntry;rw[addN_e h0,addT_e h1,addT_e h2,addN_e h3,addN_e h4,addN_e h5,addT_f h6,addB_f hb10]<;>rfl) (putV_below _ _ _)))⟩))⟩)⟩))⟩)) (isAb_one 7 (bytesOf (listS (x.args.map oneNat))) (by decide)))⟩)) (fun h5=>(fun hI=>ml_mk (hl hm) hw.1 (⟨rfl,t1_mk 7 hI (by decide) (by decide) (fun hI=>n_cv t2 (⟨rfl,n1_mk 8 (u64N x.idle) hI (by decide) (by decide) (u64N_lt _) (fun hI=>n_cv t2 (⟨rfl,n1_mk 9 (u64N x.hard) hI (by decide) (by decide) (u64N_lt _) (fun hI=>⟨rfl,n1_mk 10 x.cook hI (by decide) (by decide) hw.2 (fun hI=>branch_mk (fun hb10=>⟨rfl,n1_mk 11 1 hI (by decide) (by decide) (by decide) (fun hI=>⟨rfl,bt_mk hI (by decide) ((PQ.of (by rw[hm];unfold putV attsEntry;rw[addN_e h0,addT_e h1,addT_e h2,addN_e h3,addN_e h4,addN_f h5,addB_t hb10]<;>rfl) (putV_below _ _ _)))⟩)⟩) (fun hb10=>⟨rfl,bt_mk hI (by decide) ((PQ.of (by rw[hm];unfold putV attsEntry;rw[addN_e h0,addT_e h1,addT_e h2,addN_e h3,addN_e h4,addN_f h5,addB_f hb10]<;>rfl) (putV_below _ _ _)))⟩))⟩)⟩))⟩))⟩)) (isAb_one 6 (bytesOf (numB (u64N x.blk))) (by decide)))⟩)) (fun h4=>(fun hI=>n_cv t3 (⟨rfl,n1_mk 6 (u64N x.blk) hI (by decide) (by decide) (u64N_lt _) (fun hI=>ml_mk (hl hm) hw.1 (⟨rfl,t1_mk 7 hI (by decide) (by decide) (fun hI=>n_cv t2 (⟨rfl,n1_mk 8 (u64N x.idle) hI (by decide) (by decide) (u64N_lt _) (fun hI=>n_cv t2 (⟨rfl,n1_mk 9 (u64N x.hard) hI (by decide) (by decide) (u64N_lt _) (fun hI=>⟨rfl,n1_mk 10 x.cook hI (by decide) (by decide) hw.2 (fun hI=>branch_mk (fun hb10=>⟨rfl,n1_mk 11 1 hI (by decide) (by decide) (by decide) (fun hI=>⟨rfl,bt_mk hI (by decide) ((PQ.of (by rw[hm];unfold putV attsEntry;rw[addN_e h0,addT_e h1,addT_e h2,addN_e h3,addN_f h4,addB_t hb10]<;>rfl) (putV_below _ _ _)))⟩)⟩) (fun hb10=>⟨rfl,bt_mk hI (by decide) ((PQ.of (by rw[hm];unfold putV attsEntry;rw[addN_e h0,addT_e h1,addT_e h2,addN_e h3,addN_f h4,addB_f hb10]<;>rfl) (putV_below _ _ _)))⟩))⟩)⟩))⟩))⟩))⟩)) (isAb_one 5 (bytesOf (numB (u64N x.prio))) (by decide)))⟩)) (fun h3=>(fun hI=>n_cv t3 (⟨rfl,n1_mk 5 (u64N x.prio) hI (by decide) (by decide) (u64N_lt _) (fun hI=>n_cv t3 (⟨rfl,n1_mk 6 (u64N x.blk) hI (by decide) (by decide) (u64N_lt _) (fun hI=>ml_mk (hl hm) hw.1 (⟨rfl,t1_mk 7 hI (by decide) (by decide) (fun hI=>n_cv t2 (⟨rfl,n1_mk 8 (u64N x.idle) hI (by decide) (by decide) (u64N_lt _) (fun hI=>n_cv t2 (⟨rfl,n1_mk 9 (u64N x.hard) hI (by decide) (by decide) (u64N_lt _) (fun hI=>⟨rfl,n1_mk 10 x.cook hI (by decide) (by decide) hw.2 (fun hI=>branch_mk (fun hb10=>⟨rfl,n1_mk 11 1 hI (by decide) (by decide) (by decide) (fun hI=>⟨rfl,bt_mk hI (by decide) ((PQ.of (by rw[hm];unfold putV attsEntry;rw[addN_e h0,addT_e h1,addT_e h2,addN_f h3,addB_t hb10]<;>rfl) (putV_below _ _ _)))⟩)⟩) (fun hb10=>⟨rfl,bt_mk hI (by decide) ((PQ.of (by rw[hm];unfold putV attsEntry;rw[addN_e h0,addT_e h1,addT_e h2,addN_f h3,addB_f hb10]<;>rfl) (putV_below _ _ _)))⟩))⟩)⟩))⟩))⟩))⟩))⟩)) (isAb_one 4 (bytesOf (numB (u64N x.len))) (by decide)))⟩)) (fun h2=>(fun hI=>n_cv t3 (⟨rfl,n1_mk 4 (u64N x.len) hI (by decide) (by decide) (u64N_lt _) (fun hI=>n_cv t3 (⟨rfl,n1_mk 5 (u64N x.prio) hI (by decide) (by decide) (u64N_lt _) (fun hI=>n_cv t3 (⟨rfl,n1_mk 6 (u64N x.blk) hI (by decide) (by decide) (u64N_lt _) (fun hI=>ml_mk (hl hm) hw.1 (⟨rfl,t1_mk 7 hI (by decide) (by decide) (fun hI=>n_cv t2 (⟨rfl,n1_mk 8 (u64N x.idle) hI (by decide) (by decide) (u64N_lt _) (fun hI=>n_cv t2 (⟨rfl,n1_mk 9 (u64N x.hard) hI (by decide) (by decide) (u64N_lt _) (fun hI=>⟨rfl,n1_mk 10 x.cook hI (by decide) (by decide) hw.2 (fun hI=>branch_mk (fun hb10=>⟨rfl,n1_mk 11 1 hI (by decide) (by decide) (by decide) (fun hI=>⟨rfl,bt_mk hI (by decide) ((PQ.of (by rw[hm];unfold putV attsEntry;rw[addN_e h0,addT_e h1,addT_f h2,addB_t hb10]<;>rfl) (putV_below _ _ _)))⟩)⟩) (fun hb10=>⟨rfl,bt_mk hI (by decide) ((PQ.of (by rw[hm];unfold putV attsEntry;rw[addN_e h0,addT_e h1,addT_f h2,addB_f hb10]<;>rfl) (putV_below _ _ _)))⟩))⟩)⟩))⟩))⟩))⟩))⟩))⟩)) (isAb_one 3 x.oth (by decide)))⟩) (fun h1=>(fun hI=>⟨rfl,t1_mk 3 hI (by decide) (by decide) (fun hI=>n_cv t3 (⟨rfl,n1_mk 4 (u64N x.len) hI (by decide) (by decide) (u64N_lt _) (fun hI=>n_cv t3 (⟨rfl,n1_mk 5 (u64N x.prio) hI (by decide) (by decide) (u64N_lt _) (fun hI=>n_cv t3 (⟨rfl,n1_mk 6 (u64N x.blk) hI (by decide) (by decide) (u64N_lt _) (fun hI=>ml_mk (hl hm) hw.1 (⟨rfl,t1_mk 7 hI (by decide) (by decide) (fun hI=>n_cv t2 (⟨rfl,n1_mk 8 (u64N x.idle) hI (by decide) (by decide) (u64N_lt _) (fun hI=>n_cv t2 (⟨rfl,n1_mk 9 (u64N x.hard) hI (by decide) (by decide) (u64N_lt _) (fun hI=>⟨rfl,n1_mk 10 x.cook hI (by decide) (by decide) hw.2 (fun hI=>branch_mk (fun hb10=>⟨rfl,n1_mk 11 1 hI (by decide) (by decide) (by decide) (fun hI=>⟨rfl,bt_mk hI (by decide) ((PQ.of (by rw[hm];unfold putV attsEntry;rw[addN_e h0,addT_f h1,addB_t hb10]<;>rfl) (putV_below _ _ _)))⟩)⟩) (fun hb10=>⟨rfl,bt_mk hI (by decide) ((PQ.of (by rw[hm];unfold putV attsEntry;rw[addN_e h0,addT_f h1,addB_f hb10]<;>rfl) (putV_below _ _ _)))⟩))⟩)⟩))⟩))⟩))⟩))⟩))⟩))⟩) (isAb_one 2 x.key (by decide)))⟩) (fun h0=>(fun hI=>⟨rfl,t1_mk 2 hI (by decide) (by decide) (fun hI=>⟨rfl,t1_mk 3 hI (by decide) (by decide) (fun hI=>n_cv t3 (⟨rfl,n1_mk 4 (u64N x.len) hI (by decide) (by decide) (u64N_lt _) (fun hI=>n_cv t3 (⟨rfl,n1_mk 5 (u64N x.prio) hI (by decide) (by decide) (u64N_lt _) (fun hI=>n_cv t3 (⟨rfl,n1_mk 6 (u64N x.blk) hI (by decide) (by decide) (u64N_lt _) (fun hI=>ml_mk (hl hm) hw.1 (⟨rfl,t1_mk 7 hI (by decide) (by decide) (fun hI=>n_cv t2 (⟨rfl,n1_mk 8 (u64N x.idle) hI (by decide) (by decide) (u64N_lt _) (fun hI=>n_cv t2 (⟨rfl,n1_mk 9 (u64N x.hard) hI (by decide) (by decide) (u64N_lt _) (fun hI=>⟨rfl,n1_mk 10 x.cook hI (by decide) (by decide) hw.2 (fun hI=>branch_mk (fun hb10=>⟨rfl,n1_mk 11 1 hI (by decide) (by decide) (by decide) (fun hI=>⟨rfl,bt_mk hI (by decide) ((PQ.of (by rw[hm];unfold putV attsEntry;rw[addN_f h0,addB_t hb10]<;>rfl) (putV_below _ _ _)))⟩)⟩) (fun hb10=>⟨rfl,bt_mk hI (by decide) ((PQ.of (by rw[hm];unfold putV attsEntry;rw[addN_f h0,addB_f hb10]<;>rfl) (putV_below _ _ _)))⟩))⟩)⟩))⟩))⟩))⟩))⟩))⟩))⟩)⟩) (isAb_one 1 (bytesOf (numB (u64N x.tab))) (by decide)))⟩)) (fun hm=>PQ.of (by rw[hm];rfl) (putV_below _ _ _))⟩
theorem putEntryH(x:OEntry)(hf:fitEntry x)(hw:wfEntry x)(B:Base)(H:Heap):CallH Tryz.prog 100 B 99 [vEntry x] H (.returned (putV (mayEntry x) (attsEntry x))) H:=
 pu_mk okp (knP (sum1 ok97) (pu1 (pu_b mayEntryH))) lp_none rfl (putV_below _ _ _) (putEntryC x hf hw (fun hm=>by have:=(mayEntry_iff.1 hm).2.2.2.2.2;omega)) B H
theorem putBlockC(x:OBlock)(hf:fitBlock x)(hw:wfBlock x)(hl:mayBlock x=true->x.code.length<1000):Is (gPutBlock (real Tryz.prog) MR (MBr vBlock fitBlock mayBlock) (MLr cInstr wfInstr oneInstr) x.id (rowsOf cInstr x.code) (PQ (putV (mayBlock x) (attsBlock x)))):=by
 refine⟨?_⟩
 rw[gPutBlock_eq]
 exact⟨x,rfl,hf,branch_mk (fun hm=>n_cv t3 (⟨rfl,n0_mk 1 (u64N x.id) (by decide) (u64N_lt _) (fun h0=>ml_mk (hl hm) hw (⟨rfl,t0_mk 2 (by decide) (fun h1=>⟨rfl,(PQ.of (by rw[hm];unfold putV attsBlock;rw[addN_e h0,addT_e h1]<;>rfl) (putV_below _ _ _))⟩) (fun h1=>(fun hI=>⟨rfl,bt_mk hI (by decide) ((PQ.of (by rw[hm];unfold putV attsBlock;rw[addN_e h0,addT_f h1]<;>rfl) (putV_below _ _ _)))⟩) (isAb_one 2 (bytesOf (listS (x.code.map oneInstr))) (by decide)))⟩)) (fun h0=>(fun hI=>ml_mk (hl hm) hw (⟨rfl,t1_mk 2 hI (by decide) (by decide) (fun hI=>⟨rfl,bt_mk hI (by decide) ((PQ.of (by rw[hm];unfold putV attsBlock;rw[addN_f h0]<;>rfl) (putV_below _ _ _)))⟩)⟩)) (isAb_one 1 (bytesOf (numB (u64N x.id))) (by decide)))⟩)) (fun hm=>PQ.of (by rw[hm];rfl) (putV_below _ _ _))⟩
theorem putBlockH(x:OBlock)(hf:fitBlock x)(hw:wfBlock x)(B:Base)(H:Heap):CallH Tryz.prog 100 B 103 [vBlock x] H (.returned (putV (mayBlock x) (attsBlock x))) H:=
 pu_mk okp (knP (sum1 ok82) (pu1 (pu_b mayBlockH))) lp_none rfl (putV_below _ _ _) (putBlockC x hf hw (fun hm=>by have:=(mayBlock_iff.1 hm).2.1;omega)) B H
theorem putGroupC(x:OGroup)(hf:fitGroup x)(hw:wfGroup x)(hl:mayGroup x=true->x.bks.length<1000):Is (gPutGroup (real Tryz.prog) MR (MBr vGroup fitGroup mayGroup) (MLr cBucket wfBucket oneBucket) x.id (x.kind:Int) x.fld (rowsOf cBucket x.bks) (PQ (putV (mayGroup x) (attsGroup x)))):=by
 refine⟨?_⟩
 rw[gPutGroup_eq]
 exact⟨x,rfl,hf,branch_mk (fun hm=>n_cv t3 (⟨rfl,n0_mk 1 (u64N x.id) (by decide) (u64N_lt _) (fun h0=>n_cv t5 (⟨rfl,n0_mk 2 (u64N x.kind) (by decide) (u64N_lt _) (fun h1=>n_cv t3 (⟨rfl,n0_mk 3 (u64N x.fld) (by decide) (u64N_lt _) (fun h2=>ml_mk (hl hm) hw (⟨rfl,t0_mk 4 (by decide) (fun h3=>⟨rfl,(PQ.of (by rw[hm];unfold putV attsGroup;rw[addN_e h0,addN_e h1,addN_e h2,addT_e h3]<;>rfl) (putV_below _ _ _))⟩) (fun h3=>(fun hI=>⟨rfl,bt_mk hI (by decide) ((PQ.of (by rw[hm];unfold putV attsGroup;rw[addN_e h0,addN_e h1,addN_e h2,addT_f h3]<;>rfl) (putV_below _ _ _)))⟩) (isAb_one 4 (bytesOf (listS (x.bks.map oneBucket))) (by decide)))⟩)) (fun h2=>(fun hI=>ml_mk (hl hm) hw (⟨rfl,t1_mk 4 hI (by decide) (by decide) (fun hI=>⟨rfl,bt_mk hI (by decide) ((PQ.of (by rw[hm];unfold putV attsGroup;rw[addN_e h0,addN_e h1,addN_f h2]<;>rfl) (putV_below _ _ _)))⟩)⟩)) (isAb_one 3 (bytesOf (numB (u64N x.fld))) (by decide)))⟩)) (fun h1=>(fun hI=>n_cv t3 (⟨rfl,n1_mk 3 (u64N x.fld) hI (by decide) (by decide) (u64N_lt _) (fun hI=>ml_mk (hl hm) hw (⟨rfl,t1_mk 4 hI (by decide) (by decide) (fun hI=>⟨rfl,bt_mk hI (by decide) ((PQ.of (by rw[hm];unfold putV attsGroup;rw[addN_e h0,addN_f h1]<;>rfl) (putV_below _ _ _)))⟩)⟩))⟩)) (isAb_one 2 (bytesOf (numB (u64N x.kind))) (by decide)))⟩)) (fun h0=>(fun hI=>n_cv t5 (⟨rfl,n1_mk 2 (u64N x.kind) hI (by decide) (by decide) (u64N_lt _) (fun hI=>n_cv t3 (⟨rfl,n1_mk 3 (u64N x.fld) hI (by decide) (by decide) (u64N_lt _) (fun hI=>ml_mk (hl hm) hw (⟨rfl,t1_mk 4 hI (by decide) (by decide) (fun hI=>⟨rfl,bt_mk hI (by decide) ((PQ.of (by rw[hm];unfold putV attsGroup;rw[addN_f h0]<;>rfl) (putV_below _ _ _)))⟩)⟩))⟩))⟩)) (isAb_one 1 (bytesOf (numB (u64N x.id))) (by decide)))⟩)) (fun hm=>PQ.of (by rw[hm];rfl) (putV_below _ _ _))⟩
theorem putGroupH(x:OGroup)(hf:fitGroup x)(hw:wfGroup x)(B:Base)(H:Heap):CallH Tryz.prog 100 B 107 [vGroup x] H (.returned (putV (mayGroup x) (attsGroup x))) H:=
 pu_mk okp (knP (sum1 ok98) (pu1 (pu_b mayGroupH))) lp_none rfl (putV_below _ _ _) (putGroupC x hf hw (fun hm=>by have:=(mayGroup_iff.1 hm).2.1;omega)) B H
theorem putMeterC(x:OMeter)(hf:fitMeter x)(hw:wfMeter x):Is (gPutMeter (real Tryz.prog) MR (MBr vMeter fitMeter mayMeter) (MLr cInt wfInt oneInt) x.id x.rate x.burst (PQ (putV (mayMeter x) (attsMeter x)))):=by
 refine⟨?_⟩
 rw[gPutMeter_eq]
 exact⟨x,rfl,hf,branch_mk (fun hm=>n_cv t3 (⟨rfl,n0_mk 1 (u64N x.id) (by decide) (u64N_lt _) (fun h0=>n_cv t2 (⟨rfl,n0_mk 2 (u64N x.rate) (by decide) (u64N_lt _) (fun h1=>n_cv t2 (⟨rfl,n0_mk 3 (u64N x.burst) (by decide) (u64N_lt _) (fun h2=>⟨rfl,(PQ.of (by rw[hm];unfold putV attsMeter;rw[addN_e h0,addN_e h1,addN_e h2]<;>rfl) (putV_below _ _ _))⟩) (fun h2=>(fun hI=>⟨rfl,bt_mk hI (by decide) ((PQ.of (by rw[hm];unfold putV attsMeter;rw[addN_e h0,addN_e h1,addN_f h2]<;>rfl) (putV_below _ _ _)))⟩) (isAb_one 3 (bytesOf (numB (u64N x.burst))) (by decide)))⟩)) (fun h1=>(fun hI=>n_cv t2 (⟨rfl,n1_mk 3 (u64N x.burst) hI (by decide) (by decide) (u64N_lt _) (fun hI=>⟨rfl,bt_mk hI (by decide) ((PQ.of (by rw[hm];unfold putV attsMeter;rw[addN_e h0,addN_f h1]<;>rfl) (putV_below _ _ _)))⟩)⟩)) (isAb_one 2 (bytesOf (numB (u64N x.rate))) (by decide)))⟩)) (fun h0=>(fun hI=>n_cv t2 (⟨rfl,n1_mk 2 (u64N x.rate) hI (by decide) (by decide) (u64N_lt _) (fun hI=>n_cv t2 (⟨rfl,n1_mk 3 (u64N x.burst) hI (by decide) (by decide) (u64N_lt _) (fun hI=>⟨rfl,bt_mk hI (by decide) ((PQ.of (by rw[hm];unfold putV attsMeter;rw[addN_f h0]<;>rfl) (putV_below _ _ _)))⟩)⟩))⟩)) (isAb_one 1 (bytesOf (numB (u64N x.id))) (by decide)))⟩)) (fun hm=>PQ.of (by rw[hm];rfl) (putV_below _ _ _))⟩
theorem putMeterH(x:OMeter)(hf:fitMeter x)(hw:wfMeter x)(B:Base)(H:Heap):CallH Tryz.prog 100 B 111 [vMeter x] H (.returned (putV (mayMeter x) (attsMeter x))) H:=
 pu_mk okp (knP sum0 (pu1 (pu_b mayMeterH))) lp_none rfl (putV_below _ _ _) (putMeterC x hf hw) B H
theorem putRegsC(x:ORegs)(hf:fitRegs x)(hw:wfRegs x):Is (gPutRegs (real Tryz.prog) MR (MBr vRegs fitRegs mayRegs) (MLr cInt wfInt oneInt) x.id x.size (PQ (putV (mayRegs x) (attsRegs x)))):=by
 refine⟨?_⟩
 rw[gPutRegs_eq]
 exact⟨x,rfl,hf,branch_mk (fun hm=>n_cv t3 (⟨rfl,n0_mk 1 (u64N x.id) (by decide) (u64N_lt _) (fun h0=>n_cv t3 (⟨rfl,n0_mk 2 (u64N x.size) (by decide) (u64N_lt _) (fun h1=>⟨rfl,(PQ.of (by rw[hm];unfold putV attsRegs;rw[addN_e h0,addN_e h1]<;>rfl) (putV_below _ _ _))⟩) (fun h1=>(fun hI=>⟨rfl,bt_mk hI (by decide) ((PQ.of (by rw[hm];unfold putV attsRegs;rw[addN_e h0,addN_f h1]<;>rfl) (putV_below _ _ _)))⟩) (isAb_one 2 (bytesOf (numB (u64N x.size))) (by decide)))⟩)) (fun h0=>(fun hI=>n_cv t3 (⟨rfl,n1_mk 2 (u64N x.size) hI (by decide) (by decide) (u64N_lt _) (fun hI=>⟨rfl,bt_mk hI (by decide) ((PQ.of (by rw[hm];unfold putV attsRegs;rw[addN_f h0]<;>rfl) (putV_below _ _ _)))⟩)⟩)) (isAb_one 1 (bytesOf (numB (u64N x.id))) (by decide)))⟩)) (fun hm=>PQ.of (by rw[hm];rfl) (putV_below _ _ _))⟩
theorem putRegsH(x:ORegs)(hf:fitRegs x)(hw:wfRegs x)(B:Base)(H:Heap):CallH Tryz.prog 100 B 115 [vRegs x] H (.returned (putV (mayRegs x) (attsRegs x))) H:=
 pu_mk okp (knP sum0 (pu1 (pu_b mayRegsH))) lp_none rfl (putV_below _ _ _) (putRegsC x hf hw) B H
end
end Go.Proofs.YtblbaohcelldpaaGreatDoor.Ob
namespace Go.Abs
open Go
section
variable {P:Program}
def eqPairsF(P:Program)(rec:TypeId->List Value->List Value->Option (List (Int×Int)))(xs ys:List Value):List Field->Option (List (Int×Int))
 | []=>some []
 | f :: fs => match f.name == "_" with
  |true=>none
  |false=>match P.underlying f.type with
   |some (.int _)=>match xs[f.offset]?,ys[f.offset]? with
    |some (.int k a),some (.int k' b)=>match decide (k=k')with
     |true=>match eqPairsF P rec xs ys fs with
      |some l=>some ((a,b)::l)
      |none=>none
     |false=>none
    |_,_=>none
   |some (.struct _)=>match aSize P f.type with
    |some n=>match rec f.type ((xs.drop f.offset).take n) ((ys.drop f.offset).take n),eqPairsF P rec xs ys fs with
     |some l,some l'=>some (l++l')
     |_,_=>none
    |none=>none
   |_=>none
def eqPairs(P:Program):Nat->TypeId->List Value->List Value->Option (List (Int×Int))
 | 0,_,_,_=>none
 |d+1,t,xs,ys=>match P.underlying t with
  |some (.struct fs)=>match P.stoodInHeld t with
   |true=>none
   |false=>eqPairsF P (eqPairs P d) xs ys fs.toList
  |_=>none
def allEq(l:List (Int×Int)):Bool:=l.all fun(a,b)=>a==b
theorem pure_underlying{t:TypeId}{d:TypeDesc}(h:P.underlying t=some d):pureSem P (underlying t)=some d:=pureSem_underlying h
theorem pure_isAgg{t:TypeId}{d:TypeDesc}(h:P.underlying t=some d):pureSem P (isAgg t)=some (isAggD d):=by
 unfold isAgg;rw[pureSem_bind,pure_underlying h,Option.bind_some]
 cases d<;>rfl
theorem pure_sizeOf{t:TypeId}{n:Nat}(h:aSize P t=some n):pureSem P (sizeOf t)=some n:=by
 unfold aSize at h
 cases e:P.info? t with
 |none=>rw[e]at h;cases h
 |some i=>
  rw[e]at h;simp only[Option.map_some,Option.some.injEq]at h;subst h
  simp[sizeOf,typeInfo,program,pureSem_bind,pureSem,e]
  rfl
theorem pure_part_int{t:TypeId}{d:IntKind}(hu:P.underlying t=some (.int d)){cs:List Value}{off:Nat}{v:Value}(h:cs[off]?=some v):pureSem P (part t ⟨cs⟩ off)=some v:=by
 unfold part
 rw[pureSem_bind,pure_isAgg hu,Option.bind_some]
 simp[isAggD,h]
 rfl
theorem pure_part_struct{t:TypeId}{fs:Array Field}(hu:P.underlying t=some (.struct fs)){cs:List Value}{off n:Nat}(hn:aSize P t=some n):pureSem P (part t ⟨cs⟩ off)=some (.agg ⟨(cs.drop off).take n⟩):=by
 unfold part
 rw[pureSem_bind,pure_isAgg hu,Option.bind_some]
 simp only[isAggD,if_true]
 rw[pureSem_bind,pure_sizeOf hn,Option.bind_some]
 simp
 rfl
theorem pure_equal_int{t:TypeId}{q k:IntKind}{a b:Int}(hu:P.underlying t=some (.int q))(n:Nat):pureSem P (Op.equalIn (n+1) t (.int k a) (.int k b))=some (a==b):=by
 simp only[Op.equalIn,pureSem_bind,pure_underlying hu,Option.bind_some,if_true]
 rfl
theorem pure_struct{t:TypeId}{fs:Array Field}(hu:P.underlying t=some (.struct fs))(hp:P.stoodInHeld t=false)(d:Nat)(xs ys:Array Value):
  pureSem P (Op.equalIn (d+1) t (.agg xs) (.agg ys))=pureSem P (Op.eqFields d xs ys fs.toList):=by
 have e0:pureSem P (program)=some P:=rfl
 simp only[Op.equalIn,pureSem_bind,pure_underlying hu,Option.bind_some,e0,hp,Bool.false_eq_true,if_false]
 rw[←Array.forIn_toList]
 have e1:pureSem P (pure PUnit.unit:Sem PUnit)=some PUnit.unit:=rfl
 generalize fs.toList=l
 clear hu
 induction l with
 |nil=>rfl
 |cons f fs ih=>
  simp only[List.forIn_cons,Op.eqFields]
  by_cases hn : f.name = "_"
  ·simp only[hn,ne_eq,not_true_eq_false,if_false,pureSem_bind]
   exact ih
  ·simp only[hn,ne_eq,not_false_eq_true,if_true,pureSem_bind]
   cases h1:pureSem P (part f.type xs f.offset)with
   |none=>simp
   |some a=>
    simp only[Option.bind_some]
    cases h2:pureSem P (part f.type ys f.offset)with
    |none=>simp
    |some b=>
     simp only[Option.bind_some]
     cases h3:pureSem P (Op.equalIn d f.type a b)with
     |none=>simp
     |some r=>
      simp only[Option.bind_some]
      cases r
      ·rfl
      ·exact ih
theorem pairsF_ok{rec:TypeId->List Value->List Value->Option (List (Int×Int))}{d:Nat}(hrec:∀t l l' ps,rec t l l'=some ps->pureSem P (Op.equalIn (d+1) t (.agg ⟨l⟩) (.agg ⟨l'⟩))=some (allEq ps)){xs ys:List Value}:
  ∀(fs:List Field) (ps:List (Int×Int)),eqPairsF P rec xs ys fs=some ps->pureSem P (Op.eqFields (d+1) ⟨xs⟩ ⟨ys⟩ fs)=some (allEq ps)
 | [],ps,h=>by simp only[eqPairsF,Option.some.injEq]at h;subst h;rfl
 |f::fs,ps,h=>by
  have ih:=fun ps h=>pairsF_ok hrec (xs:=xs) (ys:=ys) fs ps h
  unfold eqPairsF at h
  split at h
  ·cases h
  ·rename_i hn
   have hn : f.name ≠ "_" := by simpa using hn
   split at h
   ·rename_i q hu
    split at h
    ·rename_i k a k' b h1 h2
     split at h
     ·rename_i hk
      simp only[decide_eq_true_eq]at hk;subst hk
      split at h
      ·rename_i l hl
       simp only[Option.some.injEq]at h;subst h
       simp only[Op.eqFields,hn,ne_eq,not_false_eq_true,if_true,pureSem_bind,pure_part_int hu h1,pure_part_int hu h2,Option.bind_some,pure_equal_int hu]
       cases hab:a==b
       ·simp[allEq,hab];rfl
       ·simp only[Bool.not_true,Bool.false_eq_true,if_false,ih _ hl]
        simp[allEq,hab]
      ·cases h
     ·cases h
    ·cases h
   ·rename_i gs hu
    split at h
    ·rename_i n hsz
     split at h
     ·rename_i l l' hl hl'
      simp only[Option.some.injEq]at h;subst h
      simp only[Op.eqFields,hn,ne_eq,not_false_eq_true,if_true,pureSem_bind,pure_part_struct hu hsz,Option.bind_some,hrec _ _ _ _ hl]
      cases hab:allEq l
      ·simp only[Bool.not_false,if_true]
       simp only[allEq]at hab ⊢
       rw[List.all_append,hab];rfl
      ·simp only[Bool.not_true,Bool.false_eq_true,if_false,ih _ hl']
       simp only[allEq]at hab ⊢
       rw[List.all_append,hab];rfl
     ·cases h
    ·cases h
   ·cases h
theorem pairs_ok:∀(d:Nat) (t:TypeId) (l l':List Value) (ps:List (Int×Int)) (n:Nat),d<=n->eqPairs P d t l l'=some ps->pureSem P (Op.equalIn (n+1) t (.agg ⟨l⟩) (.agg ⟨l'⟩))=some (allEq ps)
 | 0,t,l,l',ps,n,hn,h=>by cases h
 |d+1,t,l,l',ps,n,hn,h=>by
  unfold eqPairs at h
  split at h
  ·rename_i fs hu
   split at h
   ·cases h
   ·rename_i hp
    rw[pure_struct hu hp]
    obtain⟨m,rfl⟩:∃m,n=m+1:=⟨n-1,by omega⟩
    exact pairsF_ok (fun t l l' ps h=>pairs_ok d t l l' ps m (by omega) h) _ _ h
  ·cases h
theorem pure_eqGuard{op:BinOp}{t:TypeId}{x y:Operand}{xs ys:Array Value}(hm:P.eqGuardType P.depth t=false):pureSem P (eqGuard op t x y (.agg xs) (.agg ys))=some ():=by
 have e0:pureSem P (program)=some P:=rfl
 cases op<;>simp[eqGuard,pureSem_bind,e0,hm]<;>rfl
theorem ag_eql{t:TypeId}{l l':List Value}{ps:List (Int×Int)}(h:eqPairs P 5 t l l'=some ps)(hm:P.eqGuardType P.depth t=false)(hl:plainL l=true)(hl':plainL l'=true)(H:Heap)(x y:Operand):
  aBin P H .eql t x y (.agg ⟨l⟩) (.agg ⟨l'⟩)=some (.bool (allEq ps)):=by
 have e:pureSem P (do eqGuard .eql t x y (.agg ⟨l⟩) (.agg ⟨l'⟩);binOp .eql t (.agg ⟨l⟩) (.agg ⟨l'⟩))=some (.bool (allEq ps)):=by
  rw[pureSem_bind,pure_eqGuard hm,Option.bind_some,show binOp .eql t (.agg ⟨l⟩) (.agg ⟨l'⟩)=(do pure (.bool ((←Op.equalIn (9999+1) t (.agg ⟨l⟩) (.agg ⟨l'⟩)))))from rfl,pureSem_bind,pairs_ok 5 t l l' ps 9999 (by omega) h]
  rfl
 simp only[aBin,plain,plainA,hl,hl',Bool.and_self,pureVal,e]
theorem ag_neq{t:TypeId}{l l':List Value}{ps:List (Int×Int)}(h:eqPairs P 5 t l l'=some ps)(hm:P.eqGuardType P.depth t=false)(hl:plainL l=true)(hl':plainL l'=true)(H:Heap)(x y:Operand):
  aBin P H .neq t x y (.agg ⟨l⟩) (.agg ⟨l'⟩)=some (.bool (!allEq ps)):=by
 have e:pureSem P (do eqGuard .neq t x y (.agg ⟨l⟩) (.agg ⟨l'⟩);binOp .neq t (.agg ⟨l⟩) (.agg ⟨l'⟩))=some (.bool (!allEq ps)):=by
  rw[pureSem_bind,pure_eqGuard hm,Option.bind_some,show binOp .neq t (.agg ⟨l⟩) (.agg ⟨l'⟩)=(do pure (.bool (!(←Op.equalIn (9999+1) t (.agg ⟨l⟩) (.agg ⟨l'⟩)))))from rfl,pureSem_bind,pairs_ok 5 t l l' ps 9999 (by omega) h]
  rfl
 simp only[aBin,plain,plainA,hl,hl',Bool.and_self,pureVal,e]
theorem n_agEql{t:TypeId}{l l':List Value}{ps:List (Int×Int)}{X Y:Prop}(h:eqPairs P 5 t l l'=some ps)(hm:P.eqGuardType P.depth t=false)(hl:plainL l=true)(hl':plainL l'=true)
 (h1:allEq ps=true->X) (h2:allEq ps=false->Y):(real P).agEq .eql t l l' X Y:=⟨_,fun H x y=>ag_eql h hm hl hl' H x y,h1,h2⟩
theorem n_agNeq{t:TypeId}{l l':List Value}{ps:List (Int×Int)}{X Y:Prop}(h:eqPairs P 5 t l l'=some ps)(hm:P.eqGuardType P.depth t=false)(hl:plainL l=true)(hl':plainL l'=true)
 (h1:allEq ps=false->X) (h2:allEq ps=true->Y):(real P).agEq .neq t l l' X Y:=⟨_,fun H x y=>ag_neq h hm hl hl' H x y,fun e=>h1 (by simpa using e),fun e=>h2 (by simpa using e)⟩
end
end Go.Abs
