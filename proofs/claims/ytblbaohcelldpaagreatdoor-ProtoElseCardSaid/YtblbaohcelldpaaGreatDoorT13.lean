/- Lists in writers: what the code comes to. -/
import Derived.Test.YtblbaohcelldpaaGreatDoorT12
set_option linter.all false
namespace Go.Proofs.YtblbaohcelldpaaGreatDoor.Ob
open Go Go.Abs Go.Tlv
set_option maxRecDepth 100000
noncomputable section
def tk{α:Type}(one:α->ByteArray)(l:List α)(i:Nat):List ByteArray:=(l.take i).map one
theorem tk_len{α:Type}(one:α->ByteArray){l:List α}{i:Nat}(h:i<=l.length):(tk one l i).length=i:=by simp[tk,h]
theorem strV_len(l:List ByteArray):(strV l).length=l.length:=by simp[strV]
theorem tk_succ{α:Type}{one:α->ByteArray}{l:List α}{i:Nat}{x:α}(h:l[i]?=some x):strV (tk one l i)++[.string (one x)]=strV (tk one l (i+1)):=by
 unfold tk;rw[take_succ h];simp[strV]
theorem tk_all{α:Type}(one:α->ByteArray)(l:List α):tk one l l.length=l.map one:=by unfold tk;rw[List.take_length]
def fnV(g:Nat):Value := .func (.func g) ⟨[]⟩ ⟨[]⟩
def ILw{α:Type}(c:α->List Value)(one:α->ByteArray)(g:Nat)(kind:Int)(pre:List (Option AObj))(l:List α)(i:{i:Nat // i<=l.length}):List Value×List (Option AObj):=
 ([pW,.int .u8 kind,fnV g,mkS (100+pre.length) (tk one l i.1).length,dsl (rowsOf c l),.int .i64 (l.length:Int),.int .i64 (i.1:Int)],pre++[mo (strV (tk one l i.1)) 9 1])
def RLw{α:Type}(one:α->ByteArray)(kind:Int)(pre:List (Option AObj))(l:List α)(e:Exit)(v:List Value)(o:List (Option AObj)):Prop:=
 e = .exit 0/\v=[pW,.int .u8 kind,mkS (100+pre.length) (l.map one).length]/\o=pre++[mo (strV (l.map one)) 9 1]
def LLw{α:Type}(c:α->List Value)(one:α->ByteArray)(f g:Nat)(kind:Int)(pre:List (Option AObj))(l:List α):LLt:=fun code n vals obs A=>
 code=loopIn Tryz.prog f 2/\n=35/\vals=[pW,.int .u8 kind,fnV g,.slice none 0 0,dsl (rowsOf c l),.int .i64 (Int.ofNat l.length),.int .i64 (0:Int)]/\obs=pre/\A (l.map one).length (mo (strV (l.map one)) 9 1)
def preW0:List (Option AObj):=[some (wrC (.slice none 0 0))]
def preW1(len:Nat)(vs:List Value):List (Option AObj):=[some (wrC (.slice (some ⟨101,0,none⟩) len len)),some (.cells vs 94 2 true true)]
theorem preW1_ok{len:Nat}{vs:List Value}(hv:belowL (100+2) vs=true){objs:List (Option AObj)}(h0:objs[0]?=some (some (wrC (.slice (some ⟨101,0,none⟩) len len))))(h1:objs[1]?=some (some (.cells vs 94 2 true true))):
  ∀(i:Nat) o,(preW1 len vs)[i]?=some (some o)->objs[i]?=some (some o)/\belowO (100+2) (some o)=true:=by
 intro i o h
 unfold preW1 at h
 rcases i with _|_|i
 ·simp only[List.getElem?_cons_zero,Option.some.injEq]at h;subst h;exact⟨h0,rfl⟩
 ·simp only[List.getElem?_cons_succ,List.getElem?_cons_zero,Option.some.injEq]at h;subst h;exact⟨h1,hv⟩
 ·simp at h
theorem preW0_ok{objs:List (Option AObj)}(h0:objs[0]?=some (some (wrC (.slice none 0 0)))):
  ∀(i:Nat) o,preW0[i]?=some (some o)->objs[i]?=some (some o)/\belowO (100+1) (some o)=true:=by
 intro i o h
 unfold preW0 at h
 rcases i with _|i
 ·simp only[List.getElem?_cons_zero,Option.some.injEq]at h;subst h;exact⟨h0,rfl⟩
 ·simp at h
abbrev MLt:=List Value->(ByteArray->Prop)->Prop
def sListW(f:Nat)(M:Mw)(ML:MLt):List Value->Heap->VK->Prop
 | [a,.int .u8 kind,.iface t (.agg ⟨rs⟩),.func (.func g) ⟨x⟩ ⟨y⟩],H,K=>match Nat.beq t mkD,Nat.beq g f,x,y with
  |true,true,[],[]=>ML rs fun s=>sWr (M.t0 kind s) (fun k vs=>M.t1 k vs kind s) a H K
  |_,_,_,_=>False
 |_,_,_=>False
def MLr{α:Type}(c:α->List Value)(wf:α->Prop)(one:α->ByteArray):MLt:=fun rs K=>∃l:List α,rs=rowsOf c l/\l.length<1000/\(∀x∈l,wf x)/\K (bytesOf (listS (l.map one)))
theorem ml_mk{α:Type}{c:α->List Value}{wf:α->Prop}{one:α->ByteArray}{l:List α}{K:ByteArray->Prop}(hl:l.length<1000)(hw:∀x∈l,wf x)(hK:K (bytesOf (listS (l.map one)))):MLr c wf one (rowsOf c l) K:=⟨l,rfl,hl,hw,hK⟩
theorem pu1{g:FuncId}{S:List Value->(Value->Prop)->Prop}(h:PuOk Tryz.prog 100 g S):∀x∈[(g,S)],PuOk Tryz.prog 100 x.1 x.2:=fun x hx=>by simp only[List.mem_singleton]at hx;subst hx;exact h
theorem lp1{sy:Sy}{kn:KnL}{pu:PuL}{cf:List (Nat×Nat)}{k n:Nat}{live:List Nat}{S:LpS}(h:LoopOk Tryz.prog 100 live S):LpOk Tryz.prog 100 (howOf sy Sp0 kn [(k,(n,(live,S)))] pu cf):=lp_ok (fun x hx=>by simp only[List.mem_singleton]at hx;subst hx;exact h)
theorem kn125{sy:Sy}{lp:LpL}:KnOk Tryz.prog 100 (howOf sy Sp0 [(148,sListS MSr),(178,sText MR)] lp [] []):=kn_ok (fun x hx=>by
 simp only[List.mem_cons,List.not_mem_nil,or_false]at hx
 rcases hx with rfl|rfl
 ·exact ok125
 ·exact textOk) (fun x hx=>by cases hx)
theorem rndL0Arm(kd:Int)(l:List Arm)(hl:l.length<1000)(hw:∀x∈l,wfArm x)(i:{i:Nat // i<=l.length}):
  Is (wpe Tryz.prog (real Tryz.prog) (howOf sy1 Sp0 [] [] [(156,sF (MF (fun x:Arm => .agg ⟨cArm x⟩) wfArm oneArm))] []) 300 (.code false (loopIn Tryz.prog 155 2) (stOf 100 35 [0,1,3,8,13,14,15] [] (ILw cArm oneArm 156 kd preW0 l i))) (roundQ 100 [0,1,3,8,13,14,15] [0,1,8] 35 []
   (fun vals objs=>∃a':{i:Nat // i<=l.length},l.length-a'.1<l.length-i.1/\Wk 100 (100+1) vals objs (ILw cArm oneArm 156 kd preW0 l a').1 (ILw cArm oneArm 156 kd preW0 l a').2/\∀e v o,RLw oneArm kd preW0 l e v o->RLw oneArm kd preW0 l e v o)
   (fun e vals objs=>∃v o,Wk 100 (100+1) vals objs v o/\RLw oneArm kd preW0 l e v o))):=by
 refine⟨?_⟩
 obtain⟨i,hi⟩:=i
 show gL0ArmR (real Tryz.prog) (MF (fun x:Arm => .agg ⟨cArm x⟩) wfArm oneArm) (some (wrC (.slice none 0 0))) (tk oneArm l i).length (mo (strV (tk oneArm l i)) 9 1) kd (rowsOf cArm l) (l.length:Int) (i:Int) _ _
 rw[gL0ArmR_eq]
 have hT:tops=140737488355328:=rfl
 have htk:=tk_len oneArm hi
 refine n_ltN (fun hlt=>?_) (fun hge=>?_)
 ·have hx:l[i]?=some l[i]:=by simp[hlt]
  generalize l[i]=x at hx
  have hx2:=tk_succ (one:=oneArm) hx
  have hlen:=congrArg List.length hx2
  rw[List.length_append,strV_len,strV_len]at hlen
  refine n_dget i rfl (rowsOf_get hx) rfl (n_rdI rfl (n_rdI rfl (⟨x,rfl,hw x (List.mem_of_getElem? hx),n_base_mo (by rw[strV_len,Nat.mul_one]) (by omega) (n_appX (by omega) rfl rfl (by omega) (by omega) (n_inc (by omega) ⟨rfl,⟨i+1,hlt⟩,?_,?_,fun _ _ _ h=>h⟩))⟩)))
  ·show l.length-(i+1)<l.length-i
   omega
  ·show Wk 100 (100+1) _ _ ([pW,.int .u8 kd,fnV 156]++mkS (100+1) (tk oneArm l (i+1)).length::_) (preW0++[mo (strV (tk oneArm l (i+1))) 9 1])
   rw[←hx2,mo_ne (by simp),←hlen]
   exact wk_outG (k0:=1) (j:=4) (va:=[pW,.int .u8 kd,fnV 156]) (by omega) rfl (by rw[hx2];exact belowStr 0 _) rfl rfl (by simp) rfl (preW0_ok rfl)
 ·have e:i=l.length:=by omega
  subst e
  refine⟨rfl,[pW,.int .u8 kd,mkS (100+1) (l.map oneArm).length],preW0++[mo (strV (l.map oneArm)) 9 1],?_,rfl,rfl,rfl⟩
  rw[tk_all];exact Wk.refl _ _ _ _
theorem lpL0Arm(kd:Int)(l:List Arm)(hl:l.length<1000)(hw:∀x∈l,wfArm x):LoopOk Tryz.prog 100 [0,1,3,8,13,14,15] (sLoopL (LLw cArm oneArm 155 156 kd preW0 l)):=by
 show LoopOk Tryz.prog 100 [0,1,3,8,13,14,15] (lpS [0,1,8] _)
 refine lp_mk okp (W:=howOf sy1 Sp0 [] [] [(156,sF (MF (fun x:Arm => .agg ⟨cArm x⟩) wfArm oneArm))] []) (kn_pu (pu1 pu92)) lp_none ?_
 intro c n vals obs K h
 split at h<;>try exact h.elim
 obtain⟨hc,hn,hv2,ho,hA⟩:=h
 subst hc;subst hn;subst ho
 simp only[List.cons.injEq]at hv2
 obtain⟨rfl,rfl,rfl⟩:=hv2
 refine⟨{i:Nat // i<=l.length},1,300,fun a=>l.length-a.1,ILw cArm oneArm 156 kd preW0 l,fun _ e v o=>RLw oneArm kd preW0 l e v o,⟨0,Nat.zero_le _⟩,rfl,?_,?_,rndL0Arm kd l hl hw⟩
 ·exact wk_nilG (va:=[pW,.int .u8 kd,fnV 156])
 ·intro e v o hR
  obtain⟨rfl,rfl,rfl⟩:=hR
  exact hA
theorem rndL1Arm(len:Nat)(vs:List Value)(hv:belowL (100+2) vs=true)(kd:Int)(l:List Arm)(hl:l.length<1000)(hw:∀x∈l,wfArm x)(i:{i:Nat // i<=l.length}):
  Is (wpe Tryz.prog (real Tryz.prog) (howOf sy12 Sp0 [] [] [(156,sF (MF (fun x:Arm => .agg ⟨cArm x⟩) wfArm oneArm))] []) 300 (.code false (loopIn Tryz.prog 155 2) (stOf 100 35 [0,1,3,8,13,14,15] [] (ILw cArm oneArm 156 kd (preW1 len vs) l i))) (roundQ 100 [0,1,3,8,13,14,15] [0,1,8] 35 []
   (fun vals objs=>∃a':{i:Nat // i<=l.length},l.length-a'.1<l.length-i.1/\Wk 100 (100+2) vals objs (ILw cArm oneArm 156 kd (preW1 len vs) l a').1 (ILw cArm oneArm 156 kd (preW1 len vs) l a').2/\∀e v o,RLw oneArm kd (preW1 len vs) l e v o->RLw oneArm kd (preW1 len vs) l e v o)
   (fun e vals objs=>∃v o,Wk 100 (100+2) vals objs v o/\RLw oneArm kd (preW1 len vs) l e v o))):=by
 refine⟨?_⟩
 obtain⟨i,hi⟩:=i
 show gL1ArmR (real Tryz.prog) (MF (fun x:Arm => .agg ⟨cArm x⟩) wfArm oneArm) (some (wrC (.slice (some ⟨101,0,none⟩) len len))) (some (.cells vs 94 2 true true)) (tk oneArm l i).length (mo (strV (tk oneArm l i)) 9 1) kd (rowsOf cArm l) (l.length:Int) (i:Int) _ _
 rw[gL1ArmR_eq]
 have hT:tops=140737488355328:=rfl
 have htk:=tk_len oneArm hi
 refine n_ltN (fun hlt=>?_) (fun hge=>?_)
 ·have hx:l[i]?=some l[i]:=by simp[hlt]
  generalize l[i]=x at hx
  have hx2:=tk_succ (one:=oneArm) hx
  have hlen:=congrArg List.length hx2
  rw[List.length_append,strV_len,strV_len]at hlen
  refine n_dget i rfl (rowsOf_get hx) rfl (n_rdI rfl (n_rdI rfl (⟨x,rfl,hw x (List.mem_of_getElem? hx),n_base_mo (by rw[strV_len,Nat.mul_one]) (by omega) (n_appX (by omega) rfl rfl (by omega) (by omega) (n_inc (by omega) ⟨rfl,⟨i+1,hlt⟩,?_,?_,fun _ _ _ h=>h⟩))⟩)))
  ·show l.length-(i+1)<l.length-i
   omega
  ·show Wk 100 (100+2) _ _ ([pW,.int .u8 kd,fnV 156]++mkS (100+2) (tk oneArm l (i+1)).length::_) ((preW1 len vs)++[mo (strV (tk oneArm l (i+1))) 9 1])
   rw[←hx2,mo_ne (by simp),←hlen]
   exact wk_outG (k0:=2) (j:=5) (va:=[pW,.int .u8 kd,fnV 156]) (by omega) rfl (by rw[hx2];exact belowStr 0 _) rfl rfl (by simp) rfl (preW1_ok hv rfl rfl)
 ·have e:i=l.length:=by omega
  subst e
  refine⟨rfl,[pW,.int .u8 kd,mkS (100+2) (l.map oneArm).length],(preW1 len vs)++[mo (strV (l.map oneArm)) 9 1],?_,rfl,rfl,rfl⟩
  rw[tk_all];exact Wk.refl _ _ _ _
theorem lpL1Arm(len:Nat)(vs:List Value)(hv:belowL (100+2) vs=true)(kd:Int)(l:List Arm)(hl:l.length<1000)(hw:∀x∈l,wfArm x):LoopOk Tryz.prog 100 [0,1,3,8,13,14,15] (sLoopL (LLw cArm oneArm 155 156 kd (preW1 len vs) l)):=by
 show LoopOk Tryz.prog 100 [0,1,3,8,13,14,15] (lpS [0,1,8] _)
 refine lp_mk okp (W:=howOf sy12 Sp0 [] [] [(156,sF (MF (fun x:Arm => .agg ⟨cArm x⟩) wfArm oneArm))] []) (kn_pu (pu1 pu92)) lp_none ?_
 intro c n vals obs K h
 split at h<;>try exact h.elim
 obtain⟨hc,hn,hv2,ho,hA⟩:=h
 subst hc;subst hn;subst ho
 simp only[List.cons.injEq]at hv2
 obtain⟨rfl,rfl,rfl⟩:=hv2
 refine⟨{i:Nat // i<=l.length},2,300,fun a=>l.length-a.1,ILw cArm oneArm 156 kd (preW1 len vs) l,fun _ e v o=>RLw oneArm kd (preW1 len vs) l e v o,⟨0,Nat.zero_le _⟩,rfl,?_,?_,rndL1Arm len vs hv kd l hl hw⟩
 ·exact wk_nilG (va:=[pW,.int .u8 kd,fnV 156])
 ·intro e v o hR
  obtain⟨rfl,rfl,rfl⟩:=hR
  exact hA
theorem l0EArm(k:Nat)(hk:k<256)(l:List Arm)(hl:l.length<1000)(hs:(bytesOf (listS (l.map oneArm))).data.toList=[]):
  Is (gL0Arm (real Tryz.prog) MR MSr (LLw cArm oneArm 155 156 k preW0 l) (k:Int) (rowsOf cArm l) (QT [some (wrC (.slice none 0 0))])):=by
 refine⟨?_⟩
 rw[gL0Arm_eq]
 exact n_dlen l.length (rowsOf_len _ _) ⟨rfl,rfl,rfl,rfl,rfl,l.map oneArm,by rw[List.length_map];omega,rfl,rfl,rfl,t0_mk k hk (fun _=>⟨rfl,wk_drop (k0:=1) (pre:=[some (wrC (.slice none 0 0))]) rfl rfl (fun i o h=>(preW0_ok (objs:=preW0) rfl i o h).2)⟩) (fun h=>absurd hs h)⟩
theorem l0CArm(k:Nat)(hk:k<256)(l:List Arm)(hl:l.length<1000)(hs:(bytesOf (listS (l.map oneArm))).data.toList≠[]):
  Is (gL0Arm (real Tryz.prog) MR MSr (LLw cArm oneArm 155 156 k preW0 l) (k:Int) (rowsOf cArm l) (QT [some (wrC (.slice (some ⟨101,0,none⟩) 1 1)),some (.cells (cellsA [⟨k,bytesOf (listS (l.map oneArm))⟩]) 94 2 true true)])):=by
 refine⟨?_⟩
 rw[gL0Arm_eq]
 exact n_dlen l.length (rowsOf_len _ _) ⟨rfl,rfl,rfl,rfl,rfl,l.map oneArm,by rw[List.length_map];omega,rfl,rfl,rfl,t0_mk k hk (fun h=>absurd h hs) (fun _=>⟨rfl,wr_wk 2 (by omega) rfl rfl rfl⟩)⟩
theorem l1CArm(k:Nat)(hk:k<256)(l:List Arm)(hl:l.length<1000){len:Nat}{vs:List Value}{L:List At}(hL:isA len vs L):
  Is (gL1Arm (real Tryz.prog) MR MSr (LLw cArm oneArm 155 156 k (preW1 len vs) l) len vs (k:Int) (rowsOf cArm l) (QT2 [some (wrC (.slice (some ⟨102,0,none⟩) (addT L k (bytesOf (listS (l.map oneArm)))).length (addT L k (bytesOf (listS (l.map oneArm)))).length)),none,some (.cells (cellsA (addT L k (bytesOf (listS (l.map oneArm))))) 94 2 true true)])):=by
 refine⟨?_⟩
 rw[gL1Arm_eq]
 exact n_dlen l.length (rowsOf_len _ _) ⟨rfl,rfl,rfl,rfl,rfl,l.map oneArm,by rw[List.length_map];omega,rfl,rfl,rfl,L,k,rfl,hk,hL,rfl,wr_wk2 3 (by omega) rfl rfl (cellsA_below _)⟩
theorem ok91:SumOk Tryz.prog 100 155 (sListW 156 MR (MLr cArm wfArm oneArm)):=by
 intro args H K h
 unfold sListW at h
 split at h<;>try exact h.elim
 rename_i a kind tt rs gg x y
 split at h<;>try exact h.elim
 rename_i e1 e2
 obtain rfl:=Nat.eq_of_beq_eq_true e1
 obtain rfl:=Nat.eq_of_beq_eq_true e2
 obtain⟨l,rfl,hl,hw,h⟩:=h
 refine wr_ok (rest:=[.int .u8 kind,dsl (rowsOf cArm l),fnV 156]) rfl ?_ ?_ h
 ·rintro A B' ⟨k,rfl,hk,hA,hB⟩
  by_cases hs:(bytesOf (listS (l.map oneArm))).data.toList=[]
  ·exact .inl ⟨hA hs,fun B=>callT kn125 (lp1 (lpL0Arm k l hl hw)) (l0EArm k hk l hl hs) B⟩
  ·exact .inr ⟨_,cellsA_below _,hB hs,fun B=>callT kn125 (lp1 (lpL0Arm k l hl hw)) (l0CArm k hk l hl hs) B⟩
 ·rintro len vs K ⟨L,k,rfl,hk,hL,hK⟩
  exact⟨_,_,by rw[hL.1];exact cellsA_below _,cellsA_below _,hK,fun B=>callT2 kn125 (lp1 (lpL1Arm len vs (by rw[hL.1];exact cellsA_belowN _ _) k l hl hw)) (l1CArm k hk l hl hL) B⟩
theorem rndL0Instr(kd:Int)(l:List Instr)(hl:l.length<1000)(hw:∀x∈l,wfInstr x)(i:{i:Nat // i<=l.length}):
  Is (wpe Tryz.prog (real Tryz.prog) (howOf sy1 Sp0 [] [] [(190,sF (MF (fun x:Instr => .agg ⟨cInstr x⟩) wfInstr oneInstr))] []) 300 (.code false (loopIn Tryz.prog 189 2) (stOf 100 35 [0,1,3,8,13,14,15] [] (ILw cInstr oneInstr 190 kd preW0 l i))) (roundQ 100 [0,1,3,8,13,14,15] [0,1,8] 35 []
   (fun vals objs=>∃a':{i:Nat // i<=l.length},l.length-a'.1<l.length-i.1/\Wk 100 (100+1) vals objs (ILw cInstr oneInstr 190 kd preW0 l a').1 (ILw cInstr oneInstr 190 kd preW0 l a').2/\∀e v o,RLw oneInstr kd preW0 l e v o->RLw oneInstr kd preW0 l e v o)
   (fun e vals objs=>∃v o,Wk 100 (100+1) vals objs v o/\RLw oneInstr kd preW0 l e v o))):=by
 refine⟨?_⟩
 obtain⟨i,hi⟩:=i
 show gL0InstrR (real Tryz.prog) (MF (fun x:Instr => .agg ⟨cInstr x⟩) wfInstr oneInstr) (some (wrC (.slice none 0 0))) (tk oneInstr l i).length (mo (strV (tk oneInstr l i)) 9 1) kd (rowsOf cInstr l) (l.length:Int) (i:Int) _ _
 rw[gL0InstrR_eq]
 have hT:tops=140737488355328:=rfl
 have htk:=tk_len oneInstr hi
 refine n_ltN (fun hlt=>?_) (fun hge=>?_)
 ·have hx:l[i]?=some l[i]:=by simp[hlt]
  generalize l[i]=x at hx
  have hx2:=tk_succ (one:=oneInstr) hx
  have hlen:=congrArg List.length hx2
  rw[List.length_append,strV_len,strV_len]at hlen
  refine n_dget i rfl (rowsOf_get hx) rfl (n_rdI rfl (n_rdI rfl (n_rdI rfl (n_rdI rfl (n_rdI rfl (n_rdI rfl (n_rdI rfl (⟨x,rfl,hw x (List.mem_of_getElem? hx),n_base_mo (by rw[strV_len,Nat.mul_one]) (by omega) (n_appX (by omega) rfl rfl (by omega) (by omega) (n_inc (by omega) ⟨rfl,⟨i+1,hlt⟩,?_,?_,fun _ _ _ h=>h⟩))⟩))))))))
  ·show l.length-(i+1)<l.length-i
   omega
  ·show Wk 100 (100+1) _ _ ([pW,.int .u8 kd,fnV 190]++mkS (100+1) (tk oneInstr l (i+1)).length::_) (preW0++[mo (strV (tk oneInstr l (i+1))) 9 1])
   rw[←hx2,mo_ne (by simp),←hlen]
   exact wk_outG (k0:=1) (j:=4) (va:=[pW,.int .u8 kd,fnV 190]) (by omega) rfl (by rw[hx2];exact belowStr 0 _) rfl rfl (by simp) rfl (preW0_ok rfl)
 ·have e:i=l.length:=by omega
  subst e
  refine⟨rfl,[pW,.int .u8 kd,mkS (100+1) (l.map oneInstr).length],preW0++[mo (strV (l.map oneInstr)) 9 1],?_,rfl,rfl,rfl⟩
  rw[tk_all];exact Wk.refl _ _ _ _
theorem lpL0Instr(kd:Int)(l:List Instr)(hl:l.length<1000)(hw:∀x∈l,wfInstr x):LoopOk Tryz.prog 100 [0,1,3,8,13,14,15] (sLoopL (LLw cInstr oneInstr 189 190 kd preW0 l)):=by
 show LoopOk Tryz.prog 100 [0,1,3,8,13,14,15] (lpS [0,1,8] _)
 refine lp_mk okp (W:=howOf sy1 Sp0 [] [] [(190,sF (MF (fun x:Instr => .agg ⟨cInstr x⟩) wfInstr oneInstr))] []) (kn_pu (pu1 pu83)) lp_none ?_
 intro c n vals obs K h
 split at h<;>try exact h.elim
 obtain⟨hc,hn,hv2,ho,hA⟩:=h
 subst hc;subst hn;subst ho
 simp only[List.cons.injEq]at hv2
 obtain⟨rfl,rfl,rfl⟩:=hv2
 refine⟨{i:Nat // i<=l.length},1,300,fun a=>l.length-a.1,ILw cInstr oneInstr 190 kd preW0 l,fun _ e v o=>RLw oneInstr kd preW0 l e v o,⟨0,Nat.zero_le _⟩,rfl,?_,?_,rndL0Instr kd l hl hw⟩
 ·exact wk_nilG (va:=[pW,.int .u8 kd,fnV 190])
 ·intro e v o hR
  obtain⟨rfl,rfl,rfl⟩:=hR
  exact hA
theorem rndL1Instr(len:Nat)(vs:List Value)(hv:belowL (100+2) vs=true)(kd:Int)(l:List Instr)(hl:l.length<1000)(hw:∀x∈l,wfInstr x)(i:{i:Nat // i<=l.length}):
  Is (wpe Tryz.prog (real Tryz.prog) (howOf sy12 Sp0 [] [] [(190,sF (MF (fun x:Instr => .agg ⟨cInstr x⟩) wfInstr oneInstr))] []) 300 (.code false (loopIn Tryz.prog 189 2) (stOf 100 35 [0,1,3,8,13,14,15] [] (ILw cInstr oneInstr 190 kd (preW1 len vs) l i))) (roundQ 100 [0,1,3,8,13,14,15] [0,1,8] 35 []
   (fun vals objs=>∃a':{i:Nat // i<=l.length},l.length-a'.1<l.length-i.1/\Wk 100 (100+2) vals objs (ILw cInstr oneInstr 190 kd (preW1 len vs) l a').1 (ILw cInstr oneInstr 190 kd (preW1 len vs) l a').2/\∀e v o,RLw oneInstr kd (preW1 len vs) l e v o->RLw oneInstr kd (preW1 len vs) l e v o)
   (fun e vals objs=>∃v o,Wk 100 (100+2) vals objs v o/\RLw oneInstr kd (preW1 len vs) l e v o))):=by
 refine⟨?_⟩
 obtain⟨i,hi⟩:=i
 show gL1InstrR (real Tryz.prog) (MF (fun x:Instr => .agg ⟨cInstr x⟩) wfInstr oneInstr) (some (wrC (.slice (some ⟨101,0,none⟩) len len))) (some (.cells vs 94 2 true true)) (tk oneInstr l i).length (mo (strV (tk oneInstr l i)) 9 1) kd (rowsOf cInstr l) (l.length:Int) (i:Int) _ _
 rw[gL1InstrR_eq]
 have hT:tops=140737488355328:=rfl
 have htk:=tk_len oneInstr hi
 refine n_ltN (fun hlt=>?_) (fun hge=>?_)
 ·have hx:l[i]?=some l[i]:=by simp[hlt]
  generalize l[i]=x at hx
  have hx2:=tk_succ (one:=oneInstr) hx
  have hlen:=congrArg List.length hx2
  rw[List.length_append,strV_len,strV_len]at hlen
  refine n_dget i rfl (rowsOf_get hx) rfl (n_rdI rfl (n_rdI rfl (n_rdI rfl (n_rdI rfl (n_rdI rfl (n_rdI rfl (n_rdI rfl (⟨x,rfl,hw x (List.mem_of_getElem? hx),n_base_mo (by rw[strV_len,Nat.mul_one]) (by omega) (n_appX (by omega) rfl rfl (by omega) (by omega) (n_inc (by omega) ⟨rfl,⟨i+1,hlt⟩,?_,?_,fun _ _ _ h=>h⟩))⟩))))))))
  ·show l.length-(i+1)<l.length-i
   omega
  ·show Wk 100 (100+2) _ _ ([pW,.int .u8 kd,fnV 190]++mkS (100+2) (tk oneInstr l (i+1)).length::_) ((preW1 len vs)++[mo (strV (tk oneInstr l (i+1))) 9 1])
   rw[←hx2,mo_ne (by simp),←hlen]
   exact wk_outG (k0:=2) (j:=5) (va:=[pW,.int .u8 kd,fnV 190]) (by omega) rfl (by rw[hx2];exact belowStr 0 _) rfl rfl (by simp) rfl (preW1_ok hv rfl rfl)
 ·have e:i=l.length:=by omega
  subst e
  refine⟨rfl,[pW,.int .u8 kd,mkS (100+2) (l.map oneInstr).length],(preW1 len vs)++[mo (strV (l.map oneInstr)) 9 1],?_,rfl,rfl,rfl⟩
  rw[tk_all];exact Wk.refl _ _ _ _
theorem lpL1Instr(len:Nat)(vs:List Value)(hv:belowL (100+2) vs=true)(kd:Int)(l:List Instr)(hl:l.length<1000)(hw:∀x∈l,wfInstr x):LoopOk Tryz.prog 100 [0,1,3,8,13,14,15] (sLoopL (LLw cInstr oneInstr 189 190 kd (preW1 len vs) l)):=by
 show LoopOk Tryz.prog 100 [0,1,3,8,13,14,15] (lpS [0,1,8] _)
 refine lp_mk okp (W:=howOf sy12 Sp0 [] [] [(190,sF (MF (fun x:Instr => .agg ⟨cInstr x⟩) wfInstr oneInstr))] []) (kn_pu (pu1 pu83)) lp_none ?_
 intro c n vals obs K h
 split at h<;>try exact h.elim
 obtain⟨hc,hn,hv2,ho,hA⟩:=h
 subst hc;subst hn;subst ho
 simp only[List.cons.injEq]at hv2
 obtain⟨rfl,rfl,rfl⟩:=hv2
 refine⟨{i:Nat // i<=l.length},2,300,fun a=>l.length-a.1,ILw cInstr oneInstr 190 kd (preW1 len vs) l,fun _ e v o=>RLw oneInstr kd (preW1 len vs) l e v o,⟨0,Nat.zero_le _⟩,rfl,?_,?_,rndL1Instr len vs hv kd l hl hw⟩
 ·exact wk_nilG (va:=[pW,.int .u8 kd,fnV 190])
 ·intro e v o hR
  obtain⟨rfl,rfl,rfl⟩:=hR
  exact hA
theorem l0EInstr(k:Nat)(hk:k<256)(l:List Instr)(hl:l.length<1000)(hs:(bytesOf (listS (l.map oneInstr))).data.toList=[]):
  Is (gL0Instr (real Tryz.prog) MR MSr (LLw cInstr oneInstr 189 190 k preW0 l) (k:Int) (rowsOf cInstr l) (QT [some (wrC (.slice none 0 0))])):=by
 refine⟨?_⟩
 rw[gL0Instr_eq]
 exact n_dlen l.length (rowsOf_len _ _) ⟨rfl,rfl,rfl,rfl,rfl,l.map oneInstr,by rw[List.length_map];omega,rfl,rfl,rfl,t0_mk k hk (fun _=>⟨rfl,wk_drop (k0:=1) (pre:=[some (wrC (.slice none 0 0))]) rfl rfl (fun i o h=>(preW0_ok (objs:=preW0) rfl i o h).2)⟩) (fun h=>absurd hs h)⟩
theorem l0CInstr(k:Nat)(hk:k<256)(l:List Instr)(hl:l.length<1000)(hs:(bytesOf (listS (l.map oneInstr))).data.toList≠[]):
  Is (gL0Instr (real Tryz.prog) MR MSr (LLw cInstr oneInstr 189 190 k preW0 l) (k:Int) (rowsOf cInstr l) (QT [some (wrC (.slice (some ⟨101,0,none⟩) 1 1)),some (.cells (cellsA [⟨k,bytesOf (listS (l.map oneInstr))⟩]) 94 2 true true)])):=by
 refine⟨?_⟩
 rw[gL0Instr_eq]
 exact n_dlen l.length (rowsOf_len _ _) ⟨rfl,rfl,rfl,rfl,rfl,l.map oneInstr,by rw[List.length_map];omega,rfl,rfl,rfl,t0_mk k hk (fun h=>absurd h hs) (fun _=>⟨rfl,wr_wk 2 (by omega) rfl rfl rfl⟩)⟩
theorem l1CInstr(k:Nat)(hk:k<256)(l:List Instr)(hl:l.length<1000){len:Nat}{vs:List Value}{L:List At}(hL:isA len vs L):
  Is (gL1Instr (real Tryz.prog) MR MSr (LLw cInstr oneInstr 189 190 k (preW1 len vs) l) len vs (k:Int) (rowsOf cInstr l) (QT2 [some (wrC (.slice (some ⟨102,0,none⟩) (addT L k (bytesOf (listS (l.map oneInstr)))).length (addT L k (bytesOf (listS (l.map oneInstr)))).length)),none,some (.cells (cellsA (addT L k (bytesOf (listS (l.map oneInstr))))) 94 2 true true)])):=by
 refine⟨?_⟩
 rw[gL1Instr_eq]
 exact n_dlen l.length (rowsOf_len _ _) ⟨rfl,rfl,rfl,rfl,rfl,l.map oneInstr,by rw[List.length_map];omega,rfl,rfl,rfl,L,k,rfl,hk,hL,rfl,wr_wk2 3 (by omega) rfl rfl (cellsA_below _)⟩
theorem ok82:SumOk Tryz.prog 100 189 (sListW 190 MR (MLr cInstr wfInstr oneInstr)):=by
 intro args H K h
 unfold sListW at h
 split at h<;>try exact h.elim
 rename_i a kind tt rs gg x y
 split at h<;>try exact h.elim
 rename_i e1 e2
 obtain rfl:=Nat.eq_of_beq_eq_true e1
 obtain rfl:=Nat.eq_of_beq_eq_true e2
 obtain⟨l,rfl,hl,hw,h⟩:=h
 refine wr_ok (rest:=[.int .u8 kind,dsl (rowsOf cInstr l),fnV 190]) rfl ?_ ?_ h
 ·rintro A B' ⟨k,rfl,hk,hA,hB⟩
  by_cases hs:(bytesOf (listS (l.map oneInstr))).data.toList=[]
  ·exact .inl ⟨hA hs,fun B=>callT kn125 (lp1 (lpL0Instr k l hl hw)) (l0EInstr k hk l hl hs) B⟩
  ·exact .inr ⟨_,cellsA_below _,hB hs,fun B=>callT kn125 (lp1 (lpL0Instr k l hl hw)) (l0CInstr k hk l hl hs) B⟩
 ·rintro len vs K ⟨L,k,rfl,hk,hL,hK⟩
  exact⟨_,_,by rw[hL.1];exact cellsA_below _,cellsA_below _,hK,fun B=>callT2 kn125 (lp1 (lpL1Instr len vs (by rw[hL.1];exact cellsA_belowN _ _) k l hl hw)) (l1CInstr k hk l hl hL) B⟩
theorem rndL0Bucket(kd:Int)(l:List Bucket)(hl:l.length<1000)(hw:∀x∈l,wfBucket x)(i:{i:Nat // i<=l.length}):
  Is (wpe Tryz.prog (real Tryz.prog) (howOf sy1 Sp0 [] [] [(198,sF (MF (fun x:Bucket => .agg ⟨cBucket x⟩) wfBucket oneBucket))] []) 300 (.code false (loopIn Tryz.prog 197 2) (stOf 100 35 [0,1,3,8,13,14,15] [] (ILw cBucket oneBucket 198 kd preW0 l i))) (roundQ 100 [0,1,3,8,13,14,15] [0,1,8] 35 []
   (fun vals objs=>∃a':{i:Nat // i<=l.length},l.length-a'.1<l.length-i.1/\Wk 100 (100+1) vals objs (ILw cBucket oneBucket 198 kd preW0 l a').1 (ILw cBucket oneBucket 198 kd preW0 l a').2/\∀e v o,RLw oneBucket kd preW0 l e v o->RLw oneBucket kd preW0 l e v o)
   (fun e vals objs=>∃v o,Wk 100 (100+1) vals objs v o/\RLw oneBucket kd preW0 l e v o))):=by
 refine⟨?_⟩
 obtain⟨i,hi⟩:=i
 show gL0BucketR (real Tryz.prog) (MF (fun x:Bucket => .agg ⟨cBucket x⟩) wfBucket oneBucket) (some (wrC (.slice none 0 0))) (tk oneBucket l i).length (mo (strV (tk oneBucket l i)) 9 1) kd (rowsOf cBucket l) (l.length:Int) (i:Int) _ _
 rw[gL0BucketR_eq]
 have hT:tops=140737488355328:=rfl
 have htk:=tk_len oneBucket hi
 refine n_ltN (fun hlt=>?_) (fun hge=>?_)
 ·have hx:l[i]?=some l[i]:=by simp[hlt]
  generalize l[i]=x at hx
  have hx2:=tk_succ (one:=oneBucket) hx
  have hlen:=congrArg List.length hx2
  rw[List.length_append,strV_len,strV_len]at hlen
  refine n_dget i rfl (rowsOf_get hx) rfl (n_rdI rfl (n_rdI rfl (⟨x,rfl,hw x (List.mem_of_getElem? hx),n_base_mo (by rw[strV_len,Nat.mul_one]) (by omega) (n_appX (by omega) rfl rfl (by omega) (by omega) (n_inc (by omega) ⟨rfl,⟨i+1,hlt⟩,?_,?_,fun _ _ _ h=>h⟩))⟩)))
  ·show l.length-(i+1)<l.length-i
   omega
  ·show Wk 100 (100+1) _ _ ([pW,.int .u8 kd,fnV 198]++mkS (100+1) (tk oneBucket l (i+1)).length::_) (preW0++[mo (strV (tk oneBucket l (i+1))) 9 1])
   rw[←hx2,mo_ne (by simp),←hlen]
   exact wk_outG (k0:=1) (j:=4) (va:=[pW,.int .u8 kd,fnV 198]) (by omega) rfl (by rw[hx2];exact belowStr 0 _) rfl rfl (by simp) rfl (preW0_ok rfl)
 ·have e:i=l.length:=by omega
  subst e
  refine⟨rfl,[pW,.int .u8 kd,mkS (100+1) (l.map oneBucket).length],preW0++[mo (strV (l.map oneBucket)) 9 1],?_,rfl,rfl,rfl⟩
  rw[tk_all];exact Wk.refl _ _ _ _
theorem lpL0Bucket(kd:Int)(l:List Bucket)(hl:l.length<1000)(hw:∀x∈l,wfBucket x):LoopOk Tryz.prog 100 [0,1,3,8,13,14,15] (sLoopL (LLw cBucket oneBucket 197 198 kd preW0 l)):=by
 show LoopOk Tryz.prog 100 [0,1,3,8,13,14,15] (lpS [0,1,8] _)
 refine lp_mk okp (W:=howOf sy1 Sp0 [] [] [(198,sF (MF (fun x:Bucket => .agg ⟨cBucket x⟩) wfBucket oneBucket))] []) (kn_pu (pu1 pu99)) lp_none ?_
 intro c n vals obs K h
 split at h<;>try exact h.elim
 obtain⟨hc,hn,hv2,ho,hA⟩:=h
 subst hc;subst hn;subst ho
 simp only[List.cons.injEq]at hv2
 obtain⟨rfl,rfl,rfl⟩:=hv2
 refine⟨{i:Nat // i<=l.length},1,300,fun a=>l.length-a.1,ILw cBucket oneBucket 198 kd preW0 l,fun _ e v o=>RLw oneBucket kd preW0 l e v o,⟨0,Nat.zero_le _⟩,rfl,?_,?_,rndL0Bucket kd l hl hw⟩
 ·exact wk_nilG (va:=[pW,.int .u8 kd,fnV 198])
 ·intro e v o hR
  obtain⟨rfl,rfl,rfl⟩:=hR
  exact hA
theorem rndL1Bucket(len:Nat)(vs:List Value)(hv:belowL (100+2) vs=true)(kd:Int)(l:List Bucket)(hl:l.length<1000)(hw:∀x∈l,wfBucket x)(i:{i:Nat // i<=l.length}):
  Is (wpe Tryz.prog (real Tryz.prog) (howOf sy12 Sp0 [] [] [(198,sF (MF (fun x:Bucket => .agg ⟨cBucket x⟩) wfBucket oneBucket))] []) 300 (.code false (loopIn Tryz.prog 197 2) (stOf 100 35 [0,1,3,8,13,14,15] [] (ILw cBucket oneBucket 198 kd (preW1 len vs) l i))) (roundQ 100 [0,1,3,8,13,14,15] [0,1,8] 35 []
   (fun vals objs=>∃a':{i:Nat // i<=l.length},l.length-a'.1<l.length-i.1/\Wk 100 (100+2) vals objs (ILw cBucket oneBucket 198 kd (preW1 len vs) l a').1 (ILw cBucket oneBucket 198 kd (preW1 len vs) l a').2/\∀e v o,RLw oneBucket kd (preW1 len vs) l e v o->RLw oneBucket kd (preW1 len vs) l e v o)
   (fun e vals objs=>∃v o,Wk 100 (100+2) vals objs v o/\RLw oneBucket kd (preW1 len vs) l e v o))):=by
 refine⟨?_⟩
 obtain⟨i,hi⟩:=i
 show gL1BucketR (real Tryz.prog) (MF (fun x:Bucket => .agg ⟨cBucket x⟩) wfBucket oneBucket) (some (wrC (.slice (some ⟨101,0,none⟩) len len))) (some (.cells vs 94 2 true true)) (tk oneBucket l i).length (mo (strV (tk oneBucket l i)) 9 1) kd (rowsOf cBucket l) (l.length:Int) (i:Int) _ _
 rw[gL1BucketR_eq]
 have hT:tops=140737488355328:=rfl
 have htk:=tk_len oneBucket hi
 refine n_ltN (fun hlt=>?_) (fun hge=>?_)
 ·have hx:l[i]?=some l[i]:=by simp[hlt]
  generalize l[i]=x at hx
  have hx2:=tk_succ (one:=oneBucket) hx
  have hlen:=congrArg List.length hx2
  rw[List.length_append,strV_len,strV_len]at hlen
  refine n_dget i rfl (rowsOf_get hx) rfl (n_rdI rfl (n_rdI rfl (⟨x,rfl,hw x (List.mem_of_getElem? hx),n_base_mo (by rw[strV_len,Nat.mul_one]) (by omega) (n_appX (by omega) rfl rfl (by omega) (by omega) (n_inc (by omega) ⟨rfl,⟨i+1,hlt⟩,?_,?_,fun _ _ _ h=>h⟩))⟩)))
  ·show l.length-(i+1)<l.length-i
   omega
  ·show Wk 100 (100+2) _ _ ([pW,.int .u8 kd,fnV 198]++mkS (100+2) (tk oneBucket l (i+1)).length::_) ((preW1 len vs)++[mo (strV (tk oneBucket l (i+1))) 9 1])
   rw[←hx2,mo_ne (by simp),←hlen]
   exact wk_outG (k0:=2) (j:=5) (va:=[pW,.int .u8 kd,fnV 198]) (by omega) rfl (by rw[hx2];exact belowStr 0 _) rfl rfl (by simp) rfl (preW1_ok hv rfl rfl)
 ·have e:i=l.length:=by omega
  subst e
  refine⟨rfl,[pW,.int .u8 kd,mkS (100+2) (l.map oneBucket).length],(preW1 len vs)++[mo (strV (l.map oneBucket)) 9 1],?_,rfl,rfl,rfl⟩
  rw[tk_all];exact Wk.refl _ _ _ _
theorem lpL1Bucket(len:Nat)(vs:List Value)(hv:belowL (100+2) vs=true)(kd:Int)(l:List Bucket)(hl:l.length<1000)(hw:∀x∈l,wfBucket x):LoopOk Tryz.prog 100 [0,1,3,8,13,14,15] (sLoopL (LLw cBucket oneBucket 197 198 kd (preW1 len vs) l)):=by
 show LoopOk Tryz.prog 100 [0,1,3,8,13,14,15] (lpS [0,1,8] _)
 refine lp_mk okp (W:=howOf sy12 Sp0 [] [] [(198,sF (MF (fun x:Bucket => .agg ⟨cBucket x⟩) wfBucket oneBucket))] []) (kn_pu (pu1 pu99)) lp_none ?_
 intro c n vals obs K h
 split at h<;>try exact h.elim
 obtain⟨hc,hn,hv2,ho,hA⟩:=h
 subst hc;subst hn;subst ho
 simp only[List.cons.injEq]at hv2
 obtain⟨rfl,rfl,rfl⟩:=hv2
 refine⟨{i:Nat // i<=l.length},2,300,fun a=>l.length-a.1,ILw cBucket oneBucket 198 kd (preW1 len vs) l,fun _ e v o=>RLw oneBucket kd (preW1 len vs) l e v o,⟨0,Nat.zero_le _⟩,rfl,?_,?_,rndL1Bucket len vs hv kd l hl hw⟩
 ·exact wk_nilG (va:=[pW,.int .u8 kd,fnV 198])
 ·intro e v o hR
  obtain⟨rfl,rfl,rfl⟩:=hR
  exact hA
theorem l0EBucket(k:Nat)(hk:k<256)(l:List Bucket)(hl:l.length<1000)(hs:(bytesOf (listS (l.map oneBucket))).data.toList=[]):
  Is (gL0Bucket (real Tryz.prog) MR MSr (LLw cBucket oneBucket 197 198 k preW0 l) (k:Int) (rowsOf cBucket l) (QT [some (wrC (.slice none 0 0))])):=by
 refine⟨?_⟩
 rw[gL0Bucket_eq]
 exact n_dlen l.length (rowsOf_len _ _) ⟨rfl,rfl,rfl,rfl,rfl,l.map oneBucket,by rw[List.length_map];omega,rfl,rfl,rfl,t0_mk k hk (fun _=>⟨rfl,wk_drop (k0:=1) (pre:=[some (wrC (.slice none 0 0))]) rfl rfl (fun i o h=>(preW0_ok (objs:=preW0) rfl i o h).2)⟩) (fun h=>absurd hs h)⟩
theorem l0CBucket(k:Nat)(hk:k<256)(l:List Bucket)(hl:l.length<1000)(hs:(bytesOf (listS (l.map oneBucket))).data.toList≠[]):
  Is (gL0Bucket (real Tryz.prog) MR MSr (LLw cBucket oneBucket 197 198 k preW0 l) (k:Int) (rowsOf cBucket l) (QT [some (wrC (.slice (some ⟨101,0,none⟩) 1 1)),some (.cells (cellsA [⟨k,bytesOf (listS (l.map oneBucket))⟩]) 94 2 true true)])):=by
 refine⟨?_⟩
 rw[gL0Bucket_eq]
 exact n_dlen l.length (rowsOf_len _ _) ⟨rfl,rfl,rfl,rfl,rfl,l.map oneBucket,by rw[List.length_map];omega,rfl,rfl,rfl,t0_mk k hk (fun h=>absurd h hs) (fun _=>⟨rfl,wr_wk 2 (by omega) rfl rfl rfl⟩)⟩
theorem l1CBucket(k:Nat)(hk:k<256)(l:List Bucket)(hl:l.length<1000){len:Nat}{vs:List Value}{L:List At}(hL:isA len vs L):
  Is (gL1Bucket (real Tryz.prog) MR MSr (LLw cBucket oneBucket 197 198 k (preW1 len vs) l) len vs (k:Int) (rowsOf cBucket l) (QT2 [some (wrC (.slice (some ⟨102,0,none⟩) (addT L k (bytesOf (listS (l.map oneBucket)))).length (addT L k (bytesOf (listS (l.map oneBucket)))).length)),none,some (.cells (cellsA (addT L k (bytesOf (listS (l.map oneBucket))))) 94 2 true true)])):=by
 refine⟨?_⟩
 rw[gL1Bucket_eq]
 exact n_dlen l.length (rowsOf_len _ _) ⟨rfl,rfl,rfl,rfl,rfl,l.map oneBucket,by rw[List.length_map];omega,rfl,rfl,rfl,L,k,rfl,hk,hL,rfl,wr_wk2 3 (by omega) rfl rfl (cellsA_below _)⟩
theorem ok98:SumOk Tryz.prog 100 197 (sListW 198 MR (MLr cBucket wfBucket oneBucket)):=by
 intro args H K h
 unfold sListW at h
 split at h<;>try exact h.elim
 rename_i a kind tt rs gg x y
 split at h<;>try exact h.elim
 rename_i e1 e2
 obtain rfl:=Nat.eq_of_beq_eq_true e1
 obtain rfl:=Nat.eq_of_beq_eq_true e2
 obtain⟨l,rfl,hl,hw,h⟩:=h
 refine wr_ok (rest:=[.int .u8 kind,dsl (rowsOf cBucket l),fnV 198]) rfl ?_ ?_ h
 ·rintro A B' ⟨k,rfl,hk,hA,hB⟩
  by_cases hs:(bytesOf (listS (l.map oneBucket))).data.toList=[]
  ·exact .inl ⟨hA hs,fun B=>callT kn125 (lp1 (lpL0Bucket k l hl hw)) (l0EBucket k hk l hl hs) B⟩
  ·exact .inr ⟨_,cellsA_below _,hB hs,fun B=>callT kn125 (lp1 (lpL0Bucket k l hl hw)) (l0CBucket k hk l hl hs) B⟩
 ·rintro len vs K ⟨L,k,rfl,hk,hL,hK⟩
  exact⟨_,_,by rw[hL.1];exact cellsA_below _,cellsA_below _,hK,fun B=>callT2 kn125 (lp1 (lpL1Bucket len vs (by rw[hL.1];exact cellsA_belowN _ _) k l hl hw)) (l1CBucket k hk l hl hL) B⟩
theorem rndL0Int(kd:Int)(l:List Int)(hl:l.length<1000)(hw:∀x∈l,wfInt x)(i:{i:Nat // i<=l.length}):
  Is (wpe Tryz.prog (real Tryz.prog) (howOf sy1 Sp0 [] [] [(172,sF (MF (fun n:Int => .int .i64 n) wfInt oneInt))] []) 300 (.code false (loopIn Tryz.prog 171 2) (stOf 100 35 [0,1,3,8,13,14,15] [] (ILw cInt oneInt 172 kd preW0 l i))) (roundQ 100 [0,1,3,8,13,14,15] [0,1,8] 35 []
   (fun vals objs=>∃a':{i:Nat // i<=l.length},l.length-a'.1<l.length-i.1/\Wk 100 (100+1) vals objs (ILw cInt oneInt 172 kd preW0 l a').1 (ILw cInt oneInt 172 kd preW0 l a').2/\∀e v o,RLw oneInt kd preW0 l e v o->RLw oneInt kd preW0 l e v o)
   (fun e vals objs=>∃v o,Wk 100 (100+1) vals objs v o/\RLw oneInt kd preW0 l e v o))):=by
 refine⟨?_⟩
 obtain⟨i,hi⟩:=i
 show gL0IntR (real Tryz.prog) (MF (fun n:Int => .int .i64 n) wfInt oneInt) (some (wrC (.slice none 0 0))) (tk oneInt l i).length (mo (strV (tk oneInt l i)) 9 1) kd (rowsOf cInt l) (l.length:Int) (i:Int) _ _
 rw[gL0IntR_eq]
 have hT:tops=140737488355328:=rfl
 have htk:=tk_len oneInt hi
 refine n_ltN (fun hlt=>?_) (fun hge=>?_)
 ·have hx:l[i]?=some l[i]:=by simp[hlt]
  generalize l[i]=x at hx
  have hx2:=tk_succ (one:=oneInt) hx
  have hlen:=congrArg List.length hx2
  rw[List.length_append,strV_len,strV_len]at hlen
  refine n_dget i rfl (rowsOf_get hx) rfl (n_rdI rfl (⟨x,rfl,hw x (List.mem_of_getElem? hx),n_base_mo (by rw[strV_len,Nat.mul_one]) (by omega) (n_appX (by omega) rfl rfl (by omega) (by omega) (n_inc (by omega) ⟨rfl,⟨i+1,hlt⟩,?_,?_,fun _ _ _ h=>h⟩))⟩))
  ·show l.length-(i+1)<l.length-i
   omega
  ·show Wk 100 (100+1) _ _ ([pW,.int .u8 kd,fnV 172]++mkS (100+1) (tk oneInt l (i+1)).length::_) (preW0++[mo (strV (tk oneInt l (i+1))) 9 1])
   rw[←hx2,mo_ne (by simp),←hlen]
   exact wk_outG (k0:=1) (j:=3) (va:=[pW,.int .u8 kd,fnV 172]) (by omega) rfl (by rw[hx2];exact belowStr 0 _) rfl rfl (by simp) rfl (preW0_ok rfl)
 ·have e:i=l.length:=by omega
  subst e
  refine⟨rfl,[pW,.int .u8 kd,mkS (100+1) (l.map oneInt).length],preW0++[mo (strV (l.map oneInt)) 9 1],?_,rfl,rfl,rfl⟩
  rw[tk_all];exact Wk.refl _ _ _ _
theorem lpL0Int(kd:Int)(l:List Int)(hl:l.length<1000)(hw:∀x∈l,wfInt x):LoopOk Tryz.prog 100 [0,1,3,8,13,14,15] (sLoopL (LLw cInt oneInt 171 172 kd preW0 l)):=by
 show LoopOk Tryz.prog 100 [0,1,3,8,13,14,15] (lpS [0,1,8] _)
 refine lp_mk okp (W:=howOf sy1 Sp0 [] [] [(172,sF (MF (fun n:Int => .int .i64 n) wfInt oneInt))] []) (kn_pu (pu1 pu94)) lp_none ?_
 intro c n vals obs K h
 split at h<;>try exact h.elim
 obtain⟨hc,hn,hv2,ho,hA⟩:=h
 subst hc;subst hn;subst ho
 simp only[List.cons.injEq]at hv2
 obtain⟨rfl,rfl,rfl⟩:=hv2
 refine⟨{i:Nat // i<=l.length},1,300,fun a=>l.length-a.1,ILw cInt oneInt 172 kd preW0 l,fun _ e v o=>RLw oneInt kd preW0 l e v o,⟨0,Nat.zero_le _⟩,rfl,?_,?_,rndL0Int kd l hl hw⟩
 ·exact wk_nilG (va:=[pW,.int .u8 kd,fnV 172])
 ·intro e v o hR
  obtain⟨rfl,rfl,rfl⟩:=hR
  exact hA
theorem rndL1Int(len:Nat)(vs:List Value)(hv:belowL (100+2) vs=true)(kd:Int)(l:List Int)(hl:l.length<1000)(hw:∀x∈l,wfInt x)(i:{i:Nat // i<=l.length}):
  Is (wpe Tryz.prog (real Tryz.prog) (howOf sy12 Sp0 [] [] [(172,sF (MF (fun n:Int => .int .i64 n) wfInt oneInt))] []) 300 (.code false (loopIn Tryz.prog 171 2) (stOf 100 35 [0,1,3,8,13,14,15] [] (ILw cInt oneInt 172 kd (preW1 len vs) l i))) (roundQ 100 [0,1,3,8,13,14,15] [0,1,8] 35 []
   (fun vals objs=>∃a':{i:Nat // i<=l.length},l.length-a'.1<l.length-i.1/\Wk 100 (100+2) vals objs (ILw cInt oneInt 172 kd (preW1 len vs) l a').1 (ILw cInt oneInt 172 kd (preW1 len vs) l a').2/\∀e v o,RLw oneInt kd (preW1 len vs) l e v o->RLw oneInt kd (preW1 len vs) l e v o)
   (fun e vals objs=>∃v o,Wk 100 (100+2) vals objs v o/\RLw oneInt kd (preW1 len vs) l e v o))):=by
 refine⟨?_⟩
 obtain⟨i,hi⟩:=i
 show gL1IntR (real Tryz.prog) (MF (fun n:Int => .int .i64 n) wfInt oneInt) (some (wrC (.slice (some ⟨101,0,none⟩) len len))) (some (.cells vs 94 2 true true)) (tk oneInt l i).length (mo (strV (tk oneInt l i)) 9 1) kd (rowsOf cInt l) (l.length:Int) (i:Int) _ _
 rw[gL1IntR_eq]
 have hT:tops=140737488355328:=rfl
 have htk:=tk_len oneInt hi
 refine n_ltN (fun hlt=>?_) (fun hge=>?_)
 ·have hx:l[i]?=some l[i]:=by simp[hlt]
  generalize l[i]=x at hx
  have hx2:=tk_succ (one:=oneInt) hx
  have hlen:=congrArg List.length hx2
  rw[List.length_append,strV_len,strV_len]at hlen
  refine n_dget i rfl (rowsOf_get hx) rfl (n_rdI rfl (⟨x,rfl,hw x (List.mem_of_getElem? hx),n_base_mo (by rw[strV_len,Nat.mul_one]) (by omega) (n_appX (by omega) rfl rfl (by omega) (by omega) (n_inc (by omega) ⟨rfl,⟨i+1,hlt⟩,?_,?_,fun _ _ _ h=>h⟩))⟩))
  ·show l.length-(i+1)<l.length-i
   omega
  ·show Wk 100 (100+2) _ _ ([pW,.int .u8 kd,fnV 172]++mkS (100+2) (tk oneInt l (i+1)).length::_) ((preW1 len vs)++[mo (strV (tk oneInt l (i+1))) 9 1])
   rw[←hx2,mo_ne (by simp),←hlen]
   exact wk_outG (k0:=2) (j:=4) (va:=[pW,.int .u8 kd,fnV 172]) (by omega) rfl (by rw[hx2];exact belowStr 0 _) rfl rfl (by simp) rfl (preW1_ok hv rfl rfl)
 ·have e:i=l.length:=by omega
  subst e
  refine⟨rfl,[pW,.int .u8 kd,mkS (100+2) (l.map oneInt).length],(preW1 len vs)++[mo (strV (l.map oneInt)) 9 1],?_,rfl,rfl,rfl⟩
  rw[tk_all];exact Wk.refl _ _ _ _
theorem lpL1Int(len:Nat)(vs:List Value)(hv:belowL (100+2) vs=true)(kd:Int)(l:List Int)(hl:l.length<1000)(hw:∀x∈l,wfInt x):LoopOk Tryz.prog 100 [0,1,3,8,13,14,15] (sLoopL (LLw cInt oneInt 171 172 kd (preW1 len vs) l)):=by
 show LoopOk Tryz.prog 100 [0,1,3,8,13,14,15] (lpS [0,1,8] _)
 refine lp_mk okp (W:=howOf sy12 Sp0 [] [] [(172,sF (MF (fun n:Int => .int .i64 n) wfInt oneInt))] []) (kn_pu (pu1 pu94)) lp_none ?_
 intro c n vals obs K h
 split at h<;>try exact h.elim
 obtain⟨hc,hn,hv2,ho,hA⟩:=h
 subst hc;subst hn;subst ho
 simp only[List.cons.injEq]at hv2
 obtain⟨rfl,rfl,rfl⟩:=hv2
 refine⟨{i:Nat // i<=l.length},2,300,fun a=>l.length-a.1,ILw cInt oneInt 172 kd (preW1 len vs) l,fun _ e v o=>RLw oneInt kd (preW1 len vs) l e v o,⟨0,Nat.zero_le _⟩,rfl,?_,?_,rndL1Int len vs hv kd l hl hw⟩
 ·exact wk_nilG (va:=[pW,.int .u8 kd,fnV 172])
 ·intro e v o hR
  obtain⟨rfl,rfl,rfl⟩:=hR
  exact hA
theorem l0EInt(k:Nat)(hk:k<256)(l:List Int)(hl:l.length<1000)(hs:(bytesOf (listS (l.map oneInt))).data.toList=[]):
  Is (gL0Int (real Tryz.prog) MR MSr (LLw cInt oneInt 171 172 k preW0 l) (k:Int) (rowsOf cInt l) (QT [some (wrC (.slice none 0 0))])):=by
 refine⟨?_⟩
 rw[gL0Int_eq]
 exact n_dlen l.length (rowsOf_len _ _) ⟨rfl,rfl,rfl,rfl,rfl,l.map oneInt,by rw[List.length_map];omega,rfl,rfl,rfl,t0_mk k hk (fun _=>⟨rfl,wk_drop (k0:=1) (pre:=[some (wrC (.slice none 0 0))]) rfl rfl (fun i o h=>(preW0_ok (objs:=preW0) rfl i o h).2)⟩) (fun h=>absurd hs h)⟩
theorem l0CInt(k:Nat)(hk:k<256)(l:List Int)(hl:l.length<1000)(hs:(bytesOf (listS (l.map oneInt))).data.toList≠[]):
  Is (gL0Int (real Tryz.prog) MR MSr (LLw cInt oneInt 171 172 k preW0 l) (k:Int) (rowsOf cInt l) (QT [some (wrC (.slice (some ⟨101,0,none⟩) 1 1)),some (.cells (cellsA [⟨k,bytesOf (listS (l.map oneInt))⟩]) 94 2 true true)])):=by
 refine⟨?_⟩
 rw[gL0Int_eq]
 exact n_dlen l.length (rowsOf_len _ _) ⟨rfl,rfl,rfl,rfl,rfl,l.map oneInt,by rw[List.length_map];omega,rfl,rfl,rfl,t0_mk k hk (fun h=>absurd h hs) (fun _=>⟨rfl,wr_wk 2 (by omega) rfl rfl rfl⟩)⟩
theorem l1CInt(k:Nat)(hk:k<256)(l:List Int)(hl:l.length<1000){len:Nat}{vs:List Value}{L:List At}(hL:isA len vs L):
  Is (gL1Int (real Tryz.prog) MR MSr (LLw cInt oneInt 171 172 k (preW1 len vs) l) len vs (k:Int) (rowsOf cInt l) (QT2 [some (wrC (.slice (some ⟨102,0,none⟩) (addT L k (bytesOf (listS (l.map oneInt)))).length (addT L k (bytesOf (listS (l.map oneInt)))).length)),none,some (.cells (cellsA (addT L k (bytesOf (listS (l.map oneInt))))) 94 2 true true)])):=by
 refine⟨?_⟩
 rw[gL1Int_eq]
 exact n_dlen l.length (rowsOf_len _ _) ⟨rfl,rfl,rfl,rfl,rfl,l.map oneInt,by rw[List.length_map];omega,rfl,rfl,rfl,L,k,rfl,hk,hL,rfl,wr_wk2 3 (by omega) rfl rfl (cellsA_below _)⟩
theorem ok93:SumOk Tryz.prog 100 171 (sListW 172 MR (MLr cInt wfInt oneInt)):=by
 intro args H K h
 unfold sListW at h
 split at h<;>try exact h.elim
 rename_i a kind tt rs gg x y
 split at h<;>try exact h.elim
 rename_i e1 e2
 obtain rfl:=Nat.eq_of_beq_eq_true e1
 obtain rfl:=Nat.eq_of_beq_eq_true e2
 obtain⟨l,rfl,hl,hw,h⟩:=h
 refine wr_ok (rest:=[.int .u8 kind,dsl (rowsOf cInt l),fnV 172]) rfl ?_ ?_ h
 ·rintro A B' ⟨k,rfl,hk,hA,hB⟩
  by_cases hs:(bytesOf (listS (l.map oneInt))).data.toList=[]
  ·exact .inl ⟨hA hs,fun B=>callT kn125 (lp1 (lpL0Int k l hl hw)) (l0EInt k hk l hl hs) B⟩
  ·exact .inr ⟨_,cellsA_below _,hB hs,fun B=>callT kn125 (lp1 (lpL0Int k l hl hw)) (l0CInt k hk l hl hs) B⟩
 ·rintro len vs K ⟨L,k,rfl,hk,hL,hK⟩
  exact⟨_,_,by rw[hL.1];exact cellsA_below _,cellsA_below _,hK,fun B=>callT2 kn125 (lp1 (lpL1Int len vs (by rw[hL.1];exact cellsA_belowN _ _) k l hl hw)) (l1CInt k hk l hl hL) B⟩
theorem rndL0Nat(kd:Int)(l:List Nat)(hl:l.length<1000)(hw:∀x∈l,wfNat x)(i:{i:Nat // i<=l.length}):
  Is (wpe Tryz.prog (real Tryz.prog) (howOf sy1 Sp0 [] [] [(140,sF (MF (fun n:Nat => .int .u64 (n:Int)) wfNat oneNat))] []) 300 (.code false (loopIn Tryz.prog 179 2) (stOf 100 35 [0,1,3,8,13,14,15] [] (ILw cNat oneNat 140 kd preW0 l i))) (roundQ 100 [0,1,3,8,13,14,15] [0,1,8] 35 []
   (fun vals objs=>∃a':{i:Nat // i<=l.length},l.length-a'.1<l.length-i.1/\Wk 100 (100+1) vals objs (ILw cNat oneNat 140 kd preW0 l a').1 (ILw cNat oneNat 140 kd preW0 l a').2/\∀e v o,RLw oneNat kd preW0 l e v o->RLw oneNat kd preW0 l e v o)
   (fun e vals objs=>∃v o,Wk 100 (100+1) vals objs v o/\RLw oneNat kd preW0 l e v o))):=by
 refine⟨?_⟩
 obtain⟨i,hi⟩:=i
 show gL0NatR (real Tryz.prog) (MF (fun n:Nat => .int .u64 (n:Int)) wfNat oneNat) (some (wrC (.slice none 0 0))) (tk oneNat l i).length (mo (strV (tk oneNat l i)) 9 1) kd (rowsOf cNat l) (l.length:Int) (i:Int) _ _
 rw[gL0NatR_eq]
 have hT:tops=140737488355328:=rfl
 have htk:=tk_len oneNat hi
 refine n_ltN (fun hlt=>?_) (fun hge=>?_)
 ·have hx:l[i]?=some l[i]:=by simp[hlt]
  generalize l[i]=x at hx
  have hx2:=tk_succ (one:=oneNat) hx
  have hlen:=congrArg List.length hx2
  rw[List.length_append,strV_len,strV_len]at hlen
  refine n_dget i rfl (rowsOf_get hx) rfl (n_rdI rfl (⟨x,rfl,hw x (List.mem_of_getElem? hx),n_base_mo (by rw[strV_len,Nat.mul_one]) (by omega) (n_appX (by omega) rfl rfl (by omega) (by omega) (n_inc (by omega) ⟨rfl,⟨i+1,hlt⟩,?_,?_,fun _ _ _ h=>h⟩))⟩))
  ·show l.length-(i+1)<l.length-i
   omega
  ·show Wk 100 (100+1) _ _ ([pW,.int .u8 kd,fnV 140]++mkS (100+1) (tk oneNat l (i+1)).length::_) (preW0++[mo (strV (tk oneNat l (i+1))) 9 1])
   rw[←hx2,mo_ne (by simp),←hlen]
   exact wk_outG (k0:=1) (j:=3) (va:=[pW,.int .u8 kd,fnV 140]) (by omega) rfl (by rw[hx2];exact belowStr 0 _) rfl rfl (by simp) rfl (preW0_ok rfl)
 ·have e:i=l.length:=by omega
  subst e
  refine⟨rfl,[pW,.int .u8 kd,mkS (100+1) (l.map oneNat).length],preW0++[mo (strV (l.map oneNat)) 9 1],?_,rfl,rfl,rfl⟩
  rw[tk_all];exact Wk.refl _ _ _ _
theorem lpL0Nat(kd:Int)(l:List Nat)(hl:l.length<1000)(hw:∀x∈l,wfNat x):LoopOk Tryz.prog 100 [0,1,3,8,13,14,15] (sLoopL (LLw cNat oneNat 179 140 kd preW0 l)):=by
 show LoopOk Tryz.prog 100 [0,1,3,8,13,14,15] (lpS [0,1,8] _)
 refine lp_mk okp (W:=howOf sy1 Sp0 [] [] [(140,sF (MF (fun n:Nat => .int .u64 (n:Int)) wfNat oneNat))] []) (kn_pu (pu1 pu95N)) lp_none ?_
 intro c n vals obs K h
 split at h<;>try exact h.elim
 obtain⟨hc,hn,hv2,ho,hA⟩:=h
 subst hc;subst hn;subst ho
 simp only[List.cons.injEq]at hv2
 obtain⟨rfl,rfl,rfl⟩:=hv2
 refine⟨{i:Nat // i<=l.length},1,300,fun a=>l.length-a.1,ILw cNat oneNat 140 kd preW0 l,fun _ e v o=>RLw oneNat kd preW0 l e v o,⟨0,Nat.zero_le _⟩,rfl,?_,?_,rndL0Nat kd l hl hw⟩
 ·exact wk_nilG (va:=[pW,.int .u8 kd,fnV 140])
 ·intro e v o hR
  obtain⟨rfl,rfl,rfl⟩:=hR
  exact hA
theorem rndL1Nat(len:Nat)(vs:List Value)(hv:belowL (100+2) vs=true)(kd:Int)(l:List Nat)(hl:l.length<1000)(hw:∀x∈l,wfNat x)(i:{i:Nat // i<=l.length}):
  Is (wpe Tryz.prog (real Tryz.prog) (howOf sy12 Sp0 [] [] [(140,sF (MF (fun n:Nat => .int .u64 (n:Int)) wfNat oneNat))] []) 300 (.code false (loopIn Tryz.prog 179 2) (stOf 100 35 [0,1,3,8,13,14,15] [] (ILw cNat oneNat 140 kd (preW1 len vs) l i))) (roundQ 100 [0,1,3,8,13,14,15] [0,1,8] 35 []
   (fun vals objs=>∃a':{i:Nat // i<=l.length},l.length-a'.1<l.length-i.1/\Wk 100 (100+2) vals objs (ILw cNat oneNat 140 kd (preW1 len vs) l a').1 (ILw cNat oneNat 140 kd (preW1 len vs) l a').2/\∀e v o,RLw oneNat kd (preW1 len vs) l e v o->RLw oneNat kd (preW1 len vs) l e v o)
   (fun e vals objs=>∃v o,Wk 100 (100+2) vals objs v o/\RLw oneNat kd (preW1 len vs) l e v o))):=by
 refine⟨?_⟩
 obtain⟨i,hi⟩:=i
 show gL1NatR (real Tryz.prog) (MF (fun n:Nat => .int .u64 (n:Int)) wfNat oneNat) (some (wrC (.slice (some ⟨101,0,none⟩) len len))) (some (.cells vs 94 2 true true)) (tk oneNat l i).length (mo (strV (tk oneNat l i)) 9 1) kd (rowsOf cNat l) (l.length:Int) (i:Int) _ _
 rw[gL1NatR_eq]
 have hT:tops=140737488355328:=rfl
 have htk:=tk_len oneNat hi
 refine n_ltN (fun hlt=>?_) (fun hge=>?_)
 ·have hx:l[i]?=some l[i]:=by simp[hlt]
  generalize l[i]=x at hx
  have hx2:=tk_succ (one:=oneNat) hx
  have hlen:=congrArg List.length hx2
  rw[List.length_append,strV_len,strV_len]at hlen
  refine n_dget i rfl (rowsOf_get hx) rfl (n_rdI rfl (⟨x,rfl,hw x (List.mem_of_getElem? hx),n_base_mo (by rw[strV_len,Nat.mul_one]) (by omega) (n_appX (by omega) rfl rfl (by omega) (by omega) (n_inc (by omega) ⟨rfl,⟨i+1,hlt⟩,?_,?_,fun _ _ _ h=>h⟩))⟩))
  ·show l.length-(i+1)<l.length-i
   omega
  ·show Wk 100 (100+2) _ _ ([pW,.int .u8 kd,fnV 140]++mkS (100+2) (tk oneNat l (i+1)).length::_) ((preW1 len vs)++[mo (strV (tk oneNat l (i+1))) 9 1])
   rw[←hx2,mo_ne (by simp),←hlen]
   exact wk_outG (k0:=2) (j:=4) (va:=[pW,.int .u8 kd,fnV 140]) (by omega) rfl (by rw[hx2];exact belowStr 0 _) rfl rfl (by simp) rfl (preW1_ok hv rfl rfl)
 ·have e:i=l.length:=by omega
  subst e
  refine⟨rfl,[pW,.int .u8 kd,mkS (100+2) (l.map oneNat).length],(preW1 len vs)++[mo (strV (l.map oneNat)) 9 1],?_,rfl,rfl,rfl⟩
  rw[tk_all];exact Wk.refl _ _ _ _
theorem lpL1Nat(len:Nat)(vs:List Value)(hv:belowL (100+2) vs=true)(kd:Int)(l:List Nat)(hl:l.length<1000)(hw:∀x∈l,wfNat x):LoopOk Tryz.prog 100 [0,1,3,8,13,14,15] (sLoopL (LLw cNat oneNat 179 140 kd (preW1 len vs) l)):=by
 show LoopOk Tryz.prog 100 [0,1,3,8,13,14,15] (lpS [0,1,8] _)
 refine lp_mk okp (W:=howOf sy12 Sp0 [] [] [(140,sF (MF (fun n:Nat => .int .u64 (n:Int)) wfNat oneNat))] []) (kn_pu (pu1 pu95N)) lp_none ?_
 intro c n vals obs K h
 split at h<;>try exact h.elim
 obtain⟨hc,hn,hv2,ho,hA⟩:=h
 subst hc;subst hn;subst ho
 simp only[List.cons.injEq]at hv2
 obtain⟨rfl,rfl,rfl⟩:=hv2
 refine⟨{i:Nat // i<=l.length},2,300,fun a=>l.length-a.1,ILw cNat oneNat 140 kd (preW1 len vs) l,fun _ e v o=>RLw oneNat kd (preW1 len vs) l e v o,⟨0,Nat.zero_le _⟩,rfl,?_,?_,rndL1Nat len vs hv kd l hl hw⟩
 ·exact wk_nilG (va:=[pW,.int .u8 kd,fnV 140])
 ·intro e v o hR
  obtain⟨rfl,rfl,rfl⟩:=hR
  exact hA
theorem l0ENat(k:Nat)(hk:k<256)(l:List Nat)(hl:l.length<1000)(hs:(bytesOf (listS (l.map oneNat))).data.toList=[]):
  Is (gL0Nat (real Tryz.prog) MR MSr (LLw cNat oneNat 179 140 k preW0 l) (k:Int) (rowsOf cNat l) (QT [some (wrC (.slice none 0 0))])):=by
 refine⟨?_⟩
 rw[gL0Nat_eq]
 exact n_dlen l.length (rowsOf_len _ _) ⟨rfl,rfl,rfl,rfl,rfl,l.map oneNat,by rw[List.length_map];omega,rfl,rfl,rfl,t0_mk k hk (fun _=>⟨rfl,wk_drop (k0:=1) (pre:=[some (wrC (.slice none 0 0))]) rfl rfl (fun i o h=>(preW0_ok (objs:=preW0) rfl i o h).2)⟩) (fun h=>absurd hs h)⟩
theorem l0CNat(k:Nat)(hk:k<256)(l:List Nat)(hl:l.length<1000)(hs:(bytesOf (listS (l.map oneNat))).data.toList≠[]):
  Is (gL0Nat (real Tryz.prog) MR MSr (LLw cNat oneNat 179 140 k preW0 l) (k:Int) (rowsOf cNat l) (QT [some (wrC (.slice (some ⟨101,0,none⟩) 1 1)),some (.cells (cellsA [⟨k,bytesOf (listS (l.map oneNat))⟩]) 94 2 true true)])):=by
 refine⟨?_⟩
 rw[gL0Nat_eq]
 exact n_dlen l.length (rowsOf_len _ _) ⟨rfl,rfl,rfl,rfl,rfl,l.map oneNat,by rw[List.length_map];omega,rfl,rfl,rfl,t0_mk k hk (fun h=>absurd h hs) (fun _=>⟨rfl,wr_wk 2 (by omega) rfl rfl rfl⟩)⟩
theorem l1CNat(k:Nat)(hk:k<256)(l:List Nat)(hl:l.length<1000){len:Nat}{vs:List Value}{L:List At}(hL:isA len vs L):
  Is (gL1Nat (real Tryz.prog) MR MSr (LLw cNat oneNat 179 140 k (preW1 len vs) l) len vs (k:Int) (rowsOf cNat l) (QT2 [some (wrC (.slice (some ⟨102,0,none⟩) (addT L k (bytesOf (listS (l.map oneNat)))).length (addT L k (bytesOf (listS (l.map oneNat)))).length)),none,some (.cells (cellsA (addT L k (bytesOf (listS (l.map oneNat))))) 94 2 true true)])):=by
 refine⟨?_⟩
 rw[gL1Nat_eq]
 exact n_dlen l.length (rowsOf_len _ _) ⟨rfl,rfl,rfl,rfl,rfl,l.map oneNat,by rw[List.length_map];omega,rfl,rfl,rfl,L,k,rfl,hk,hL,rfl,wr_wk2 3 (by omega) rfl rfl (cellsA_below _)⟩
theorem ok97:SumOk Tryz.prog 100 179 (sListW 140 MR (MLr cNat wfNat oneNat)):=by
 intro args H K h
 unfold sListW at h
 split at h<;>try exact h.elim
 rename_i a kind tt rs gg x y
 split at h<;>try exact h.elim
 rename_i e1 e2
 obtain rfl:=Nat.eq_of_beq_eq_true e1
 obtain rfl:=Nat.eq_of_beq_eq_true e2
 obtain⟨l,rfl,hl,hw,h⟩:=h
 refine wr_ok (rest:=[.int .u8 kind,dsl (rowsOf cNat l),fnV 140]) rfl ?_ ?_ h
 ·rintro A B' ⟨k,rfl,hk,hA,hB⟩
  by_cases hs:(bytesOf (listS (l.map oneNat))).data.toList=[]
  ·exact .inl ⟨hA hs,fun B=>callT kn125 (lp1 (lpL0Nat k l hl hw)) (l0ENat k hk l hl hs) B⟩
  ·exact .inr ⟨_,cellsA_below _,hB hs,fun B=>callT kn125 (lp1 (lpL0Nat k l hl hw)) (l0CNat k hk l hl hs) B⟩
 ·rintro len vs K ⟨L,k,rfl,hk,hL,hK⟩
  exact⟨_,_,by rw[hL.1];exact cellsA_below _,cellsA_below _,hK,fun B=>callT2 kn125 (lp1 (lpL1Nat len vs (by rw[hL.1];exact cellsA_belowN _ _) k l hl hw)) (l1CNat k hk l hl hL) B⟩
end
end Go.Proofs.YtblbaohcelldpaaGreatDoor.Ob
