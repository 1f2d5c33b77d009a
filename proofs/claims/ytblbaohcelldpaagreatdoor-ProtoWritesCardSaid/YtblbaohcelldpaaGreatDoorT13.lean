/- . -/
import Derived.Test.YtblbaohcelldpaaGreatDoorT12
set_option linter.all false
set_option maxRecDepth 100000
namespace Go.Proofs.Ob
open Go Go.Abs Go.Tlv
noncomputable section
def tk{α:Type}(one:α->ByteArray)(l:List α)(i:Nat):List ByteArray:=(l.take i).map one
theorem Q8{α:Type}(one:α->ByteArray){l:List α}{i:Nat}(h:i<=l.length):(tk one l i).length=i:=by simp[tk,h]
theorem D5(l:List ByteArray):(strV l).length=l.length:=by simp[strV]
theorem OB{α:Type}{one:α->ByteArray}{l:List α}{i:Nat}{x:α}(h:l[i]?=some x):strV (tk one l i)++[.string (one x)]=strV (tk one l (i+1)):=by
 unfold tk;rw[iT h];simp[strV]
theorem Q7{α:Type}(one:α->ByteArray)(l:List α):tk one l l.length=l.map one:=by unfold tk;rw[List.take_length]
def fnV(g:Nat):Value := .func (.func g) ⟨[]⟩ ⟨[]⟩
def ILw{α:Type}(c:α->Lv)(one:α->ByteArray)(g:Nat)(kind:Int)(pre:Lo)(l:List α)(i:{i:Nat // i<=l.length}):Lv×Lo:=
 ([pW,.int .u8 kind,fnV g,mkS (100+pre.length) (tk one l i.1).length,dsl (rowsOf c l),.int .i64 (l.length:Int),.int .i64 (i.1:Int)],pre++[mo (strV (tk one l i.1)) 9 1])
def RLw{α:Type}(one:α->ByteArray)(kind:Int)(pre:Lo)(l:List α)(e:Exit)(v:Lv)(o:Lo):Prop:=
 e = .exit 0/\v=[pW,.int .u8 kind,mkS (100+pre.length) (l.map one).length]/\o=pre++[mo (strV (l.map one)) 9 1]
def LLw{α:Type}(c:α->Lv)(one:α->ByteArray)(f g:Nat)(kind:Int)(pre:Lo)(l:List α):LLt:=fun code n AB obs A=>
 code=AJ Tryz.prog f 2/\n=35/\AB=[pW,.int .u8 kind,fnV g,.slice none 0 0,dsl (rowsOf c l),.int .i64 (Int.ofNat l.length),.int .i64 (0:Int)]/\obs=pre/\A (l.map one).length (mo (strV (l.map one)) 9 1)
def DU:Lo:=[some (wrC (.slice none 0 0))]
def EF(len:Nat)(vs:Lv):Lo:=[some (wrC (.slice (some ⟨101,0,none⟩) len len)),some (.cells vs 94 2 true true)]
theorem WU{len:Nat}{vs:Lv}(hv:BL (100+2) vs=true){AC:Lo}(h0:AC[0]?=some (some (wrC (.slice (some ⟨101,0,none⟩) len len))))(h1:AC[1]?=some (some (.cells vs 94 2 true true))):
  ∀(i:Nat) o,(EF len vs)[i]?=some (some o)->AC[i]?=some (some o)/\EC (100+2) (some o)=true:=by
 intro i o h
 unfold EF at h
 rcases i with _|_|i
 ·simp only[List.getElem?_cons_zero,Option.some.injEq]at h;subst h;exact⟨h0,rfl⟩
 ·simp only[List.getElem?_cons_succ,List.getElem?_cons_zero,Option.some.injEq]at h;subst h;exact⟨h1,hv⟩
 ·simp at h
theorem M8{AC:Lo}(h0:AC[0]?=some (some (wrC (.slice none 0 0)))):
  ∀(i:Nat) o,DU[i]?=some (some o)->AC[i]?=some (some o)/\EC (100+1) (some o)=true:=by
 intro i o h
 unfold DU at h
 rcases i with _|i
 ·simp only[List.getElem?_cons_zero,Option.some.injEq]at h;subst h;exact⟨h0,rfl⟩
 ·simp at h
abbrev MLt:=Lv->(ByteArray->Prop)->Prop
def NE(f:Nat)(M:Mw)(ML:MLt):Lv->Heap->VK->Prop
 | [a,.int .u8 kind,.iface t (.agg ⟨rs⟩),.func (.func g) ⟨x⟩ ⟨y⟩],H,K=>match Nat.beq t mkD,Nat.beq g f,x,y with
  |true,true,[],[]=>ML rs fun s=>sWr (M.t0 kind s) (fun k vs=>M.t1 k vs kind s) a H K
  |_,_,_,_=>False
 |_,_,_=>False
def MLr{α:Type}(c:α->Lv)(wf:α->Prop)(one:α->ByteArray):MLt:=fun rs K=>∃l:List α,rs=rowsOf c l/\l.length<1000/\(∀x∈l,wf x)/\K (bytesOf (EJ (l.map one)))
theorem KY{α:Type}{c:α->Lv}{wf:α->Prop}{one:α->ByteArray}{l:List α}{K:ByteArray->Prop}(hl:l.length<1000)(hw:∀x∈l,wf x)(hK:K (bytesOf (EJ (l.map one)))):MLr c wf one (rowsOf c l) K:=⟨l,rfl,hl,hw,hK⟩
theorem pu1{g:FuncId}{S:Lv->(Value->Prop)->Prop}(h:FY Tryz.prog 100 g S):∀x∈[(g,S)],FY Tryz.prog 100 x.1 x.2:=fun x hx=>by simp only[List.mem_singleton]at hx;subst hx;exact h
theorem lp1{sy:Sy}{kn:KnL}{pu:PuL}{cf:List (Nat×Nat)}{k n:Nat}{live:List Nat}{S:LpS}(h:BH Tryz.prog 100 live S):SN Tryz.prog 100 (AP sy Sp0 kn [(k,(n,(live,S)))] pu cf):=GH (fun x hx=>by simp only[List.mem_singleton]at hx;subst hx;exact h)
theorem QQ{sy:Sy}{lp:LpL}:OM Tryz.prog 100 (AP sy Sp0 [(148,ND MSr),(178,MU MR)] lp [] []):=M3 (fun x hx=>by
 simp only[List.mem_cons,List.not_mem_nil,or_false]at hx
 rcases hx with rfl|rfl
 ·exact ALI
 ·exact AI1) (fun x hx=>by cases hx)
theorem AIs(kd:Int)(l:List Arm)(hl:l.length<1000)(hw:∀x∈l,R8 x)(i:{i:Nat // i<=l.length}):
  Is (wpe Tryz.prog (real Tryz.prog) (AP sy1 Sp0 [] [] [(156,sF (MF (fun x:Arm => .agg ⟨D7 x⟩) R8 CU))] []) 300 (.code false (AJ Tryz.prog 155 2) (CX 100 35 [0,1,3,8,13,14,15] [] (ILw D7 CU 156 kd DU l i))) (A7 100 [0,1,3,8,13,14,15] [0,1,8] 35 []
   (fun AB AC=>∃a':{i:Nat // i<=l.length},l.length-a'.1<l.length-i.1/\Wk 100 (100+1) AB AC (ILw D7 CU 156 kd DU l a').1 (ILw D7 CU 156 kd DU l a').2/\∀e v o,RLw CU kd DU l e v o->RLw CU kd DU l e v o)
   (fun e AB AC=>∃v o,Wk 100 (100+1) AB AC v o/\RLw CU kd DU l e v o))):=by
 refine⟨?_⟩
 obtain⟨i,hi⟩:=i
 show AC5 (real Tryz.prog) (MF (fun x:Arm => .agg ⟨D7 x⟩) R8 CU) (some (wrC (.slice none 0 0))) (tk CU l i).length (mo (strV (tk CU l i)) 9 1) kd (rowsOf D7 l) (l.length:Int) (i:Int) _ _
 rw[ABt]
 have hT:J3=140737488355328:=rfl
 have htk:=Q8 CU hi
 refine EL (fun hlt=>?_) (fun hge=>?_)
 ·have hx:l[i]?=some l[i]:=by simp[hlt]
  generalize l[i]=x at hx
  have hx2:=OB (one:=CU) hx
  have hlen:=congrArg List.length hx2
  rw[List.length_append,D5,D5]at hlen
  refine DK i rfl (CL hx) rfl (CG rfl (CG rfl (⟨x,rfl,hw x (List.mem_of_getElem? hx),D6 (by rw[D5,Nat.mul_one]) (by omega) (FV (by omega) rfl rfl (by omega) (by omega) (BZ (by omega) ⟨rfl,⟨i+1,hlt⟩,?_,?_,fun _ _ _ h=>h⟩))⟩)))
  ·show l.length-(i+1)<l.length-i
   omega
  ·show Wk 100 (100+1) _ _ ([pW,.int .u8 kd,fnV 156]++mkS (100+1) (tk CU l (i+1)).length::_) (DU++[mo (strV (tk CU l (i+1))) 9 1])
   rw[←hx2,J4 (by simp),←hlen]
   exact IU (k0:=1) (j:=4) (va:=[pW,.int .u8 kd,fnV 156]) (by omega) rfl (by rw[hx2];exact KX 0 _) rfl rfl (by simp) rfl (M8 rfl)
 ·have e:i=l.length:=by omega
  subst e
  refine⟨rfl,[pW,.int .u8 kd,mkS (100+1) (l.map CU).length],DU++[mo (strV (l.map CU)) 9 1],?_,rfl,rfl,rfl⟩
  rw[Q7];exact Wk.refl _ _ _ _
theorem ADq(kd:Int)(l:List Arm)(hl:l.length<1000)(hw:∀x∈l,R8 x):BH Tryz.prog 100 [0,1,3,8,13,14,15] (KJ (LLw D7 CU 155 156 kd DU l)):=by
 show BH Tryz.prog 100 [0,1,3,8,13,14,15] (lpS [0,1,8] _)
 refine FQ okp (W:=AP sy1 Sp0 [] [] [(156,sF (MF (fun x:Arm => .agg ⟨D7 x⟩) R8 CU))] []) (EY (pu1 APN)) AZ ?_
 intro c n AB obs K h
 split at h<;>try exact h.elim
 obtain⟨hc,hn,hv2,ho,hA⟩:=h
 subst hc;subst hn;subst ho
 simp only[List.cons.injEq]at hv2
 obtain⟨rfl,rfl,rfl⟩:=hv2
 refine⟨{i:Nat // i<=l.length},1,300,fun a=>l.length-a.1,ILw D7 CU 156 kd DU l,fun _ e v o=>RLw CU kd DU l e v o,⟨0,Nat.zero_le _⟩,rfl,?_,?_,AIs kd l hl hw⟩
 ·exact IP (va:=[pW,.int .u8 kd,fnV 156])
 ·intro e v o hR
  obtain⟨rfl,rfl,rfl⟩:=hR
  exact hA
theorem AIv(len:Nat)(vs:Lv)(hv:BL (100+2) vs=true)(kd:Int)(l:List Arm)(hl:l.length<1000)(hw:∀x∈l,R8 x)(i:{i:Nat // i<=l.length}):
  Is (wpe Tryz.prog (real Tryz.prog) (AP TS Sp0 [] [] [(156,sF (MF (fun x:Arm => .agg ⟨D7 x⟩) R8 CU))] []) 300 (.code false (AJ Tryz.prog 155 2) (CX 100 35 [0,1,3,8,13,14,15] [] (ILw D7 CU 156 kd (EF len vs) l i))) (A7 100 [0,1,3,8,13,14,15] [0,1,8] 35 []
   (fun AB AC=>∃a':{i:Nat // i<=l.length},l.length-a'.1<l.length-i.1/\Wk 100 (100+2) AB AC (ILw D7 CU 156 kd (EF len vs) l a').1 (ILw D7 CU 156 kd (EF len vs) l a').2/\∀e v o,RLw CU kd (EF len vs) l e v o->RLw CU kd (EF len vs) l e v o)
   (fun e AB AC=>∃v o,Wk 100 (100+2) AB AC v o/\RLw CU kd (EF len vs) l e v o))):=by
 refine⟨?_⟩
 obtain⟨i,hi⟩:=i
 show AC8 (real Tryz.prog) (MF (fun x:Arm => .agg ⟨D7 x⟩) R8 CU) (some (wrC (.slice (some ⟨101,0,none⟩) len len))) (some (.cells vs 94 2 true true)) (tk CU l i).length (mo (strV (tk CU l i)) 9 1) kd (rowsOf D7 l) (l.length:Int) (i:Int) _ _
 rw[ABy]
 have hT:J3=140737488355328:=rfl
 have htk:=Q8 CU hi
 refine EL (fun hlt=>?_) (fun hge=>?_)
 ·have hx:l[i]?=some l[i]:=by simp[hlt]
  generalize l[i]=x at hx
  have hx2:=OB (one:=CU) hx
  have hlen:=congrArg List.length hx2
  rw[List.length_append,D5,D5]at hlen
  refine DK i rfl (CL hx) rfl (CG rfl (CG rfl (⟨x,rfl,hw x (List.mem_of_getElem? hx),D6 (by rw[D5,Nat.mul_one]) (by omega) (FV (by omega) rfl rfl (by omega) (by omega) (BZ (by omega) ⟨rfl,⟨i+1,hlt⟩,?_,?_,fun _ _ _ h=>h⟩))⟩)))
  ·show l.length-(i+1)<l.length-i
   omega
  ·show Wk 100 (100+2) _ _ ([pW,.int .u8 kd,fnV 156]++mkS (100+2) (tk CU l (i+1)).length::_) ((EF len vs)++[mo (strV (tk CU l (i+1))) 9 1])
   rw[←hx2,J4 (by simp),←hlen]
   exact IU (k0:=2) (j:=5) (va:=[pW,.int .u8 kd,fnV 156]) (by omega) rfl (by rw[hx2];exact KX 0 _) rfl rfl (by simp) rfl (WU hv rfl rfl)
 ·have e:i=l.length:=by omega
  subst e
  refine⟨rfl,[pW,.int .u8 kd,mkS (100+2) (l.map CU).length],(EF len vs)++[mo (strV (l.map CU)) 9 1],?_,rfl,rfl,rfl⟩
  rw[Q7];exact Wk.refl _ _ _ _
theorem AKi(len:Nat)(vs:Lv)(hv:BL (100+2) vs=true)(kd:Int)(l:List Arm)(hl:l.length<1000)(hw:∀x∈l,R8 x):BH Tryz.prog 100 [0,1,3,8,13,14,15] (KJ (LLw D7 CU 155 156 kd (EF len vs) l)):=by
 show BH Tryz.prog 100 [0,1,3,8,13,14,15] (lpS [0,1,8] _)
 refine FQ okp (W:=AP TS Sp0 [] [] [(156,sF (MF (fun x:Arm => .agg ⟨D7 x⟩) R8 CU))] []) (EY (pu1 APN)) AZ ?_
 intro c n AB obs K h
 split at h<;>try exact h.elim
 obtain⟨hc,hn,hv2,ho,hA⟩:=h
 subst hc;subst hn;subst ho
 simp only[List.cons.injEq]at hv2
 obtain⟨rfl,rfl,rfl⟩:=hv2
 refine⟨{i:Nat // i<=l.length},2,300,fun a=>l.length-a.1,ILw D7 CU 156 kd (EF len vs) l,fun _ e v o=>RLw CU kd (EF len vs) l e v o,⟨0,Nat.zero_le _⟩,rfl,?_,?_,AIv len vs hv kd l hl hw⟩
 ·exact IP (va:=[pW,.int .u8 kd,fnV 156])
 ·intro e v o hR
  obtain⟨rfl,rfl,rfl⟩:=hR
  exact hA
theorem AMv(k:Nat)(hk:k<256)(l:List Arm)(hl:l.length<1000)(hs:(bytesOf (EJ (l.map CU))).data.toList=[]):
  Is (ABs (real Tryz.prog) MR MSr (LLw D7 CU 155 156 k DU l) (k:Int) (rowsOf D7 l) (QT [some (wrC (.slice none 0 0))])):=by
 refine⟨?_⟩
 rw[oD]
 exact BI l.length (AQ _ _) ⟨rfl,rfl,rfl,rfl,rfl,l.map CU,by rw[List.length_map];omega,rfl,rfl,rfl,PI k hk (fun _=>⟨rfl,I1 (k0:=1) (pre:=[some (wrC (.slice none 0 0))]) rfl rfl (fun i o h=>(M8 (AC:=DU) rfl i o h).2)⟩) (fun h=>absurd hs h)⟩
theorem AMs(k:Nat)(hk:k<256)(l:List Arm)(hl:l.length<1000)(hs:(bytesOf (EJ (l.map CU))).data.toList≠[]):
  Is (ABs (real Tryz.prog) MR MSr (LLw D7 CU 155 156 k DU l) (k:Int) (rowsOf D7 l) (QT [some (wrC (.slice (some ⟨101,0,none⟩) 1 1)),some (.cells (BS [⟨k,bytesOf (EJ (l.map CU))⟩]) 94 2 true true)])):=by
 refine⟨?_⟩
 rw[oD]
 exact BI l.length (AQ _ _) ⟨rfl,rfl,rfl,rfl,rfl,l.map CU,by rw[List.length_map];omega,rfl,rfl,rfl,PI k hk (fun h=>absurd h hs) (fun _=>⟨rfl,lU 2 (by omega) rfl rfl rfl⟩)⟩
theorem AMy(k:Nat)(hk:k<256)(l:List Arm)(hl:l.length<1000){len:Nat}{vs:Lv}{L:List At}(hL:isA len vs L):
  Is (AGW (real Tryz.prog) MR MSr (LLw D7 CU 155 156 k (EF len vs) l) len vs (k:Int) (rowsOf D7 l) (QT2 [some (wrC (.slice (some ⟨102,0,none⟩) (IY L k (bytesOf (EJ (l.map CU)))).length (IY L k (bytesOf (EJ (l.map CU)))).length)),none,some (.cells (BS (IY L k (bytesOf (EJ (l.map CU))))) 94 2 true true)])):=by
 refine⟨?_⟩
 rw[AEE]
 exact BI l.length (AQ _ _) ⟨rfl,rfl,rfl,rfl,rfl,l.map CU,by rw[List.length_map];omega,rfl,rfl,rfl,L,k,rfl,hk,hL,rfl,U4 3 (by omega) rfl rfl (BJ _)⟩
theorem AR3:JU Tryz.prog 100 155 (NE 156 MR (MLr D7 R8 CU)):=by
 intro args H K h
 unfold NE at h
 split at h<;>try exact h.elim
 rename_i a kind tt rs gg x y
 split at h<;>try exact h.elim
 rename_i e1 e2
 obtain rfl:=Nat.eq_of_beq_eq_true e1
 obtain rfl:=Nat.eq_of_beq_eq_true e2
 obtain⟨l,rfl,hl,hw,h⟩:=h
 refine lT (rest:=[.int .u8 kind,dsl (rowsOf D7 l),fnV 156]) rfl ?_ ?_ h
 ·rintro A B' ⟨k,rfl,hk,hA,hB⟩
  by_cases hs:(bytesOf (EJ (l.map CU))).data.toList=[]
  ·exact .inl ⟨hA hs,fun B=>RV QQ (lp1 (ADq k l hl hw)) (AMv k hk l hl hs) B⟩
  ·exact .inr ⟨_,BJ _,hB hs,fun B=>RV QQ (lp1 (ADq k l hl hw)) (AMs k hk l hl hs) B⟩
 ·rintro len vs K ⟨L,k,rfl,hk,hL,hK⟩
  exact⟨_,_,by rw[hL.1];exact BJ _,BJ _,hK,fun B=>Y5 QQ (lp1 (AKi len vs (by rw[hL.1];exact M6 _ _) k l hl hw)) (AMy k hk l hl hL) B⟩
theorem ACe(kd:Int)(l:List Instr)(hl:l.length<1000)(hw:∀x∈l,KU x)(i:{i:Nat // i<=l.length}):
  Is (wpe Tryz.prog (real Tryz.prog) (AP sy1 Sp0 [] [] [(190,sF (MF (fun x:Instr => .agg ⟨BN x⟩) KU BF))] []) 300 (.code false (AJ Tryz.prog 189 2) (CX 100 35 [0,1,3,8,13,14,15] [] (ILw BN BF 190 kd DU l i))) (A7 100 [0,1,3,8,13,14,15] [0,1,8] 35 []
   (fun AB AC=>∃a':{i:Nat // i<=l.length},l.length-a'.1<l.length-i.1/\Wk 100 (100+1) AB AC (ILw BN BF 190 kd DU l a').1 (ILw BN BF 190 kd DU l a').2/\∀e v o,RLw BF kd DU l e v o->RLw BF kd DU l e v o)
   (fun e AB AC=>∃v o,Wk 100 (100+1) AB AC v o/\RLw BF kd DU l e v o))):=by
 refine⟨?_⟩
 obtain⟨i,hi⟩:=i
 show oF (real Tryz.prog) (MF (fun x:Instr => .agg ⟨BN x⟩) KU BF) (some (wrC (.slice none 0 0))) (tk BF l i).length (mo (strV (tk BF l i)) 9 1) kd (rowsOf BN l) (l.length:Int) (i:Int) _ _
 rw[tV]
 have hT:J3=140737488355328:=rfl
 have htk:=Q8 BF hi
 refine EL (fun hlt=>?_) (fun hge=>?_)
 ·have hx:l[i]?=some l[i]:=by simp[hlt]
  generalize l[i]=x at hx
  have hx2:=OB (one:=BF) hx
  have hlen:=congrArg List.length hx2
  rw[List.length_append,D5,D5]at hlen
  refine DK i rfl (CL hx) rfl (CG rfl (CG rfl (CG rfl (CG rfl (CG rfl (CG rfl (CG rfl (⟨x,rfl,hw x (List.mem_of_getElem? hx),D6 (by rw[D5,Nat.mul_one]) (by omega) (FV (by omega) rfl rfl (by omega) (by omega) (BZ (by omega) ⟨rfl,⟨i+1,hlt⟩,?_,?_,fun _ _ _ h=>h⟩))⟩))))))))
  ·show l.length-(i+1)<l.length-i
   omega
  ·show Wk 100 (100+1) _ _ ([pW,.int .u8 kd,fnV 190]++mkS (100+1) (tk BF l (i+1)).length::_) (DU++[mo (strV (tk BF l (i+1))) 9 1])
   rw[←hx2,J4 (by simp),←hlen]
   exact IU (k0:=1) (j:=4) (va:=[pW,.int .u8 kd,fnV 190]) (by omega) rfl (by rw[hx2];exact KX 0 _) rfl rfl (by simp) rfl (M8 rfl)
 ·have e:i=l.length:=by omega
  subst e
  refine⟨rfl,[pW,.int .u8 kd,mkS (100+1) (l.map BF).length],DU++[mo (strV (l.map BF)) 9 1],?_,rfl,rfl,rfl⟩
  rw[Q7];exact Wk.refl _ _ _ _
theorem qI(kd:Int)(l:List Instr)(hl:l.length<1000)(hw:∀x∈l,KU x):BH Tryz.prog 100 [0,1,3,8,13,14,15] (KJ (LLw BN BF 189 190 kd DU l)):=by
 show BH Tryz.prog 100 [0,1,3,8,13,14,15] (lpS [0,1,8] _)
 refine FQ okp (W:=AP sy1 Sp0 [] [] [(190,sF (MF (fun x:Instr => .agg ⟨BN x⟩) KU BF))] []) (EY (pu1 APM)) AZ ?_
 intro c n AB obs K h
 split at h<;>try exact h.elim
 obtain⟨hc,hn,hv2,ho,hA⟩:=h
 subst hc;subst hn;subst ho
 simp only[List.cons.injEq]at hv2
 obtain⟨rfl,rfl,rfl⟩:=hv2
 refine⟨{i:Nat // i<=l.length},1,300,fun a=>l.length-a.1,ILw BN BF 190 kd DU l,fun _ e v o=>RLw BF kd DU l e v o,⟨0,Nat.zero_le _⟩,rfl,?_,?_,ACe kd l hl hw⟩
 ·exact IP (va:=[pW,.int .u8 kd,fnV 190])
 ·intro e v o hR
  obtain⟨rfl,rfl,rfl⟩:=hR
  exact hA
theorem ACf(len:Nat)(vs:Lv)(hv:BL (100+2) vs=true)(kd:Int)(l:List Instr)(hl:l.length<1000)(hw:∀x∈l,KU x)(i:{i:Nat // i<=l.length}):
  Is (wpe Tryz.prog (real Tryz.prog) (AP TS Sp0 [] [] [(190,sF (MF (fun x:Instr => .agg ⟨BN x⟩) KU BF))] []) 300 (.code false (AJ Tryz.prog 189 2) (CX 100 35 [0,1,3,8,13,14,15] [] (ILw BN BF 190 kd (EF len vs) l i))) (A7 100 [0,1,3,8,13,14,15] [0,1,8] 35 []
   (fun AB AC=>∃a':{i:Nat // i<=l.length},l.length-a'.1<l.length-i.1/\Wk 100 (100+2) AB AC (ILw BN BF 190 kd (EF len vs) l a').1 (ILw BN BF 190 kd (EF len vs) l a').2/\∀e v o,RLw BF kd (EF len vs) l e v o->RLw BF kd (EF len vs) l e v o)
   (fun e AB AC=>∃v o,Wk 100 (100+2) AB AC v o/\RLw BF kd (EF len vs) l e v o))):=by
 refine⟨?_⟩
 obtain⟨i,hi⟩:=i
 show oJ (real Tryz.prog) (MF (fun x:Instr => .agg ⟨BN x⟩) KU BF) (some (wrC (.slice (some ⟨101,0,none⟩) len len))) (some (.cells vs 94 2 true true)) (tk BF l i).length (mo (strV (tk BF l i)) 9 1) kd (rowsOf BN l) (l.length:Int) (i:Int) _ _
 rw[tY]
 have hT:J3=140737488355328:=rfl
 have htk:=Q8 BF hi
 refine EL (fun hlt=>?_) (fun hge=>?_)
 ·have hx:l[i]?=some l[i]:=by simp[hlt]
  generalize l[i]=x at hx
  have hx2:=OB (one:=BF) hx
  have hlen:=congrArg List.length hx2
  rw[List.length_append,D5,D5]at hlen
  refine DK i rfl (CL hx) rfl (CG rfl (CG rfl (CG rfl (CG rfl (CG rfl (CG rfl (CG rfl (⟨x,rfl,hw x (List.mem_of_getElem? hx),D6 (by rw[D5,Nat.mul_one]) (by omega) (FV (by omega) rfl rfl (by omega) (by omega) (BZ (by omega) ⟨rfl,⟨i+1,hlt⟩,?_,?_,fun _ _ _ h=>h⟩))⟩))))))))
  ·show l.length-(i+1)<l.length-i
   omega
  ·show Wk 100 (100+2) _ _ ([pW,.int .u8 kd,fnV 190]++mkS (100+2) (tk BF l (i+1)).length::_) ((EF len vs)++[mo (strV (tk BF l (i+1))) 9 1])
   rw[←hx2,J4 (by simp),←hlen]
   exact IU (k0:=2) (j:=5) (va:=[pW,.int .u8 kd,fnV 190]) (by omega) rfl (by rw[hx2];exact KX 0 _) rfl rfl (by simp) rfl (WU hv rfl rfl)
 ·have e:i=l.length:=by omega
  subst e
  refine⟨rfl,[pW,.int .u8 kd,mkS (100+2) (l.map BF).length],(EF len vs)++[mo (strV (l.map BF)) 9 1],?_,rfl,rfl,rfl⟩
  rw[Q7];exact Wk.refl _ _ _ _
theorem AE1(len:Nat)(vs:Lv)(hv:BL (100+2) vs=true)(kd:Int)(l:List Instr)(hl:l.length<1000)(hw:∀x∈l,KU x):BH Tryz.prog 100 [0,1,3,8,13,14,15] (KJ (LLw BN BF 189 190 kd (EF len vs) l)):=by
 show BH Tryz.prog 100 [0,1,3,8,13,14,15] (lpS [0,1,8] _)
 refine FQ okp (W:=AP TS Sp0 [] [] [(190,sF (MF (fun x:Instr => .agg ⟨BN x⟩) KU BF))] []) (EY (pu1 APM)) AZ ?_
 intro c n AB obs K h
 split at h<;>try exact h.elim
 obtain⟨hc,hn,hv2,ho,hA⟩:=h
 subst hc;subst hn;subst ho
 simp only[List.cons.injEq]at hv2
 obtain⟨rfl,rfl,rfl⟩:=hv2
 refine⟨{i:Nat // i<=l.length},2,300,fun a=>l.length-a.1,ILw BN BF 190 kd (EF len vs) l,fun _ e v o=>RLw BF kd (EF len vs) l e v o,⟨0,Nat.zero_le _⟩,rfl,?_,?_,ACf len vs hv kd l hl hw⟩
 ·exact IP (va:=[pW,.int .u8 kd,fnV 190])
 ·intro e v o hR
  obtain⟨rfl,rfl,rfl⟩:=hR
  exact hA
theorem AHo(k:Nat)(hk:k<256)(l:List Instr)(hl:l.length<1000)(hs:(bytesOf (EJ (l.map BF))).data.toList=[]):
  Is (jY (real Tryz.prog) MR MSr (LLw BN BF 189 190 k DU l) (k:Int) (rowsOf BN l) (QT [some (wrC (.slice none 0 0))])):=by
 refine⟨?_⟩
 rw[eT]
 exact BI l.length (AQ _ _) ⟨rfl,rfl,rfl,rfl,rfl,l.map BF,by rw[List.length_map];omega,rfl,rfl,rfl,PI k hk (fun _=>⟨rfl,I1 (k0:=1) (pre:=[some (wrC (.slice none 0 0))]) rfl rfl (fun i o h=>(M8 (AC:=DU) rfl i o h).2)⟩) (fun h=>absurd hs h)⟩
theorem AHn(k:Nat)(hk:k<256)(l:List Instr)(hl:l.length<1000)(hs:(bytesOf (EJ (l.map BF))).data.toList≠[]):
  Is (jY (real Tryz.prog) MR MSr (LLw BN BF 189 190 k DU l) (k:Int) (rowsOf BN l) (QT [some (wrC (.slice (some ⟨101,0,none⟩) 1 1)),some (.cells (BS [⟨k,bytesOf (EJ (l.map BF))⟩]) 94 2 true true)])):=by
 refine⟨?_⟩
 rw[eT]
 exact BI l.length (AQ _ _) ⟨rfl,rfl,rfl,rfl,rfl,l.map BF,by rw[List.length_map];omega,rfl,rfl,rfl,PI k hk (fun h=>absurd h hs) (fun _=>⟨rfl,lU 2 (by omega) rfl rfl rfl⟩)⟩
theorem AHp(k:Nat)(hk:k<256)(l:List Instr)(hl:l.length<1000){len:Nat}{vs:Lv}{L:List At}(hL:isA len vs L):
  Is (xM (real Tryz.prog) MR MSr (LLw BN BF 189 190 k (EF len vs) l) len vs (k:Int) (rowsOf BN l) (QT2 [some (wrC (.slice (some ⟨102,0,none⟩) (IY L k (bytesOf (EJ (l.map BF)))).length (IY L k (bytesOf (EJ (l.map BF)))).length)),none,some (.cells (BS (IY L k (bytesOf (EJ (l.map BF))))) 94 2 true true)])):=by
 refine⟨?_⟩
 rw[xN]
 exact BI l.length (AQ _ _) ⟨rfl,rfl,rfl,rfl,rfl,l.map BF,by rw[List.length_map];omega,rfl,rfl,rfl,L,k,rfl,hk,hL,rfl,U4 3 (by omega) rfl rfl (BJ _)⟩
theorem AR2:JU Tryz.prog 100 189 (NE 190 MR (MLr BN KU BF)):=by
 intro args H K h
 unfold NE at h
 split at h<;>try exact h.elim
 rename_i a kind tt rs gg x y
 split at h<;>try exact h.elim
 rename_i e1 e2
 obtain rfl:=Nat.eq_of_beq_eq_true e1
 obtain rfl:=Nat.eq_of_beq_eq_true e2
 obtain⟨l,rfl,hl,hw,h⟩:=h
 refine lT (rest:=[.int .u8 kind,dsl (rowsOf BN l),fnV 190]) rfl ?_ ?_ h
 ·rintro A B' ⟨k,rfl,hk,hA,hB⟩
  by_cases hs:(bytesOf (EJ (l.map BF))).data.toList=[]
  ·exact .inl ⟨hA hs,fun B=>RV QQ (lp1 (qI k l hl hw)) (AHo k hk l hl hs) B⟩
  ·exact .inr ⟨_,BJ _,hB hs,fun B=>RV QQ (lp1 (qI k l hl hw)) (AHn k hk l hl hs) B⟩
 ·rintro len vs K ⟨L,k,rfl,hk,hL,hK⟩
  exact⟨_,_,by rw[hL.1];exact BJ _,BJ _,hK,fun B=>Y5 QQ (lp1 (AE1 len vs (by rw[hL.1];exact M6 _ _) k l hl hw)) (AHp k hk l hl hL) B⟩
theorem AAo(kd:Int)(l:List DN)(hl:l.length<1000)(hw:∀x∈l,I7 x)(i:{i:Nat // i<=l.length}):
  Is (wpe Tryz.prog (real Tryz.prog) (AP sy1 Sp0 [] [] [(198,sF (MF (fun x:DN => .agg ⟨BB x⟩) I7 BC))] []) 300 (.code false (AJ Tryz.prog 197 2) (CX 100 35 [0,1,3,8,13,14,15] [] (ILw BB BC 198 kd DU l i))) (A7 100 [0,1,3,8,13,14,15] [0,1,8] 35 []
   (fun AB AC=>∃a':{i:Nat // i<=l.length},l.length-a'.1<l.length-i.1/\Wk 100 (100+1) AB AC (ILw BB BC 198 kd DU l a').1 (ILw BB BC 198 kd DU l a').2/\∀e v o,RLw BC kd DU l e v o->RLw BC kd DU l e v o)
   (fun e AB AC=>∃v o,Wk 100 (100+1) AB AC v o/\RLw BC kd DU l e v o))):=by
 refine⟨?_⟩
 obtain⟨i,hi⟩:=i
 show jX (real Tryz.prog) (MF (fun x:DN => .agg ⟨BB x⟩) I7 BC) (some (wrC (.slice none 0 0))) (tk BC l i).length (mo (strV (tk BC l i)) 9 1) kd (rowsOf BB l) (l.length:Int) (i:Int) _ _
 rw[mJ]
 have hT:J3=140737488355328:=rfl
 have htk:=Q8 BC hi
 refine EL (fun hlt=>?_) (fun hge=>?_)
 ·have hx:l[i]?=some l[i]:=by simp[hlt]
  generalize l[i]=x at hx
  have hx2:=OB (one:=BC) hx
  have hlen:=congrArg List.length hx2
  rw[List.length_append,D5,D5]at hlen
  refine DK i rfl (CL hx) rfl (CG rfl (CG rfl (⟨x,rfl,hw x (List.mem_of_getElem? hx),D6 (by rw[D5,Nat.mul_one]) (by omega) (FV (by omega) rfl rfl (by omega) (by omega) (BZ (by omega) ⟨rfl,⟨i+1,hlt⟩,?_,?_,fun _ _ _ h=>h⟩))⟩)))
  ·show l.length-(i+1)<l.length-i
   omega
  ·show Wk 100 (100+1) _ _ ([pW,.int .u8 kd,fnV 198]++mkS (100+1) (tk BC l (i+1)).length::_) (DU++[mo (strV (tk BC l (i+1))) 9 1])
   rw[←hx2,J4 (by simp),←hlen]
   exact IU (k0:=1) (j:=4) (va:=[pW,.int .u8 kd,fnV 198]) (by omega) rfl (by rw[hx2];exact KX 0 _) rfl rfl (by simp) rfl (M8 rfl)
 ·have e:i=l.length:=by omega
  subst e
  refine⟨rfl,[pW,.int .u8 kd,mkS (100+1) (l.map BC).length],DU++[mo (strV (l.map BC)) 9 1],?_,rfl,rfl,rfl⟩
  rw[Q7];exact Wk.refl _ _ _ _
theorem kG(kd:Int)(l:List DN)(hl:l.length<1000)(hw:∀x∈l,I7 x):BH Tryz.prog 100 [0,1,3,8,13,14,15] (KJ (LLw BB BC 197 198 kd DU l)):=by
 show BH Tryz.prog 100 [0,1,3,8,13,14,15] (lpS [0,1,8] _)
 refine FQ okp (W:=AP sy1 Sp0 [] [] [(198,sF (MF (fun x:DN => .agg ⟨BB x⟩) I7 BC))] []) (EY (pu1 APP)) AZ ?_
 intro c n AB obs K h
 split at h<;>try exact h.elim
 obtain⟨hc,hn,hv2,ho,hA⟩:=h
 subst hc;subst hn;subst ho
 simp only[List.cons.injEq]at hv2
 obtain⟨rfl,rfl,rfl⟩:=hv2
 refine⟨{i:Nat // i<=l.length},1,300,fun a=>l.length-a.1,ILw BB BC 198 kd DU l,fun _ e v o=>RLw BC kd DU l e v o,⟨0,Nat.zero_le _⟩,rfl,?_,?_,AAo kd l hl hw⟩
 ·exact IP (va:=[pW,.int .u8 kd,fnV 198])
 ·intro e v o hR
  obtain⟨rfl,rfl,rfl⟩:=hR
  exact hA
theorem AAp(len:Nat)(vs:Lv)(hv:BL (100+2) vs=true)(kd:Int)(l:List DN)(hl:l.length<1000)(hw:∀x∈l,I7 x)(i:{i:Nat // i<=l.length}):
  Is (wpe Tryz.prog (real Tryz.prog) (AP TS Sp0 [] [] [(198,sF (MF (fun x:DN => .agg ⟨BB x⟩) I7 BC))] []) 300 (.code false (AJ Tryz.prog 197 2) (CX 100 35 [0,1,3,8,13,14,15] [] (ILw BB BC 198 kd (EF len vs) l i))) (A7 100 [0,1,3,8,13,14,15] [0,1,8] 35 []
   (fun AB AC=>∃a':{i:Nat // i<=l.length},l.length-a'.1<l.length-i.1/\Wk 100 (100+2) AB AC (ILw BB BC 198 kd (EF len vs) l a').1 (ILw BB BC 198 kd (EF len vs) l a').2/\∀e v o,RLw BC kd (EF len vs) l e v o->RLw BC kd (EF len vs) l e v o)
   (fun e AB AC=>∃v o,Wk 100 (100+2) AB AC v o/\RLw BC kd (EF len vs) l e v o))):=by
 refine⟨?_⟩
 obtain⟨i,hi⟩:=i
 show jZ (real Tryz.prog) (MF (fun x:DN => .agg ⟨BB x⟩) I7 BC) (some (wrC (.slice (some ⟨101,0,none⟩) len len))) (some (.cells vs 94 2 true true)) (tk BC l i).length (mo (strV (tk BC l i)) 9 1) kd (rowsOf BB l) (l.length:Int) (i:Int) _ _
 rw[mK]
 have hT:J3=140737488355328:=rfl
 have htk:=Q8 BC hi
 refine EL (fun hlt=>?_) (fun hge=>?_)
 ·have hx:l[i]?=some l[i]:=by simp[hlt]
  generalize l[i]=x at hx
  have hx2:=OB (one:=BC) hx
  have hlen:=congrArg List.length hx2
  rw[List.length_append,D5,D5]at hlen
  refine DK i rfl (CL hx) rfl (CG rfl (CG rfl (⟨x,rfl,hw x (List.mem_of_getElem? hx),D6 (by rw[D5,Nat.mul_one]) (by omega) (FV (by omega) rfl rfl (by omega) (by omega) (BZ (by omega) ⟨rfl,⟨i+1,hlt⟩,?_,?_,fun _ _ _ h=>h⟩))⟩)))
  ·show l.length-(i+1)<l.length-i
   omega
  ·show Wk 100 (100+2) _ _ ([pW,.int .u8 kd,fnV 198]++mkS (100+2) (tk BC l (i+1)).length::_) ((EF len vs)++[mo (strV (tk BC l (i+1))) 9 1])
   rw[←hx2,J4 (by simp),←hlen]
   exact IU (k0:=2) (j:=5) (va:=[pW,.int .u8 kd,fnV 198]) (by omega) rfl (by rw[hx2];exact KX 0 _) rfl rfl (by simp) rfl (WU hv rfl rfl)
 ·have e:i=l.length:=by omega
  subst e
  refine⟨rfl,[pW,.int .u8 kd,mkS (100+2) (l.map BC).length],(EF len vs)++[mo (strV (l.map BC)) 9 1],?_,rfl,rfl,rfl⟩
  rw[Q7];exact Wk.refl _ _ _ _
theorem ABW(len:Nat)(vs:Lv)(hv:BL (100+2) vs=true)(kd:Int)(l:List DN)(hl:l.length<1000)(hw:∀x∈l,I7 x):BH Tryz.prog 100 [0,1,3,8,13,14,15] (KJ (LLw BB BC 197 198 kd (EF len vs) l)):=by
 show BH Tryz.prog 100 [0,1,3,8,13,14,15] (lpS [0,1,8] _)
 refine FQ okp (W:=AP TS Sp0 [] [] [(198,sF (MF (fun x:DN => .agg ⟨BB x⟩) I7 BC))] []) (EY (pu1 APP)) AZ ?_
 intro c n AB obs K h
 split at h<;>try exact h.elim
 obtain⟨hc,hn,hv2,ho,hA⟩:=h
 subst hc;subst hn;subst ho
 simp only[List.cons.injEq]at hv2
 obtain⟨rfl,rfl,rfl⟩:=hv2
 refine⟨{i:Nat // i<=l.length},2,300,fun a=>l.length-a.1,ILw BB BC 198 kd (EF len vs) l,fun _ e v o=>RLw BC kd (EF len vs) l e v o,⟨0,Nat.zero_le _⟩,rfl,?_,?_,AAp len vs hv kd l hl hw⟩
 ·exact IP (va:=[pW,.int .u8 kd,fnV 198])
 ·intro e v o hR
  obtain⟨rfl,rfl,rfl⟩:=hR
  exact hA
theorem AEY(k:Nat)(hk:k<256)(l:List DN)(hl:l.length<1000)(hs:(bytesOf (EJ (l.map BC))).data.toList=[]):
  Is (dI (real Tryz.prog) MR MSr (LLw BB BC 197 198 k DU l) (k:Int) (rowsOf BB l) (QT [some (wrC (.slice none 0 0))])):=by
 refine⟨?_⟩
 rw[aP]
 exact BI l.length (AQ _ _) ⟨rfl,rfl,rfl,rfl,rfl,l.map BC,by rw[List.length_map];omega,rfl,rfl,rfl,PI k hk (fun _=>⟨rfl,I1 (k0:=1) (pre:=[some (wrC (.slice none 0 0))]) rfl rfl (fun i o h=>(M8 (AC:=DU) rfl i o h).2)⟩) (fun h=>absurd hs h)⟩
theorem AEX(k:Nat)(hk:k<256)(l:List DN)(hl:l.length<1000)(hs:(bytesOf (EJ (l.map BC))).data.toList≠[]):
  Is (dI (real Tryz.prog) MR MSr (LLw BB BC 197 198 k DU l) (k:Int) (rowsOf BB l) (QT [some (wrC (.slice (some ⟨101,0,none⟩) 1 1)),some (.cells (BS [⟨k,bytesOf (EJ (l.map BC))⟩]) 94 2 true true)])):=by
 refine⟨?_⟩
 rw[aP]
 exact BI l.length (AQ _ _) ⟨rfl,rfl,rfl,rfl,rfl,l.map BC,by rw[List.length_map];omega,rfl,rfl,rfl,PI k hk (fun h=>absurd h hs) (fun _=>⟨rfl,lU 2 (by omega) rfl rfl rfl⟩)⟩
theorem AEZ(k:Nat)(hk:k<256)(l:List DN)(hl:l.length<1000){len:Nat}{vs:Lv}{L:List At}(hL:isA len vs L):
  Is (oI (real Tryz.prog) MR MSr (LLw BB BC 197 198 k (EF len vs) l) len vs (k:Int) (rowsOf BB l) (QT2 [some (wrC (.slice (some ⟨102,0,none⟩) (IY L k (bytesOf (EJ (l.map BC)))).length (IY L k (bytesOf (EJ (l.map BC)))).length)),none,some (.cells (BS (IY L k (bytesOf (EJ (l.map BC))))) 94 2 true true)])):=by
 refine⟨?_⟩
 rw[tX]
 exact BI l.length (AQ _ _) ⟨rfl,rfl,rfl,rfl,rfl,l.map BC,by rw[List.length_map];omega,rfl,rfl,rfl,L,k,rfl,hk,hL,rfl,U4 3 (by omega) rfl rfl (BJ _)⟩
theorem AR6:JU Tryz.prog 100 197 (NE 198 MR (MLr BB I7 BC)):=by
 intro args H K h
 unfold NE at h
 split at h<;>try exact h.elim
 rename_i a kind tt rs gg x y
 split at h<;>try exact h.elim
 rename_i e1 e2
 obtain rfl:=Nat.eq_of_beq_eq_true e1
 obtain rfl:=Nat.eq_of_beq_eq_true e2
 obtain⟨l,rfl,hl,hw,h⟩:=h
 refine lT (rest:=[.int .u8 kind,dsl (rowsOf BB l),fnV 198]) rfl ?_ ?_ h
 ·rintro A B' ⟨k,rfl,hk,hA,hB⟩
  by_cases hs:(bytesOf (EJ (l.map BC))).data.toList=[]
  ·exact .inl ⟨hA hs,fun B=>RV QQ (lp1 (kG k l hl hw)) (AEY k hk l hl hs) B⟩
  ·exact .inr ⟨_,BJ _,hB hs,fun B=>RV QQ (lp1 (kG k l hl hw)) (AEX k hk l hl hs) B⟩
 ·rintro len vs K ⟨L,k,rfl,hk,hL,hK⟩
  exact⟨_,_,by rw[hL.1];exact BJ _,BJ _,hK,fun B=>Y5 QQ (lp1 (ABW len vs (by rw[hL.1];exact M6 _ _) k l hl hw)) (AEZ k hk l hl hL) B⟩
theorem AIt(kd:Int)(l:List Int)(hl:l.length<1000)(hw:∀x∈l,OL x)(i:{i:Nat // i<=l.length}):
  Is (wpe Tryz.prog (real Tryz.prog) (AP sy1 Sp0 [] [] [(172,sF (MF (fun n:Int => .int .i64 n) OL CV))] []) 300 (.code false (AJ Tryz.prog 171 2) (CX 100 35 [0,1,3,8,13,14,15] [] (ILw EM CV 172 kd DU l i))) (A7 100 [0,1,3,8,13,14,15] [0,1,8] 35 []
   (fun AB AC=>∃a':{i:Nat // i<=l.length},l.length-a'.1<l.length-i.1/\Wk 100 (100+1) AB AC (ILw EM CV 172 kd DU l a').1 (ILw EM CV 172 kd DU l a').2/\∀e v o,RLw CV kd DU l e v o->RLw CV kd DU l e v o)
   (fun e AB AC=>∃v o,Wk 100 (100+1) AB AC v o/\RLw CV kd DU l e v o))):=by
 refine⟨?_⟩
 obtain⟨i,hi⟩:=i
 show AC6 (real Tryz.prog) (MF (fun n:Int => .int .i64 n) OL CV) (some (wrC (.slice none 0 0))) (tk CV l i).length (mo (strV (tk CV l i)) 9 1) kd (rowsOf EM l) (l.length:Int) (i:Int) _ _
 rw[ABv]
 have hT:J3=140737488355328:=rfl
 have htk:=Q8 CV hi
 refine EL (fun hlt=>?_) (fun hge=>?_)
 ·have hx:l[i]?=some l[i]:=by simp[hlt]
  generalize l[i]=x at hx
  have hx2:=OB (one:=CV) hx
  have hlen:=congrArg List.length hx2
  rw[List.length_append,D5,D5]at hlen
  refine DK i rfl (CL hx) rfl (CG rfl (⟨x,rfl,hw x (List.mem_of_getElem? hx),D6 (by rw[D5,Nat.mul_one]) (by omega) (FV (by omega) rfl rfl (by omega) (by omega) (BZ (by omega) ⟨rfl,⟨i+1,hlt⟩,?_,?_,fun _ _ _ h=>h⟩))⟩))
  ·show l.length-(i+1)<l.length-i
   omega
  ·show Wk 100 (100+1) _ _ ([pW,.int .u8 kd,fnV 172]++mkS (100+1) (tk CV l (i+1)).length::_) (DU++[mo (strV (tk CV l (i+1))) 9 1])
   rw[←hx2,J4 (by simp),←hlen]
   exact IU (k0:=1) (j:=3) (va:=[pW,.int .u8 kd,fnV 172]) (by omega) rfl (by rw[hx2];exact KX 0 _) rfl rfl (by simp) rfl (M8 rfl)
 ·have e:i=l.length:=by omega
  subst e
  refine⟨rfl,[pW,.int .u8 kd,mkS (100+1) (l.map CV).length],DU++[mo (strV (l.map CV)) 9 1],?_,rfl,rfl,rfl⟩
  rw[Q7];exact Wk.refl _ _ _ _
theorem ADr(kd:Int)(l:List Int)(hl:l.length<1000)(hw:∀x∈l,OL x):BH Tryz.prog 100 [0,1,3,8,13,14,15] (KJ (LLw EM CV 171 172 kd DU l)):=by
 show BH Tryz.prog 100 [0,1,3,8,13,14,15] (lpS [0,1,8] _)
 refine FQ okp (W:=AP sy1 Sp0 [] [] [(172,sF (MF (fun n:Int => .int .i64 n) OL CV))] []) (EY (pu1 APO)) AZ ?_
 intro c n AB obs K h
 split at h<;>try exact h.elim
 obtain⟨hc,hn,hv2,ho,hA⟩:=h
 subst hc;subst hn;subst ho
 simp only[List.cons.injEq]at hv2
 obtain⟨rfl,rfl,rfl⟩:=hv2
 refine⟨{i:Nat // i<=l.length},1,300,fun a=>l.length-a.1,ILw EM CV 172 kd DU l,fun _ e v o=>RLw CV kd DU l e v o,⟨0,Nat.zero_le _⟩,rfl,?_,?_,AIt kd l hl hw⟩
 ·exact IP (va:=[pW,.int .u8 kd,fnV 172])
 ·intro e v o hR
  obtain⟨rfl,rfl,rfl⟩:=hR
  exact hA
theorem AIw(len:Nat)(vs:Lv)(hv:BL (100+2) vs=true)(kd:Int)(l:List Int)(hl:l.length<1000)(hw:∀x∈l,OL x)(i:{i:Nat // i<=l.length}):
  Is (wpe Tryz.prog (real Tryz.prog) (AP TS Sp0 [] [] [(172,sF (MF (fun n:Int => .int .i64 n) OL CV))] []) 300 (.code false (AJ Tryz.prog 171 2) (CX 100 35 [0,1,3,8,13,14,15] [] (ILw EM CV 172 kd (EF len vs) l i))) (A7 100 [0,1,3,8,13,14,15] [0,1,8] 35 []
   (fun AB AC=>∃a':{i:Nat // i<=l.length},l.length-a'.1<l.length-i.1/\Wk 100 (100+2) AB AC (ILw EM CV 172 kd (EF len vs) l a').1 (ILw EM CV 172 kd (EF len vs) l a').2/\∀e v o,RLw CV kd (EF len vs) l e v o->RLw CV kd (EF len vs) l e v o)
   (fun e AB AC=>∃v o,Wk 100 (100+2) AB AC v o/\RLw CV kd (EF len vs) l e v o))):=by
 refine⟨?_⟩
 obtain⟨i,hi⟩:=i
 show AC9 (real Tryz.prog) (MF (fun n:Int => .int .i64 n) OL CV) (some (wrC (.slice (some ⟨101,0,none⟩) len len))) (some (.cells vs 94 2 true true)) (tk CV l i).length (mo (strV (tk CV l i)) 9 1) kd (rowsOf EM l) (l.length:Int) (i:Int) _ _
 rw[ABz]
 have hT:J3=140737488355328:=rfl
 have htk:=Q8 CV hi
 refine EL (fun hlt=>?_) (fun hge=>?_)
 ·have hx:l[i]?=some l[i]:=by simp[hlt]
  generalize l[i]=x at hx
  have hx2:=OB (one:=CV) hx
  have hlen:=congrArg List.length hx2
  rw[List.length_append,D5,D5]at hlen
  refine DK i rfl (CL hx) rfl (CG rfl (⟨x,rfl,hw x (List.mem_of_getElem? hx),D6 (by rw[D5,Nat.mul_one]) (by omega) (FV (by omega) rfl rfl (by omega) (by omega) (BZ (by omega) ⟨rfl,⟨i+1,hlt⟩,?_,?_,fun _ _ _ h=>h⟩))⟩))
  ·show l.length-(i+1)<l.length-i
   omega
  ·show Wk 100 (100+2) _ _ ([pW,.int .u8 kd,fnV 172]++mkS (100+2) (tk CV l (i+1)).length::_) ((EF len vs)++[mo (strV (tk CV l (i+1))) 9 1])
   rw[←hx2,J4 (by simp),←hlen]
   exact IU (k0:=2) (j:=4) (va:=[pW,.int .u8 kd,fnV 172]) (by omega) rfl (by rw[hx2];exact KX 0 _) rfl rfl (by simp) rfl (WU hv rfl rfl)
 ·have e:i=l.length:=by omega
  subst e
  refine⟨rfl,[pW,.int .u8 kd,mkS (100+2) (l.map CV).length],(EF len vs)++[mo (strV (l.map CV)) 9 1],?_,rfl,rfl,rfl⟩
  rw[Q7];exact Wk.refl _ _ _ _
theorem AKj(len:Nat)(vs:Lv)(hv:BL (100+2) vs=true)(kd:Int)(l:List Int)(hl:l.length<1000)(hw:∀x∈l,OL x):BH Tryz.prog 100 [0,1,3,8,13,14,15] (KJ (LLw EM CV 171 172 kd (EF len vs) l)):=by
 show BH Tryz.prog 100 [0,1,3,8,13,14,15] (lpS [0,1,8] _)
 refine FQ okp (W:=AP TS Sp0 [] [] [(172,sF (MF (fun n:Int => .int .i64 n) OL CV))] []) (EY (pu1 APO)) AZ ?_
 intro c n AB obs K h
 split at h<;>try exact h.elim
 obtain⟨hc,hn,hv2,ho,hA⟩:=h
 subst hc;subst hn;subst ho
 simp only[List.cons.injEq]at hv2
 obtain⟨rfl,rfl,rfl⟩:=hv2
 refine⟨{i:Nat // i<=l.length},2,300,fun a=>l.length-a.1,ILw EM CV 172 kd (EF len vs) l,fun _ e v o=>RLw CV kd (EF len vs) l e v o,⟨0,Nat.zero_le _⟩,rfl,?_,?_,AIw len vs hv kd l hl hw⟩
 ·exact IP (va:=[pW,.int .u8 kd,fnV 172])
 ·intro e v o hR
  obtain⟨rfl,rfl,rfl⟩:=hR
  exact hA
theorem AMw(k:Nat)(hk:k<256)(l:List Int)(hl:l.length<1000)(hs:(bytesOf (EJ (l.map CV))).data.toList=[]):
  Is (ABu (real Tryz.prog) MR MSr (LLw EM CV 171 172 k DU l) (k:Int) (rowsOf EM l) (QT [some (wrC (.slice none 0 0))])):=by
 refine⟨?_⟩
 rw[oG]
 exact BI l.length (AQ _ _) ⟨rfl,rfl,rfl,rfl,rfl,l.map CV,by rw[List.length_map];omega,rfl,rfl,rfl,PI k hk (fun _=>⟨rfl,I1 (k0:=1) (pre:=[some (wrC (.slice none 0 0))]) rfl rfl (fun i o h=>(M8 (AC:=DU) rfl i o h).2)⟩) (fun h=>absurd hs h)⟩
theorem AMt(k:Nat)(hk:k<256)(l:List Int)(hl:l.length<1000)(hs:(bytesOf (EJ (l.map CV))).data.toList≠[]):
  Is (ABu (real Tryz.prog) MR MSr (LLw EM CV 171 172 k DU l) (k:Int) (rowsOf EM l) (QT [some (wrC (.slice (some ⟨101,0,none⟩) 1 1)),some (.cells (BS [⟨k,bytesOf (EJ (l.map CV))⟩]) 94 2 true true)])):=by
 refine⟨?_⟩
 rw[oG]
 exact BI l.length (AQ _ _) ⟨rfl,rfl,rfl,rfl,rfl,l.map CV,by rw[List.length_map];omega,rfl,rfl,rfl,PI k hk (fun h=>absurd h hs) (fun _=>⟨rfl,lU 2 (by omega) rfl rfl rfl⟩)⟩
theorem AMz(k:Nat)(hk:k<256)(l:List Int)(hl:l.length<1000){len:Nat}{vs:Lv}{L:List At}(hL:isA len vs L):
  Is (AGX (real Tryz.prog) MR MSr (LLw EM CV 171 172 k (EF len vs) l) len vs (k:Int) (rowsOf EM l) (QT2 [some (wrC (.slice (some ⟨102,0,none⟩) (IY L k (bytesOf (EJ (l.map CV)))).length (IY L k (bytesOf (EJ (l.map CV)))).length)),none,some (.cells (BS (IY L k (bytesOf (EJ (l.map CV))))) 94 2 true true)])):=by
 refine⟨?_⟩
 rw[AEF]
 exact BI l.length (AQ _ _) ⟨rfl,rfl,rfl,rfl,rfl,l.map CV,by rw[List.length_map];omega,rfl,rfl,rfl,L,k,rfl,hk,hL,rfl,U4 3 (by omega) rfl rfl (BJ _)⟩
theorem AR4:JU Tryz.prog 100 171 (NE 172 MR (MLr EM OL CV)):=by
 intro args H K h
 unfold NE at h
 split at h<;>try exact h.elim
 rename_i a kind tt rs gg x y
 split at h<;>try exact h.elim
 rename_i e1 e2
 obtain rfl:=Nat.eq_of_beq_eq_true e1
 obtain rfl:=Nat.eq_of_beq_eq_true e2
 obtain⟨l,rfl,hl,hw,h⟩:=h
 refine lT (rest:=[.int .u8 kind,dsl (rowsOf EM l),fnV 172]) rfl ?_ ?_ h
 ·rintro A B' ⟨k,rfl,hk,hA,hB⟩
  by_cases hs:(bytesOf (EJ (l.map CV))).data.toList=[]
  ·exact .inl ⟨hA hs,fun B=>RV QQ (lp1 (ADr k l hl hw)) (AMw k hk l hl hs) B⟩
  ·exact .inr ⟨_,BJ _,hB hs,fun B=>RV QQ (lp1 (ADr k l hl hw)) (AMt k hk l hl hs) B⟩
 ·rintro len vs K ⟨L,k,rfl,hk,hL,hK⟩
  exact⟨_,_,by rw[hL.1];exact BJ _,BJ _,hK,fun B=>Y5 QQ (lp1 (AKj len vs (by rw[hL.1];exact M6 _ _) k l hl hw)) (AMz k hk l hl hL) B⟩
theorem AIu(kd:Int)(l:List Nat)(hl:l.length<1000)(hw:∀x∈l,L6 x)(i:{i:Nat // i<=l.length}):
  Is (wpe Tryz.prog (real Tryz.prog) (AP sy1 Sp0 [] [] [(140,sF (MF (fun n:Nat => .int .u64 (n:Int)) L6 BU))] []) 300 (.code false (AJ Tryz.prog 179 2) (CX 100 35 [0,1,3,8,13,14,15] [] (ILw DJ BU 140 kd DU l i))) (A7 100 [0,1,3,8,13,14,15] [0,1,8] 35 []
   (fun AB AC=>∃a':{i:Nat // i<=l.length},l.length-a'.1<l.length-i.1/\Wk 100 (100+1) AB AC (ILw DJ BU 140 kd DU l a').1 (ILw DJ BU 140 kd DU l a').2/\∀e v o,RLw BU kd DU l e v o->RLw BU kd DU l e v o)
   (fun e AB AC=>∃v o,Wk 100 (100+1) AB AC v o/\RLw BU kd DU l e v o))):=by
 refine⟨?_⟩
 obtain⟨i,hi⟩:=i
 show AC7 (real Tryz.prog) (MF (fun n:Nat => .int .u64 (n:Int)) L6 BU) (some (wrC (.slice none 0 0))) (tk BU l i).length (mo (strV (tk BU l i)) 9 1) kd (rowsOf DJ l) (l.length:Int) (i:Int) _ _
 rw[ABx]
 have hT:J3=140737488355328:=rfl
 have htk:=Q8 BU hi
 refine EL (fun hlt=>?_) (fun hge=>?_)
 ·have hx:l[i]?=some l[i]:=by simp[hlt]
  generalize l[i]=x at hx
  have hx2:=OB (one:=BU) hx
  have hlen:=congrArg List.length hx2
  rw[List.length_append,D5,D5]at hlen
  refine DK i rfl (CL hx) rfl (CG rfl (⟨x,rfl,hw x (List.mem_of_getElem? hx),D6 (by rw[D5,Nat.mul_one]) (by omega) (FV (by omega) rfl rfl (by omega) (by omega) (BZ (by omega) ⟨rfl,⟨i+1,hlt⟩,?_,?_,fun _ _ _ h=>h⟩))⟩))
  ·show l.length-(i+1)<l.length-i
   omega
  ·show Wk 100 (100+1) _ _ ([pW,.int .u8 kd,fnV 140]++mkS (100+1) (tk BU l (i+1)).length::_) (DU++[mo (strV (tk BU l (i+1))) 9 1])
   rw[←hx2,J4 (by simp),←hlen]
   exact IU (k0:=1) (j:=3) (va:=[pW,.int .u8 kd,fnV 140]) (by omega) rfl (by rw[hx2];exact KX 0 _) rfl rfl (by simp) rfl (M8 rfl)
 ·have e:i=l.length:=by omega
  subst e
  refine⟨rfl,[pW,.int .u8 kd,mkS (100+1) (l.map BU).length],DU++[mo (strV (l.map BU)) 9 1],?_,rfl,rfl,rfl⟩
  rw[Q7];exact Wk.refl _ _ _ _
theorem ADs(kd:Int)(l:List Nat)(hl:l.length<1000)(hw:∀x∈l,L6 x):BH Tryz.prog 100 [0,1,3,8,13,14,15] (KJ (LLw DJ BU 179 140 kd DU l)):=by
 show BH Tryz.prog 100 [0,1,3,8,13,14,15] (lpS [0,1,8] _)
 refine FQ okp (W:=AP sy1 Sp0 [] [] [(140,sF (MF (fun n:Nat => .int .u64 (n:Int)) L6 BU))] []) (EY (pu1 ALM)) AZ ?_
 intro c n AB obs K h
 split at h<;>try exact h.elim
 obtain⟨hc,hn,hv2,ho,hA⟩:=h
 subst hc;subst hn;subst ho
 simp only[List.cons.injEq]at hv2
 obtain⟨rfl,rfl,rfl⟩:=hv2
 refine⟨{i:Nat // i<=l.length},1,300,fun a=>l.length-a.1,ILw DJ BU 140 kd DU l,fun _ e v o=>RLw BU kd DU l e v o,⟨0,Nat.zero_le _⟩,rfl,?_,?_,AIu kd l hl hw⟩
 ·exact IP (va:=[pW,.int .u8 kd,fnV 140])
 ·intro e v o hR
  obtain⟨rfl,rfl,rfl⟩:=hR
  exact hA
theorem AIx(len:Nat)(vs:Lv)(hv:BL (100+2) vs=true)(kd:Int)(l:List Nat)(hl:l.length<1000)(hw:∀x∈l,L6 x)(i:{i:Nat // i<=l.length}):
  Is (wpe Tryz.prog (real Tryz.prog) (AP TS Sp0 [] [] [(140,sF (MF (fun n:Nat => .int .u64 (n:Int)) L6 BU))] []) 300 (.code false (AJ Tryz.prog 179 2) (CX 100 35 [0,1,3,8,13,14,15] [] (ILw DJ BU 140 kd (EF len vs) l i))) (A7 100 [0,1,3,8,13,14,15] [0,1,8] 35 []
   (fun AB AC=>∃a':{i:Nat // i<=l.length},l.length-a'.1<l.length-i.1/\Wk 100 (100+2) AB AC (ILw DJ BU 140 kd (EF len vs) l a').1 (ILw DJ BU 140 kd (EF len vs) l a').2/\∀e v o,RLw BU kd (EF len vs) l e v o->RLw BU kd (EF len vs) l e v o)
   (fun e AB AC=>∃v o,Wk 100 (100+2) AB AC v o/\RLw BU kd (EF len vs) l e v o))):=by
 refine⟨?_⟩
 obtain⟨i,hi⟩:=i
 show ADa (real Tryz.prog) (MF (fun n:Nat => .int .u64 (n:Int)) L6 BU) (some (wrC (.slice (some ⟨101,0,none⟩) len len))) (some (.cells vs 94 2 true true)) (tk BU l i).length (mo (strV (tk BU l i)) 9 1) kd (rowsOf DJ l) (l.length:Int) (i:Int) _ _
 rw[ABA]
 have hT:J3=140737488355328:=rfl
 have htk:=Q8 BU hi
 refine EL (fun hlt=>?_) (fun hge=>?_)
 ·have hx:l[i]?=some l[i]:=by simp[hlt]
  generalize l[i]=x at hx
  have hx2:=OB (one:=BU) hx
  have hlen:=congrArg List.length hx2
  rw[List.length_append,D5,D5]at hlen
  refine DK i rfl (CL hx) rfl (CG rfl (⟨x,rfl,hw x (List.mem_of_getElem? hx),D6 (by rw[D5,Nat.mul_one]) (by omega) (FV (by omega) rfl rfl (by omega) (by omega) (BZ (by omega) ⟨rfl,⟨i+1,hlt⟩,?_,?_,fun _ _ _ h=>h⟩))⟩))
  ·show l.length-(i+1)<l.length-i
   omega
  ·show Wk 100 (100+2) _ _ ([pW,.int .u8 kd,fnV 140]++mkS (100+2) (tk BU l (i+1)).length::_) ((EF len vs)++[mo (strV (tk BU l (i+1))) 9 1])
   rw[←hx2,J4 (by simp),←hlen]
   exact IU (k0:=2) (j:=4) (va:=[pW,.int .u8 kd,fnV 140]) (by omega) rfl (by rw[hx2];exact KX 0 _) rfl rfl (by simp) rfl (WU hv rfl rfl)
 ·have e:i=l.length:=by omega
  subst e
  refine⟨rfl,[pW,.int .u8 kd,mkS (100+2) (l.map BU).length],(EF len vs)++[mo (strV (l.map BU)) 9 1],?_,rfl,rfl,rfl⟩
  rw[Q7];exact Wk.refl _ _ _ _
theorem AKk(len:Nat)(vs:Lv)(hv:BL (100+2) vs=true)(kd:Int)(l:List Nat)(hl:l.length<1000)(hw:∀x∈l,L6 x):BH Tryz.prog 100 [0,1,3,8,13,14,15] (KJ (LLw DJ BU 179 140 kd (EF len vs) l)):=by
 show BH Tryz.prog 100 [0,1,3,8,13,14,15] (lpS [0,1,8] _)
 refine FQ okp (W:=AP TS Sp0 [] [] [(140,sF (MF (fun n:Nat => .int .u64 (n:Int)) L6 BU))] []) (EY (pu1 ALM)) AZ ?_
 intro c n AB obs K h
 split at h<;>try exact h.elim
 obtain⟨hc,hn,hv2,ho,hA⟩:=h
 subst hc;subst hn;subst ho
 simp only[List.cons.injEq]at hv2
 obtain⟨rfl,rfl,rfl⟩:=hv2
 refine⟨{i:Nat // i<=l.length},2,300,fun a=>l.length-a.1,ILw DJ BU 140 kd (EF len vs) l,fun _ e v o=>RLw BU kd (EF len vs) l e v o,⟨0,Nat.zero_le _⟩,rfl,?_,?_,AIx len vs hv kd l hl hw⟩
 ·exact IP (va:=[pW,.int .u8 kd,fnV 140])
 ·intro e v o hR
  obtain⟨rfl,rfl,rfl⟩:=hR
  exact hA
theorem AMx(k:Nat)(hk:k<256)(l:List Nat)(hl:l.length<1000)(hs:(bytesOf (EJ (l.map BU))).data.toList=[]):
  Is (ABw (real Tryz.prog) MR MSr (LLw DJ BU 179 140 k DU l) (k:Int) (rowsOf DJ l) (QT [some (wrC (.slice none 0 0))])):=by
 refine⟨?_⟩
 rw[oH]
 exact BI l.length (AQ _ _) ⟨rfl,rfl,rfl,rfl,rfl,l.map BU,by rw[List.length_map];omega,rfl,rfl,rfl,PI k hk (fun _=>⟨rfl,I1 (k0:=1) (pre:=[some (wrC (.slice none 0 0))]) rfl rfl (fun i o h=>(M8 (AC:=DU) rfl i o h).2)⟩) (fun h=>absurd hs h)⟩
theorem AMu(k:Nat)(hk:k<256)(l:List Nat)(hl:l.length<1000)(hs:(bytesOf (EJ (l.map BU))).data.toList≠[]):
  Is (ABw (real Tryz.prog) MR MSr (LLw DJ BU 179 140 k DU l) (k:Int) (rowsOf DJ l) (QT [some (wrC (.slice (some ⟨101,0,none⟩) 1 1)),some (.cells (BS [⟨k,bytesOf (EJ (l.map BU))⟩]) 94 2 true true)])):=by
 refine⟨?_⟩
 rw[oH]
 exact BI l.length (AQ _ _) ⟨rfl,rfl,rfl,rfl,rfl,l.map BU,by rw[List.length_map];omega,rfl,rfl,rfl,PI k hk (fun h=>absurd h hs) (fun _=>⟨rfl,lU 2 (by omega) rfl rfl rfl⟩)⟩
theorem AMA(k:Nat)(hk:k<256)(l:List Nat)(hl:l.length<1000){len:Nat}{vs:Lv}{L:List At}(hL:isA len vs L):
  Is (AGY (real Tryz.prog) MR MSr (LLw DJ BU 179 140 k (EF len vs) l) len vs (k:Int) (rowsOf DJ l) (QT2 [some (wrC (.slice (some ⟨102,0,none⟩) (IY L k (bytesOf (EJ (l.map BU)))).length (IY L k (bytesOf (EJ (l.map BU)))).length)),none,some (.cells (BS (IY L k (bytesOf (EJ (l.map BU))))) 94 2 true true)])):=by
 refine⟨?_⟩
 rw[AEG]
 exact BI l.length (AQ _ _) ⟨rfl,rfl,rfl,rfl,rfl,l.map BU,by rw[List.length_map];omega,rfl,rfl,rfl,L,k,rfl,hk,hL,rfl,U4 3 (by omega) rfl rfl (BJ _)⟩
theorem AR5:JU Tryz.prog 100 179 (NE 140 MR (MLr DJ L6 BU)):=by
 intro args H K h
 unfold NE at h
 split at h<;>try exact h.elim
 rename_i a kind tt rs gg x y
 split at h<;>try exact h.elim
 rename_i e1 e2
 obtain rfl:=Nat.eq_of_beq_eq_true e1
 obtain rfl:=Nat.eq_of_beq_eq_true e2
 obtain⟨l,rfl,hl,hw,h⟩:=h
 refine lT (rest:=[.int .u8 kind,dsl (rowsOf DJ l),fnV 140]) rfl ?_ ?_ h
 ·rintro A B' ⟨k,rfl,hk,hA,hB⟩
  by_cases hs:(bytesOf (EJ (l.map BU))).data.toList=[]
  ·exact .inl ⟨hA hs,fun B=>RV QQ (lp1 (ADs k l hl hw)) (AMx k hk l hl hs) B⟩
  ·exact .inr ⟨_,BJ _,hB hs,fun B=>RV QQ (lp1 (ADs k l hl hw)) (AMu k hk l hl hs) B⟩
 ·rintro len vs K ⟨L,k,rfl,hk,hL,hK⟩
  exact⟨_,_,by rw[hL.1];exact BJ _,BJ _,hK,fun B=>Y5 QQ (lp1 (AKk len vs (by rw[hL.1];exact M6 _ _) k l hl hw)) (AMA k hk l hl hL) B⟩
end
end Go.Proofs.Ob
