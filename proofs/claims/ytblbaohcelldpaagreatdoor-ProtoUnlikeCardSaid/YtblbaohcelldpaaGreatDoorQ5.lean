/- Are two objects, or two messages, the same: the program. -/
import Derived.Test.YtblbaohcelldpaaGreatDoorQ4
set_option linter.all false
namespace Go.Proofs.YtblbaohcelldpaaGreatDoor.Ob
open Go Go.Abs Go.Tlv
set_option maxRecDepth 100000
noncomputable section
abbrev LQt:=Code->Nat->List Value->List (Option AObj)->Prop->Prop->Prop
def sLpQ(L:LQt):LpS:=lpS [4] fun c n vals obs K=>L c n vals obs (K (.exit 0) [top] []) (K .ret [.bool false] [])
def IQ{α:Type}(c:α->List Value)(l m:List α)(i:StQ l m):List Value×List (Option AObj):=([dsl (rowsOf c l),dsl (rowsOf c m),.int .i64 (l.length:Int),.int .i64 (i.1:Int)],[])
def RQ{α:Type}(l m:List α)(e:Exit)(v:List Value)(o:List (Option AObj)):Prop:=(l=m/\e = .exit 0/\v=[top]/\o=[])∨(l≠m/\e = .ret/\v=[.bool false]/\o=[])
def LQr{α:Type}(f:Nat)(c:α->List Value)(l m:List α):LQt:=fun code n vals obs A E=>code=loopIn Tryz.prog f 4/\n=26/\vals=[dsl (rowsOf c l),dsl (rowsOf c m),.int .i64 (l.length:Int),.int .i64 0]/\obs=[]/\(l=m->A)/\(l≠m->E)
theorem lpQ{α:Type}{f:Nat}{c:α->List Value}{l m:List α}(h:∀i:StQ l m,Is (wpe Tryz.prog (real Tryz.prog) (howOf Z0 Zp [] [] [] []) 300 (.code false (loopIn Tryz.prog f 4) (stOf 100 26 [0,1,12,13] [] (IQ c l m i))) (roundQ 100 [0,1,12,13] [4] 26 []
   (fun vals objs=>∃a':StQ l m,l.length-a'.1<l.length-i.1/\Wk 100 (100+0) vals objs (IQ c l m a').1 (IQ c l m a').2/\∀e v o,RQ l m e v o->RQ l m e v o)
   (fun e vals objs=>∃v o,Wk 100 (100+0) vals objs v o/\RQ l m e v o)))):LoopOk Tryz.prog 100 [0,1,12,13] (sLpQ (LQr f c l m)):=by
 show LoopOk Tryz.prog 100 [0,1,12,13] (lpS [4] _)
 refine lp_mk okp (W:=howOf Z0 Zp [] [] [] []) kn_none lp_none ?_
 rintro cc n vals obs K ⟨hc,hn,hv,ho,hA,hE⟩
 subst hc;subst hn;subst hv;subst ho
 refine⟨StQ l m,0,300,fun a=>l.length-a.1,IQ c l m,fun _ e v o=>RQ l m e v o,⟨0,⟨Nat.zero_le _,rfl⟩⟩,rfl,Wk.refl _ _ _ _,?_,h⟩
 intro e v o hR
 rcases hR with⟨h1,rfl,rfl,rfl⟩ | ⟨h1,rfl,rfl,rfl⟩
 ·exact hA h1
 ·exact hE h1
abbrev MEq:=List Value->List Value->Prop->Prop->Prop
def sEq(M:MEq):List Value->(Value->Prop)->Prop
 | [.iface t (.agg ⟨a⟩),.iface t' (.agg ⟨b⟩)],K=>match Nat.beq t mkD&&Nat.beq t' mkD with
  |true=>M a b (K (.bool true)) (K (.bool false))
  |false=>False
 |_,_=>False
def MEqr{α:Type}(c:α->List Value):MEq:=fun a b A E=>∃l m:List α,a=rowsOf c l/\b=rowsOf c m/\l.length<1000000000/\(l=m->A)/\(l≠m->E)
theorem pu_eq{α:Type}{c:α->List Value}{f:FuncId}(h:∀l m:List α,l.length<1000000000->∃b:Bool,(b=true↔l=m)/\∀B H,CallH Tryz.prog 100 B f [dsl (rowsOf c l),dsl (rowsOf c m)] H (.returned (.bool b)) H):PuOk Tryz.prog 100 f (sEq (MEqr c)):=by
 intro args K hs
 unfold sEq at hs
 split at hs<;>try exact hs.elim
 rename_i t a t' b
 split at hs<;>try exact hs.elim
 rename_i ht
 simp only[Bool.and_eq_true]at ht
 obtain rfl:=Nat.eq_of_beq_eq_true ht.1
 obtain rfl:=Nat.eq_of_beq_eq_true ht.2
 obtain⟨l,m,rfl,rfl,hl,hA,hE⟩:=hs
 obtain⟨q,h1,h2⟩:=h l m hl
 refine⟨.bool q,h2,?_⟩
 cases q with
 |true=>exact hA (h1.1 rfl)
 |false=>exact hE (fun h=>by have:=h1.2 h;cases this)
def gEqNat(N:Nd)(L:LQt)(r r2:List Value)(K:Value->Prop):Prop:=wpe Tryz.prog N (howOf Z0 Zp [] [(4,(26,([0,1,12,13],sLpQ L)))] [] []) 300 (.call 63 [(dsl r),(dsl r2)] h0) (retV K)
theorem gEqNat_eq(N:Nd)(L:LQt)(r r2:List Value)(K:Value->Prop):gEqNat N L r r2 K=N.dlen r fun n=>N.dlen r2 fun m=>N.cmp .neq .i64 n .i64 m (K (.bool false)) (N.dlen r fun n=>L (loopIn Tryz.prog 63 4) 26 [dsl r,dsl r2,.int .i64 n,.int .i64 0] [] (K (.bool true)) (K (.bool false))):=by kernel_rfl
def gEqNatR(N:Nd)(r r2:List Value)(n i:Int)(back:List Value->List (Option AObj)->Prop)(out:Exit->List Value->List (Option AObj)->Prop):Prop:=
 wpe Tryz.prog N (howOf Z0 Zp [] [] [] []) 300 (.code false (loopIn Tryz.prog 63 4) (stOf 100 26 [0,1,12,13] [] ([dsl r,dsl r2,.int .i64 n,.int .i64 i],[]))) (roundQ 100 [0,1,12,13] [4] 26 [] back out)
theorem gEqNatR_eq(N:Nd)(r r2:List Value)(n i:Int)(back:Bk)(out:Ot):gEqNatR N r r2 n i back out=N.cmp .lss .i64 i .i64 n (N.dget r i 1 fun ca=>N.rdI .u64 ca 0 fun za0=>N.dget r2 i 1 fun cb=>N.rdI .u64 cb 0 fun zb0=>N.cmp .neq .u64 za0 .u64 zb0 (([]:List Deferred)=[]/\out .ret [.bool false] []) (N.ari .add .i64 i .i64 1 fun j=>([]:List Deferred)=[]/\back [dsl r,dsl r2,.int .i64 n,.int .i64 j] [])) (([]:List Deferred)=[]/\out (.exit 0) [top] []):=by kernel_rfl
theorem rndQNat(l m:List Nat)(hl:l.length<1000000000)(hm:l.length=m.length)(i:StQ l m):Is (wpe Tryz.prog (real Tryz.prog) (howOf Z0 Zp [] [] [] []) 300 (.code false (loopIn Tryz.prog 63 4) (stOf 100 26 [0,1,12,13] [] (IQ cNat l m i))) (roundQ 100 [0,1,12,13] [4] 26 []
   (fun vals objs=>∃a':StQ l m,l.length-a'.1<l.length-i.1/\Wk 100 (100+0) vals objs (IQ cNat l m a').1 (IQ cNat l m a').2/\∀e v o,RQ l m e v o->RQ l m e v o)
   (fun e vals objs=>∃v o,Wk 100 (100+0) vals objs v o/\RQ l m e v o))):=by
 refine⟨?_⟩
 obtain⟨i,inv⟩:=i
 have hi:=inv.le
 show gEqNatR (real Tryz.prog) (rowsOf cNat l) (rowsOf cNat m) (l.length:Int) (i:Int) _ _
 rw[gEqNatR_eq]
 refine n_ltN (fun hlt=>?_) (fun hge=>?_)
 ·have ha:l[i]?=some l[i]:=List.getElem?_eq_getElem hlt
  have hlt2:i<m.length:=by omega
  have hb2:m[i]?=some m[i]:=List.getElem?_eq_getElem hlt2
  generalize l[i]=a at ha
  generalize m[i]=b at hb2
  have hms:l.length-(i+1)<l.length-i:=by omega
  refine n_dget i rfl (rowsOf_get ha) rfl (n_rdI rfl (n_dget i rfl (rowsOf_get hb2) rfl (n_rdI rfl (n_neN (fun h=>?_) (fun h=>?_)))))
  ·have hne:a≠b:=h
   exact⟨rfl,_,_,Wk.refl _ _ _ _,.inr ⟨fun e=>hne (by rw[e,hb2]at ha;simpa using ha.symm),rfl,rfl,rfl⟩⟩
  ·have he:a=b:=h
   subst he
   exact n_inc (by omega) ⟨rfl,⟨i+1,⟨hlt,take_next inv.eq ha hb2⟩⟩,hms,Wk.refl _ _ _ _,fun _ _ _ h=>h⟩
 ·have e:i=l.length:=by omega
  have h:=inv.eq
  rw[e,List.take_length,hm,List.take_length]at h
  exact⟨rfl,[top],[],Wk.refl _ _ _ _,.inl ⟨h,rfl,rfl,rfl⟩⟩
theorem eqNatC(l m:List Nat):Is (gEqNat (real Tryz.prog) (LQr 63 cNat l m) (rowsOf cNat l) (rowsOf cNat m) (fun v=>∃b:Bool,v = .bool b/\(b=true↔l=m))):=by
 refine⟨?_⟩
 rw[gEqNat_eq]
 exact n_dlen l.length (rowsOf_len _ _) (n_dlen m.length (rowsOf_len _ _) (n_neN (fun h=>⟨false,rfl,no_eq (fun z:List Nat=>z.length) h⟩) (fun _=>n_dlen l.length (rowsOf_len _ _) ⟨rfl,rfl,rfl,rfl,fun h=>⟨true,rfl,fun _=>h,fun _=>rfl⟩,fun h=>⟨false,rfl,no_eq id h⟩⟩)))
def gEnNat(N:Nd)(r r2:List Value)(X:Prop)(K:Value->Prop):Prop:=wpe Tryz.prog N (howOf Z0 Zp [] [(4,(26,([0,1,12,13],fun _ _ _ _ _ _=>False)))] [] []) 300 (.call 63 [(dsl r),(dsl r2)] h0) (retV K)
theorem gEnNat_eq(N:Nd)(r r2:List Value)(X:Prop)(K:Value->Prop):gEnNat N r r2 X K=N.dlen r fun n=>N.dlen r2 fun m=>N.cmp .neq .i64 n .i64 m (K (.bool false)) (N.dlen r fun _=>False):=by kernel_rfl
theorem eqNatN(l m:List Nat)(hm:¬l.length=m.length):Is (gEnNat (real Tryz.prog) (rowsOf cNat l) (rowsOf cNat m) True (fun v=>∃b:Bool,v = .bool b/\(b=true↔l=m))):=by
 refine⟨?_⟩
 rw[gEnNat_eq]
 exact n_dlen l.length (rowsOf_len _ _) (n_dlen m.length (rowsOf_len _ _) (n_neN (fun h=>⟨false,rfl,no_eq (fun z:List Nat=>z.length) h⟩) (fun h=>absurd h hm)))
theorem lpFNat{sy:Sy}{kn:KnL}{pu:PuL}:LpOk Tryz.prog 100 (howOf sy Zp kn [(4,(26,([0,1,12,13],fun _ _ _ _ _ _=>False)))] pu []):=lp_ok (fun x hx=>by simp only[List.mem_singleton]at hx;subst hx;exact fun c n vals ds h Q hF=>hF.elim)
theorem eqNatH(l m:List Nat)(hl:l.length<1000000000):∃b:Bool,(b=true↔l=m)/\∀B H,CallH Tryz.prog 100 B 63 [dsl (rowsOf cNat l),dsl (rowsOf cNat m)] H (.returned (.bool b)) H:=by
 by_cases hm:l.length=m.length
 ·exact pu_mkB2 kn_none (lp_ok (fun z hz=>by simp only[List.mem_singleton]at hz;subst hz;exact lpQ (rndQNat l m hl hm))) rfl (eqNatC l m)
 ·exact pu_mkB2 kn_none lpFNat rfl (eqNatN l m hm)
theorem puEqNat:PuOk Tryz.prog 100 63 (sEq (MEqr cNat)):=pu_eq eqNatH
def gEqArm(N:Nd)(L:LQt)(r r2:List Value)(K:Value->Prop):Prop:=wpe Tryz.prog N (howOf Z0 Zp [] [(4,(26,([0,1,12,13],sLpQ L)))] [] []) 300 (.call 131 [(dsl r),(dsl r2)] h0) (retV K)
theorem gEqArm_eq(N:Nd)(L:LQt)(r r2:List Value)(K:Value->Prop):gEqArm N L r r2 K=N.dlen r fun n=>N.dlen r2 fun m=>N.cmp .neq .i64 n .i64 m (K (.bool false)) (N.dlen r fun n=>L (loopIn Tryz.prog 131 4) 26 [dsl r,dsl r2,.int .i64 n,.int .i64 0] [] (K (.bool true)) (K (.bool false))):=by kernel_rfl
def gEqArmR(N:Nd)(r r2:List Value)(n i:Int)(back:List Value->List (Option AObj)->Prop)(out:Exit->List Value->List (Option AObj)->Prop):Prop:=
 wpe Tryz.prog N (howOf Z0 Zp [] [] [] []) 300 (.code false (loopIn Tryz.prog 131 4) (stOf 100 26 [0,1,12,13] [] ([dsl r,dsl r2,.int .i64 n,.int .i64 i],[]))) (roundQ 100 [0,1,12,13] [4] 26 [] back out)
theorem gEqArmR_eq(N:Nd)(r r2:List Value)(n i:Int)(back:Bk)(out:Ot):gEqArmR N r r2 n i back out=N.cmp .lss .i64 i .i64 n (N.dget r i 2 fun ca=>N.rdI .u32 ca 0 fun za0=>N.rdI .i64 ca 1 fun za1=>N.dget r2 i 2 fun cb=>N.rdI .u32 cb 0 fun zb0=>N.rdI .i64 cb 1 fun zb1=>N.agEq .neq 61 [.int .u32 za0,.int .i64 za1] [.int .u32 zb0,.int .i64 zb1] (([]:List Deferred)=[]/\out .ret [.bool false] []) (N.ari .add .i64 i .i64 1 fun j=>([]:List Deferred)=[]/\back [dsl r,dsl r2,.int .i64 n,.int .i64 j] [])) (([]:List Deferred)=[]/\out (.exit 0) [top] []):=by kernel_rfl
theorem rndQArm(l m:List Arm)(hl:l.length<1000000000)(hm:l.length=m.length)(i:StQ l m):Is (wpe Tryz.prog (real Tryz.prog) (howOf Z0 Zp [] [] [] []) 300 (.code false (loopIn Tryz.prog 131 4) (stOf 100 26 [0,1,12,13] [] (IQ cArm l m i))) (roundQ 100 [0,1,12,13] [4] 26 []
   (fun vals objs=>∃a':StQ l m,l.length-a'.1<l.length-i.1/\Wk 100 (100+0) vals objs (IQ cArm l m a').1 (IQ cArm l m a').2/\∀e v o,RQ l m e v o->RQ l m e v o)
   (fun e vals objs=>∃v o,Wk 100 (100+0) vals objs v o/\RQ l m e v o))):=by
 refine⟨?_⟩
 obtain⟨i,inv⟩:=i
 have hi:=inv.le
 show gEqArmR (real Tryz.prog) (rowsOf cArm l) (rowsOf cArm m) (l.length:Int) (i:Int) _ _
 rw[gEqArmR_eq]
 refine n_ltN (fun hlt=>?_) (fun hge=>?_)
 ·have ha:l[i]?=some l[i]:=List.getElem?_eq_getElem hlt
  have hlt2:i<m.length:=by omega
  have hb2:m[i]?=some m[i]:=List.getElem?_eq_getElem hlt2
  generalize l[i]=a at ha
  generalize m[i]=b at hb2
  have hms:l.length-(i+1)<l.length-i:=by omega
  refine n_dget i rfl (rowsOf_get ha) rfl (n_rdI rfl (n_rdI rfl (n_dget i rfl (rowsOf_get hb2) rfl (n_rdI rfl (n_rdI rfl (n_agNeq (ps:=[((a.v:Int),(b.v:Int)),(a.nx,b.nx)]) (by kernel_rfl) (by kernel_rfl) rfl rfl (fun h=>?_) (fun h=>?_)))))))
  ·have hne:a≠b:=(fun e=>by rw[(aeArm a b).2 e]at h;cases h)
   exact⟨rfl,_,_,Wk.refl _ _ _ _,.inr ⟨fun e=>hne (by rw[e,hb2]at ha;simpa using ha.symm),rfl,rfl,rfl⟩⟩
  ·have he:a=b:=(aeArm a b).1 h
   subst he
   exact n_inc (by omega) ⟨rfl,⟨i+1,⟨hlt,take_next inv.eq ha hb2⟩⟩,hms,Wk.refl _ _ _ _,fun _ _ _ h=>h⟩
 ·have e:i=l.length:=by omega
  have h:=inv.eq
  rw[e,List.take_length,hm,List.take_length]at h
  exact⟨rfl,[top],[],Wk.refl _ _ _ _,.inl ⟨h,rfl,rfl,rfl⟩⟩
theorem eqArmC(l m:List Arm):Is (gEqArm (real Tryz.prog) (LQr 131 cArm l m) (rowsOf cArm l) (rowsOf cArm m) (fun v=>∃b:Bool,v = .bool b/\(b=true↔l=m))):=by
 refine⟨?_⟩
 rw[gEqArm_eq]
 exact n_dlen l.length (rowsOf_len _ _) (n_dlen m.length (rowsOf_len _ _) (n_neN (fun h=>⟨false,rfl,no_eq (fun z:List Arm=>z.length) h⟩) (fun _=>n_dlen l.length (rowsOf_len _ _) ⟨rfl,rfl,rfl,rfl,fun h=>⟨true,rfl,fun _=>h,fun _=>rfl⟩,fun h=>⟨false,rfl,no_eq id h⟩⟩)))
def gEnArm(N:Nd)(r r2:List Value)(X:Prop)(K:Value->Prop):Prop:=wpe Tryz.prog N (howOf Z0 Zp [] [(4,(26,([0,1,12,13],fun _ _ _ _ _ _=>False)))] [] []) 300 (.call 131 [(dsl r),(dsl r2)] h0) (retV K)
theorem gEnArm_eq(N:Nd)(r r2:List Value)(X:Prop)(K:Value->Prop):gEnArm N r r2 X K=N.dlen r fun n=>N.dlen r2 fun m=>N.cmp .neq .i64 n .i64 m (K (.bool false)) (N.dlen r fun _=>False):=by kernel_rfl
theorem eqArmN(l m:List Arm)(hm:¬l.length=m.length):Is (gEnArm (real Tryz.prog) (rowsOf cArm l) (rowsOf cArm m) True (fun v=>∃b:Bool,v = .bool b/\(b=true↔l=m))):=by
 refine⟨?_⟩
 rw[gEnArm_eq]
 exact n_dlen l.length (rowsOf_len _ _) (n_dlen m.length (rowsOf_len _ _) (n_neN (fun h=>⟨false,rfl,no_eq (fun z:List Arm=>z.length) h⟩) (fun h=>absurd h hm)))
theorem lpFArm{sy:Sy}{kn:KnL}{pu:PuL}:LpOk Tryz.prog 100 (howOf sy Zp kn [(4,(26,([0,1,12,13],fun _ _ _ _ _ _=>False)))] pu []):=lp_ok (fun x hx=>by simp only[List.mem_singleton]at hx;subst hx;exact fun c n vals ds h Q hF=>hF.elim)
theorem eqArmH(l m:List Arm)(hl:l.length<1000000000):∃b:Bool,(b=true↔l=m)/\∀B H,CallH Tryz.prog 100 B 131 [dsl (rowsOf cArm l),dsl (rowsOf cArm m)] H (.returned (.bool b)) H:=by
 by_cases hm:l.length=m.length
 ·exact pu_mkB2 kn_none (lp_ok (fun z hz=>by simp only[List.mem_singleton]at hz;subst hz;exact lpQ (rndQArm l m hl hm))) rfl (eqArmC l m)
 ·exact pu_mkB2 kn_none lpFArm rfl (eqArmN l m hm)
theorem puEqArm:PuOk Tryz.prog 100 131 (sEq (MEqr cArm)):=pu_eq eqArmH
def gEqInt(N:Nd)(L:LQt)(r r2:List Value)(K:Value->Prop):Prop:=wpe Tryz.prog N (howOf Z0 Zp [] [(4,(26,([0,1,12,13],sLpQ L)))] [] []) 300 (.call 132 [(dsl r),(dsl r2)] h0) (retV K)
theorem gEqInt_eq(N:Nd)(L:LQt)(r r2:List Value)(K:Value->Prop):gEqInt N L r r2 K=N.dlen r fun n=>N.dlen r2 fun m=>N.cmp .neq .i64 n .i64 m (K (.bool false)) (N.dlen r fun n=>L (loopIn Tryz.prog 132 4) 26 [dsl r,dsl r2,.int .i64 n,.int .i64 0] [] (K (.bool true)) (K (.bool false))):=by kernel_rfl
def gEqIntR(N:Nd)(r r2:List Value)(n i:Int)(back:List Value->List (Option AObj)->Prop)(out:Exit->List Value->List (Option AObj)->Prop):Prop:=
 wpe Tryz.prog N (howOf Z0 Zp [] [] [] []) 300 (.code false (loopIn Tryz.prog 132 4) (stOf 100 26 [0,1,12,13] [] ([dsl r,dsl r2,.int .i64 n,.int .i64 i],[]))) (roundQ 100 [0,1,12,13] [4] 26 [] back out)
theorem gEqIntR_eq(N:Nd)(r r2:List Value)(n i:Int)(back:Bk)(out:Ot):gEqIntR N r r2 n i back out=N.cmp .lss .i64 i .i64 n (N.dget r i 1 fun ca=>N.rdI .i64 ca 0 fun za0=>N.dget r2 i 1 fun cb=>N.rdI .i64 cb 0 fun zb0=>N.cmp .neq .i64 za0 .i64 zb0 (([]:List Deferred)=[]/\out .ret [.bool false] []) (N.ari .add .i64 i .i64 1 fun j=>([]:List Deferred)=[]/\back [dsl r,dsl r2,.int .i64 n,.int .i64 j] [])) (([]:List Deferred)=[]/\out (.exit 0) [top] []):=by kernel_rfl
theorem rndQInt(l m:List Int)(hl:l.length<1000000000)(hm:l.length=m.length)(i:StQ l m):Is (wpe Tryz.prog (real Tryz.prog) (howOf Z0 Zp [] [] [] []) 300 (.code false (loopIn Tryz.prog 132 4) (stOf 100 26 [0,1,12,13] [] (IQ cInt l m i))) (roundQ 100 [0,1,12,13] [4] 26 []
   (fun vals objs=>∃a':StQ l m,l.length-a'.1<l.length-i.1/\Wk 100 (100+0) vals objs (IQ cInt l m a').1 (IQ cInt l m a').2/\∀e v o,RQ l m e v o->RQ l m e v o)
   (fun e vals objs=>∃v o,Wk 100 (100+0) vals objs v o/\RQ l m e v o))):=by
 refine⟨?_⟩
 obtain⟨i,inv⟩:=i
 have hi:=inv.le
 show gEqIntR (real Tryz.prog) (rowsOf cInt l) (rowsOf cInt m) (l.length:Int) (i:Int) _ _
 rw[gEqIntR_eq]
 refine n_ltN (fun hlt=>?_) (fun hge=>?_)
 ·have ha:l[i]?=some l[i]:=List.getElem?_eq_getElem hlt
  have hlt2:i<m.length:=by omega
  have hb2:m[i]?=some m[i]:=List.getElem?_eq_getElem hlt2
  generalize l[i]=a at ha
  generalize m[i]=b at hb2
  have hms:l.length-(i+1)<l.length-i:=by omega
  refine n_dget i rfl (rowsOf_get ha) rfl (n_rdI rfl (n_dget i rfl (rowsOf_get hb2) rfl (n_rdI rfl (n_neq (fun h=>?_) (fun h=>?_)))))
  ·have hne:a≠b:=h
   exact⟨rfl,_,_,Wk.refl _ _ _ _,.inr ⟨fun e=>hne (by rw[e,hb2]at ha;simpa using ha.symm),rfl,rfl,rfl⟩⟩
  ·have he:a=b:=h
   subst he
   exact n_inc (by omega) ⟨rfl,⟨i+1,⟨hlt,take_next inv.eq ha hb2⟩⟩,hms,Wk.refl _ _ _ _,fun _ _ _ h=>h⟩
 ·have e:i=l.length:=by omega
  have h:=inv.eq
  rw[e,List.take_length,hm,List.take_length]at h
  exact⟨rfl,[top],[],Wk.refl _ _ _ _,.inl ⟨h,rfl,rfl,rfl⟩⟩
theorem eqIntC(l m:List Int):Is (gEqInt (real Tryz.prog) (LQr 132 cInt l m) (rowsOf cInt l) (rowsOf cInt m) (fun v=>∃b:Bool,v = .bool b/\(b=true↔l=m))):=by
 refine⟨?_⟩
 rw[gEqInt_eq]
 exact n_dlen l.length (rowsOf_len _ _) (n_dlen m.length (rowsOf_len _ _) (n_neN (fun h=>⟨false,rfl,no_eq (fun z:List Int=>z.length) h⟩) (fun _=>n_dlen l.length (rowsOf_len _ _) ⟨rfl,rfl,rfl,rfl,fun h=>⟨true,rfl,fun _=>h,fun _=>rfl⟩,fun h=>⟨false,rfl,no_eq id h⟩⟩)))
def gEnInt(N:Nd)(r r2:List Value)(X:Prop)(K:Value->Prop):Prop:=wpe Tryz.prog N (howOf Z0 Zp [] [(4,(26,([0,1,12,13],fun _ _ _ _ _ _=>False)))] [] []) 300 (.call 132 [(dsl r),(dsl r2)] h0) (retV K)
theorem gEnInt_eq(N:Nd)(r r2:List Value)(X:Prop)(K:Value->Prop):gEnInt N r r2 X K=N.dlen r fun n=>N.dlen r2 fun m=>N.cmp .neq .i64 n .i64 m (K (.bool false)) (N.dlen r fun _=>False):=by kernel_rfl
theorem eqIntN(l m:List Int)(hm:¬l.length=m.length):Is (gEnInt (real Tryz.prog) (rowsOf cInt l) (rowsOf cInt m) True (fun v=>∃b:Bool,v = .bool b/\(b=true↔l=m))):=by
 refine⟨?_⟩
 rw[gEnInt_eq]
 exact n_dlen l.length (rowsOf_len _ _) (n_dlen m.length (rowsOf_len _ _) (n_neN (fun h=>⟨false,rfl,no_eq (fun z:List Int=>z.length) h⟩) (fun h=>absurd h hm)))
theorem lpFInt{sy:Sy}{kn:KnL}{pu:PuL}:LpOk Tryz.prog 100 (howOf sy Zp kn [(4,(26,([0,1,12,13],fun _ _ _ _ _ _=>False)))] pu []):=lp_ok (fun x hx=>by simp only[List.mem_singleton]at hx;subst hx;exact fun c n vals ds h Q hF=>hF.elim)
theorem eqIntH(l m:List Int)(hl:l.length<1000000000):∃b:Bool,(b=true↔l=m)/\∀B H,CallH Tryz.prog 100 B 132 [dsl (rowsOf cInt l),dsl (rowsOf cInt m)] H (.returned (.bool b)) H:=by
 by_cases hm:l.length=m.length
 ·exact pu_mkB2 kn_none (lp_ok (fun z hz=>by simp only[List.mem_singleton]at hz;subst hz;exact lpQ (rndQInt l m hl hm))) rfl (eqIntC l m)
 ·exact pu_mkB2 kn_none lpFInt rfl (eqIntN l m hm)
theorem puEqInt:PuOk Tryz.prog 100 132 (sEq (MEqr cInt)):=pu_eq eqIntH
def gEqInstr(N:Nd)(L:LQt)(r r2:List Value)(K:Value->Prop):Prop:=wpe Tryz.prog N (howOf Z0 Zp [] [(4,(26,([0,1,12,13],sLpQ L)))] [] []) 300 (.call 133 [(dsl r),(dsl r2)] h0) (retV K)
theorem gEqInstr_eq(N:Nd)(L:LQt)(r r2:List Value)(K:Value->Prop):gEqInstr N L r r2 K=N.dlen r fun n=>N.dlen r2 fun m=>N.cmp .neq .i64 n .i64 m (K (.bool false)) (N.dlen r fun n=>L (loopIn Tryz.prog 133 4) 26 [dsl r,dsl r2,.int .i64 n,.int .i64 0] [] (K (.bool true)) (K (.bool false))):=by kernel_rfl
def gEqInstrR(N:Nd)(r r2:List Value)(n i:Int)(back:List Value->List (Option AObj)->Prop)(out:Exit->List Value->List (Option AObj)->Prop):Prop:=
 wpe Tryz.prog N (howOf Z0 Zp [] [] [] []) 300 (.code false (loopIn Tryz.prog 133 4) (stOf 100 26 [0,1,12,13] [] ([dsl r,dsl r2,.int .i64 n,.int .i64 i],[]))) (roundQ 100 [0,1,12,13] [4] 26 [] back out)
theorem gEqInstrR_eq(N:Nd)(r r2:List Value)(n i:Int)(back:Bk)(out:Ot):gEqInstrR N r r2 n i back out=N.cmp .lss .i64 i .i64 n (N.dget r i 7 fun ca=>N.rdI .u8 ca 0 fun za0=>N.rdI .i64 ca 1 fun za1=>N.rdI .u8 ca 2 fun za2=>N.rdI .u64 ca 3 fun za3=>N.rdI .u8 ca 4 fun za4=>N.rdI .u64 ca 5 fun za5=>N.rdI .i64 ca 6 fun za6=>N.dget r2 i 7 fun cb=>N.rdI .u8 cb 0 fun zb0=>N.rdI .i64 cb 1 fun zb1=>N.rdI .u8 cb 2 fun zb2=>N.rdI .u64 cb 3 fun zb3=>N.rdI .u8 cb 4 fun zb4=>N.rdI .u64 cb 5 fun zb5=>N.rdI .i64 cb 6 fun zb6=>N.agEq .neq 66 [.int .u8 za0,.int .i64 za1,.int .u8 za2,.int .u64 za3,.int .u8 za4,.int .u64 za5,.int .i64 za6] [.int .u8 zb0,.int .i64 zb1,.int .u8 zb2,.int .u64 zb3,.int .u8 zb4,.int .u64 zb5,.int .i64 zb6] (([]:List Deferred)=[]/\out .ret [.bool false] []) (N.ari .add .i64 i .i64 1 fun j=>([]:List Deferred)=[]/\back [dsl r,dsl r2,.int .i64 n,.int .i64 j] [])) (([]:List Deferred)=[]/\out (.exit 0) [top] []):=by kernel_rfl
theorem rndQInstr(l m:List Instr)(hl:l.length<1000000000)(hm:l.length=m.length)(i:StQ l m):Is (wpe Tryz.prog (real Tryz.prog) (howOf Z0 Zp [] [] [] []) 300 (.code false (loopIn Tryz.prog 133 4) (stOf 100 26 [0,1,12,13] [] (IQ cInstr l m i))) (roundQ 100 [0,1,12,13] [4] 26 []
   (fun vals objs=>∃a':StQ l m,l.length-a'.1<l.length-i.1/\Wk 100 (100+0) vals objs (IQ cInstr l m a').1 (IQ cInstr l m a').2/\∀e v o,RQ l m e v o->RQ l m e v o)
   (fun e vals objs=>∃v o,Wk 100 (100+0) vals objs v o/\RQ l m e v o))):=by
 refine⟨?_⟩
 obtain⟨i,inv⟩:=i
 have hi:=inv.le
 show gEqInstrR (real Tryz.prog) (rowsOf cInstr l) (rowsOf cInstr m) (l.length:Int) (i:Int) _ _
 rw[gEqInstrR_eq]
 refine n_ltN (fun hlt=>?_) (fun hge=>?_)
 ·have ha:l[i]?=some l[i]:=List.getElem?_eq_getElem hlt
  have hlt2:i<m.length:=by omega
  have hb2:m[i]?=some m[i]:=List.getElem?_eq_getElem hlt2
  generalize l[i]=a at ha
  generalize m[i]=b at hb2
  have hms:l.length-(i+1)<l.length-i:=by omega
  refine n_dget i rfl (rowsOf_get ha) rfl (n_rdI rfl (n_rdI rfl (n_rdI rfl (n_rdI rfl (n_rdI rfl (n_rdI rfl (n_rdI rfl (n_dget i rfl (rowsOf_get hb2) rfl (n_rdI rfl (n_rdI rfl (n_rdI rfl (n_rdI rfl (n_rdI rfl (n_rdI rfl (n_rdI rfl (n_agNeq (ps:=[((a.op:Int),(b.op:Int)),(a.to,b.to),((a.ak:Int),(b.ak:Int)),((a.an:Int),(b.an:Int)),((a.bk:Int),(b.bk:Int)),((a.bn:Int),(b.bn:Int)),(a.n,b.n)]) (by kernel_rfl) (by kernel_rfl) rfl rfl (fun h=>?_) (fun h=>?_)))))))))))))))))
  ·have hne:a≠b:=(fun e=>by rw[(aeInstr a b).2 e]at h;cases h)
   exact⟨rfl,_,_,Wk.refl _ _ _ _,.inr ⟨fun e=>hne (by rw[e,hb2]at ha;simpa using ha.symm),rfl,rfl,rfl⟩⟩
  ·have he:a=b:=(aeInstr a b).1 h
   subst he
   exact n_inc (by omega) ⟨rfl,⟨i+1,⟨hlt,take_next inv.eq ha hb2⟩⟩,hms,Wk.refl _ _ _ _,fun _ _ _ h=>h⟩
 ·have e:i=l.length:=by omega
  have h:=inv.eq
  rw[e,List.take_length,hm,List.take_length]at h
  exact⟨rfl,[top],[],Wk.refl _ _ _ _,.inl ⟨h,rfl,rfl,rfl⟩⟩
theorem eqInstrC(l m:List Instr):Is (gEqInstr (real Tryz.prog) (LQr 133 cInstr l m) (rowsOf cInstr l) (rowsOf cInstr m) (fun v=>∃b:Bool,v = .bool b/\(b=true↔l=m))):=by
 refine⟨?_⟩
 rw[gEqInstr_eq]
 exact n_dlen l.length (rowsOf_len _ _) (n_dlen m.length (rowsOf_len _ _) (n_neN (fun h=>⟨false,rfl,no_eq (fun z:List Instr=>z.length) h⟩) (fun _=>n_dlen l.length (rowsOf_len _ _) ⟨rfl,rfl,rfl,rfl,fun h=>⟨true,rfl,fun _=>h,fun _=>rfl⟩,fun h=>⟨false,rfl,no_eq id h⟩⟩)))
def gEnInstr(N:Nd)(r r2:List Value)(X:Prop)(K:Value->Prop):Prop:=wpe Tryz.prog N (howOf Z0 Zp [] [(4,(26,([0,1,12,13],fun _ _ _ _ _ _=>False)))] [] []) 300 (.call 133 [(dsl r),(dsl r2)] h0) (retV K)
theorem gEnInstr_eq(N:Nd)(r r2:List Value)(X:Prop)(K:Value->Prop):gEnInstr N r r2 X K=N.dlen r fun n=>N.dlen r2 fun m=>N.cmp .neq .i64 n .i64 m (K (.bool false)) (N.dlen r fun _=>False):=by kernel_rfl
theorem eqInstrN(l m:List Instr)(hm:¬l.length=m.length):Is (gEnInstr (real Tryz.prog) (rowsOf cInstr l) (rowsOf cInstr m) True (fun v=>∃b:Bool,v = .bool b/\(b=true↔l=m))):=by
 refine⟨?_⟩
 rw[gEnInstr_eq]
 exact n_dlen l.length (rowsOf_len _ _) (n_dlen m.length (rowsOf_len _ _) (n_neN (fun h=>⟨false,rfl,no_eq (fun z:List Instr=>z.length) h⟩) (fun h=>absurd h hm)))
theorem lpFInstr{sy:Sy}{kn:KnL}{pu:PuL}:LpOk Tryz.prog 100 (howOf sy Zp kn [(4,(26,([0,1,12,13],fun _ _ _ _ _ _=>False)))] pu []):=lp_ok (fun x hx=>by simp only[List.mem_singleton]at hx;subst hx;exact fun c n vals ds h Q hF=>hF.elim)
theorem eqInstrH(l m:List Instr)(hl:l.length<1000000000):∃b:Bool,(b=true↔l=m)/\∀B H,CallH Tryz.prog 100 B 133 [dsl (rowsOf cInstr l),dsl (rowsOf cInstr m)] H (.returned (.bool b)) H:=by
 by_cases hm:l.length=m.length
 ·exact pu_mkB2 kn_none (lp_ok (fun z hz=>by simp only[List.mem_singleton]at hz;subst hz;exact lpQ (rndQInstr l m hl hm))) rfl (eqInstrC l m)
 ·exact pu_mkB2 kn_none lpFInstr rfl (eqInstrN l m hm)
theorem puEqInstr:PuOk Tryz.prog 100 133 (sEq (MEqr cInstr)):=pu_eq eqInstrH
def gEqBucket(N:Nd)(L:LQt)(r r2:List Value)(K:Value->Prop):Prop:=wpe Tryz.prog N (howOf Z0 Zp [] [(4,(26,([0,1,12,13],sLpQ L)))] [] []) 300 (.call 134 [(dsl r),(dsl r2)] h0) (retV K)
theorem gEqBucket_eq(N:Nd)(L:LQt)(r r2:List Value)(K:Value->Prop):gEqBucket N L r r2 K=N.dlen r fun n=>N.dlen r2 fun m=>N.cmp .neq .i64 n .i64 m (K (.bool false)) (N.dlen r fun n=>L (loopIn Tryz.prog 134 4) 26 [dsl r,dsl r2,.int .i64 n,.int .i64 0] [] (K (.bool true)) (K (.bool false))):=by kernel_rfl
def gEqBucketR(N:Nd)(r r2:List Value)(n i:Int)(back:List Value->List (Option AObj)->Prop)(out:Exit->List Value->List (Option AObj)->Prop):Prop:=
 wpe Tryz.prog N (howOf Z0 Zp [] [] [] []) 300 (.code false (loopIn Tryz.prog 134 4) (stOf 100 26 [0,1,12,13] [] ([dsl r,dsl r2,.int .i64 n,.int .i64 i],[]))) (roundQ 100 [0,1,12,13] [4] 26 [] back out)
theorem gEqBucketR_eq(N:Nd)(r r2:List Value)(n i:Int)(back:Bk)(out:Ot):gEqBucketR N r r2 n i back out=N.cmp .lss .i64 i .i64 n (N.dget r i 2 fun ca=>N.rdI .u64 ca 0 fun za0=>N.rdI .i64 ca 1 fun za1=>N.dget r2 i 2 fun cb=>N.rdI .u64 cb 0 fun zb0=>N.rdI .i64 cb 1 fun zb1=>N.agEq .neq 181 [.int .u64 za0,.int .i64 za1] [.int .u64 zb0,.int .i64 zb1] (([]:List Deferred)=[]/\out .ret [.bool false] []) (N.ari .add .i64 i .i64 1 fun j=>([]:List Deferred)=[]/\back [dsl r,dsl r2,.int .i64 n,.int .i64 j] [])) (([]:List Deferred)=[]/\out (.exit 0) [top] []):=by kernel_rfl
theorem rndQBucket(l m:List Bucket)(hl:l.length<1000000000)(hm:l.length=m.length)(i:StQ l m):Is (wpe Tryz.prog (real Tryz.prog) (howOf Z0 Zp [] [] [] []) 300 (.code false (loopIn Tryz.prog 134 4) (stOf 100 26 [0,1,12,13] [] (IQ cBucket l m i))) (roundQ 100 [0,1,12,13] [4] 26 []
   (fun vals objs=>∃a':StQ l m,l.length-a'.1<l.length-i.1/\Wk 100 (100+0) vals objs (IQ cBucket l m a').1 (IQ cBucket l m a').2/\∀e v o,RQ l m e v o->RQ l m e v o)
   (fun e vals objs=>∃v o,Wk 100 (100+0) vals objs v o/\RQ l m e v o))):=by
 refine⟨?_⟩
 obtain⟨i,inv⟩:=i
 have hi:=inv.le
 show gEqBucketR (real Tryz.prog) (rowsOf cBucket l) (rowsOf cBucket m) (l.length:Int) (i:Int) _ _
 rw[gEqBucketR_eq]
 refine n_ltN (fun hlt=>?_) (fun hge=>?_)
 ·have ha:l[i]?=some l[i]:=List.getElem?_eq_getElem hlt
  have hlt2:i<m.length:=by omega
  have hb2:m[i]?=some m[i]:=List.getElem?_eq_getElem hlt2
  generalize l[i]=a at ha
  generalize m[i]=b at hb2
  have hms:l.length-(i+1)<l.length-i:=by omega
  refine n_dget i rfl (rowsOf_get ha) rfl (n_rdI rfl (n_rdI rfl (n_dget i rfl (rowsOf_get hb2) rfl (n_rdI rfl (n_rdI rfl (n_agNeq (ps:=[((a.w:Int),(b.w:Int)),(a.b,b.b)]) (by kernel_rfl) (by kernel_rfl) rfl rfl (fun h=>?_) (fun h=>?_)))))))
  ·have hne:a≠b:=(fun e=>by rw[(aeBucket a b).2 e]at h;cases h)
   exact⟨rfl,_,_,Wk.refl _ _ _ _,.inr ⟨fun e=>hne (by rw[e,hb2]at ha;simpa using ha.symm),rfl,rfl,rfl⟩⟩
  ·have he:a=b:=(aeBucket a b).1 h
   subst he
   exact n_inc (by omega) ⟨rfl,⟨i+1,⟨hlt,take_next inv.eq ha hb2⟩⟩,hms,Wk.refl _ _ _ _,fun _ _ _ h=>h⟩
 ·have e:i=l.length:=by omega
  have h:=inv.eq
  rw[e,List.take_length,hm,List.take_length]at h
  exact⟨rfl,[top],[],Wk.refl _ _ _ _,.inl ⟨h,rfl,rfl,rfl⟩⟩
theorem eqBucketC(l m:List Bucket):Is (gEqBucket (real Tryz.prog) (LQr 134 cBucket l m) (rowsOf cBucket l) (rowsOf cBucket m) (fun v=>∃b:Bool,v = .bool b/\(b=true↔l=m))):=by
 refine⟨?_⟩
 rw[gEqBucket_eq]
 exact n_dlen l.length (rowsOf_len _ _) (n_dlen m.length (rowsOf_len _ _) (n_neN (fun h=>⟨false,rfl,no_eq (fun z:List Bucket=>z.length) h⟩) (fun _=>n_dlen l.length (rowsOf_len _ _) ⟨rfl,rfl,rfl,rfl,fun h=>⟨true,rfl,fun _=>h,fun _=>rfl⟩,fun h=>⟨false,rfl,no_eq id h⟩⟩)))
def gEnBucket(N:Nd)(r r2:List Value)(X:Prop)(K:Value->Prop):Prop:=wpe Tryz.prog N (howOf Z0 Zp [] [(4,(26,([0,1,12,13],fun _ _ _ _ _ _=>False)))] [] []) 300 (.call 134 [(dsl r),(dsl r2)] h0) (retV K)
theorem gEnBucket_eq(N:Nd)(r r2:List Value)(X:Prop)(K:Value->Prop):gEnBucket N r r2 X K=N.dlen r fun n=>N.dlen r2 fun m=>N.cmp .neq .i64 n .i64 m (K (.bool false)) (N.dlen r fun _=>False):=by kernel_rfl
theorem eqBucketN(l m:List Bucket)(hm:¬l.length=m.length):Is (gEnBucket (real Tryz.prog) (rowsOf cBucket l) (rowsOf cBucket m) True (fun v=>∃b:Bool,v = .bool b/\(b=true↔l=m))):=by
 refine⟨?_⟩
 rw[gEnBucket_eq]
 exact n_dlen l.length (rowsOf_len _ _) (n_dlen m.length (rowsOf_len _ _) (n_neN (fun h=>⟨false,rfl,no_eq (fun z:List Bucket=>z.length) h⟩) (fun h=>absurd h hm)))
theorem lpFBucket{sy:Sy}{kn:KnL}{pu:PuL}:LpOk Tryz.prog 100 (howOf sy Zp kn [(4,(26,([0,1,12,13],fun _ _ _ _ _ _=>False)))] pu []):=lp_ok (fun x hx=>by simp only[List.mem_singleton]at hx;subst hx;exact fun c n vals ds h Q hF=>hF.elim)
theorem eqBucketH(l m:List Bucket)(hl:l.length<1000000000):∃b:Bool,(b=true↔l=m)/\∀B H,CallH Tryz.prog 100 B 134 [dsl (rowsOf cBucket l),dsl (rowsOf cBucket m)] H (.returned (.bool b)) H:=by
 by_cases hm:l.length=m.length
 ·exact pu_mkB2 kn_none (lp_ok (fun z hz=>by simp only[List.mem_singleton]at hz;subst hz;exact lpQ (rndQBucket l m hl hm))) rfl (eqBucketC l m)
 ·exact pu_mkB2 kn_none lpFBucket rfl (eqBucketN l m hm)
theorem puEqBucket:PuOk Tryz.prog 100 134 (sEq (MEqr cBucket)):=pu_eq eqBucketH
end
end Go.Proofs.YtblbaohcelldpaaGreatDoor.Ob
