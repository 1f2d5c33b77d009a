/- The reference's Same; what a kind has; a message with what another one has; may it not be said: what the code asks, and what it comes to. -/
import Derived.Test.YtblbaohcelldpaaGreatDoorQC
set_option linter.all false
namespace Go.Proofs.YtblbaohcelldpaaGreatDoor.Ob
open Go Go.Abs Go.Tlv
set_option maxRecDepth 100000
noncomputable section
def sLpN(L:LQt):LpS:=lpS [4] fun c n vals obs K=>L c n vals obs (K (.exit 0) [top] []) (K .ret [.bool false] [])
def gNs(N:Nd)(L:LQt)(r r2:List Value)(K:Value->Prop):Prop:=wpe Tryz.prog N (howOf Z0 Zp [] [(4,(26,([0,1,5],sLpN L)))] [] []) 300 (.call 41 [(dsl r),(dsl r2)] h0) (retV K)
theorem gNs_eq(N:Nd)(L:LQt)(r r2:List Value)(K:Value->Prop):gNs N L r r2 K=N.dlen r fun n=>N.dlen r2 fun m=>N.cmp .neq .i64 n .i64 m (K (.bool false)) (L (loopIn Tryz.prog 41 4) 26 [dsl r,dsl r2,.int .i64 0] [] (K (.bool true)) (K (.bool false))):=by kernel_rfl
def gNsR(N:Nd)(r r2:List Value)(i:Int)(back:List Value->List (Option AObj)->Prop)(out:Exit->List Value->List (Option AObj)->Prop):Prop:=
 wpe Tryz.prog N (howOf Z0 Zp [] [] [] []) 300 (.code false (loopIn Tryz.prog 41 4) (stOf 100 26 [0,1,5] [] ([dsl r,dsl r2,.int .i64 i],[]))) (roundQ 100 [0,1,5] [4] 26 [] back out)
theorem gNsR_eq(N:Nd)(r r2:List Value)(i:Int)(back:Bk)(out:Ot):gNsR N r r2 i back out=N.dlen r fun n=>N.cmp .lss .i64 i .i64 n (N.dget r i 1 fun ca=>N.rdI .u64 ca 0 fun za=>N.dget r2 i 1 fun cb=>N.rdI .u64 cb 0 fun zb=>N.cmp .neq .u64 za .u64 zb (([]:List Deferred)=[]/\out .ret [.bool false] [])
 (N.ari .add .i64 i .i64 1 fun j=>([]:List Deferred)=[]/\back [dsl r,dsl r2,.int .i64 j] [])) (([]:List Deferred)=[]/\out (.exit 0) [top] []):=by kernel_rfl
def INs(l m:List Nat)(i:StQ l m):List Value×List (Option AObj):=([dsl (rowsOf cNat l),dsl (rowsOf cNat m),.int .i64 (i.1:Int)],[])
def LNs(l m:List Nat):LQt:=fun code n vals obs A E=>code=loopIn Tryz.prog 41 4/\n=26/\vals=[dsl (rowsOf cNat l),dsl (rowsOf cNat m),.int .i64 0]/\obs=[]/\l.length=m.length/\(l=m->A)/\(l≠m->E)
theorem rndNs(l m:List Nat)(hl:l.length<1000000000)(hm:l.length=m.length)(i:StQ l m):Is (wpe Tryz.prog (real Tryz.prog) (howOf Z0 Zp [] [] [] []) 300 (.code false (loopIn Tryz.prog 41 4) (stOf 100 26 [0,1,5] [] (INs l m i))) (roundQ 100 [0,1,5] [4] 26 []
   (fun vals objs=>∃a':StQ l m,l.length-a'.1<l.length-i.1/\Wk 100 (100+0) vals objs (INs l m a').1 (INs l m a').2/\∀e v o,RQ l m e v o->RQ l m e v o)
   (fun e vals objs=>∃v o,Wk 100 (100+0) vals objs v o/\RQ l m e v o))):=by
 refine⟨?_⟩
 obtain⟨i,inv⟩:=i
 have hi:=inv.le
 show gNsR (real Tryz.prog) (rowsOf cNat l) (rowsOf cNat m) (i:Int) _ _
 rw[gNsR_eq]
 refine n_dlen l.length (rowsOf_len _ _) (n_ltN (fun hlt=>?_) (fun hge=>?_))
 ·have ha:l[i]?=some l[i]:=List.getElem?_eq_getElem hlt
  have hlt2:i<m.length:=by omega
  have hb2:m[i]?=some m[i]:=List.getElem?_eq_getElem hlt2
  generalize l[i]=a at ha
  generalize m[i]=b at hb2
  have hms:l.length-(i+1)<l.length-i:=by omega
  refine n_dget i rfl (rowsOf_get ha) rfl (n_rdI rfl (n_dget i rfl (rowsOf_get hb2) rfl (n_rdI rfl (n_neN (fun h=>?_) (fun h=>?_)))))
  ·exact⟨rfl,_,_,Wk.refl _ _ _ _,.inr ⟨fun e=>h (by rw[e,hb2]at ha;simpa using ha.symm),rfl,rfl,rfl⟩⟩
  ·have he:a=b:=h
   subst he
   exact n_inc (by omega) ⟨rfl,⟨i+1,⟨hlt,take_next inv.eq ha hb2⟩⟩,hms,Wk.refl _ _ _ _,fun _ _ _ h=>h⟩
 ·have e:i=l.length:=by omega
  have h:=inv.eq
  rw[e,List.take_length,hm,List.take_length]at h
  exact⟨rfl,[top],[],Wk.refl _ _ _ _,.inl ⟨h,rfl,rfl,rfl⟩⟩
theorem lpNs(l m:List Nat)(hl:l.length<1000000000):LoopOk Tryz.prog 100 [0,1,5] (sLpN (LNs l m)):=by
 show LoopOk Tryz.prog 100 [0,1,5] (lpS [4] _)
 refine lp_mk okp (W:=howOf Z0 Zp [] [] [] []) kn_none lp_none ?_
 rintro cc n vals obs K ⟨hc,hn,hv,ho,hm,hA,hE⟩
 subst hc;subst hn;subst hv;subst ho
 refine⟨StQ l m,0,300,fun a=>l.length-a.1,INs l m,fun _ e v o=>RQ l m e v o,⟨0,⟨Nat.zero_le _,rfl⟩⟩,rfl,Wk.refl _ _ _ _,?_,rndNs l m hl hm⟩
 intro e v o hR
 rcases hR with⟨h1,rfl,rfl,rfl⟩ | ⟨h1,rfl,rfl,rfl⟩
 ·exact hA h1
 ·exact hE h1
theorem nsC(l m:List Nat):Is (gNs (real Tryz.prog) (LNs l m) (rowsOf cNat l) (rowsOf cNat m) (fun v=>∃b:Bool,v = .bool b/\(b=true↔l=m))):=by
 refine⟨?_⟩
 rw[gNs_eq]
 exact n_dlen l.length (rowsOf_len _ _) (n_dlen m.length (rowsOf_len _ _) (n_neN (fun h=>⟨false,rfl,no_eq (fun z:List Nat=>z.length) h⟩) (fun h=>⟨rfl,rfl,rfl,rfl,h,fun h=>⟨true,rfl,fun _=>h,fun _=>rfl⟩,fun h=>⟨false,rfl,no_eq id h⟩⟩)))
theorem nsH(l m:List Nat)(hl:l.length<1000000000):∃b:Bool,(b=true↔l=m)/\∀B H,CallH Tryz.prog 100 B 41 [dsl (rowsOf cNat l),dsl (rowsOf cNat m)] H (.returned (.bool b)) H:=
 pu_mkB2 kn_none (lp_ok (fun z hz=>by simp only[List.mem_singleton]at hz;subst hz;exact lpNs l m hl)) rfl (nsC l m)
theorem knRs:∀x∈puR MSr1 (MEqr cNat),PuOk Tryz.prog 100 x.1 x.2:=fun x hx=>by
 simp only[puR,List.mem_cons,List.not_mem_nil,or_false]at hx
 rcases hx with rfl|rfl|rfl|rfl|rfl|rfl|rfl|rfl|rfl
 ·exact pu_eq nsH
 ·exact pu_s1 smNodeH
 ·exact pu_s1 fun x y _=>smFieldH x y
 ·exact pu_s1 smTableH
 ·exact pu_s1 smEntryH
 ·exact pu_s1 smBlockH
 ·exact pu_s1 smGroupH
 ·exact pu_s1 fun x y _=>smMeterH x y
 ·exact pu_s1 fun x y _=>smRegsH x y
theorem rSameH(x y:OMsg)(hx:okP x):∃b:Bool,(b=true↔x=y)/\∀B H,CallH Tryz.prog 100 B 22 [vMsg x,vMsg y] H (.returned (.bool b)) H:=pu_mkB2 (kn_pu knRs) lp_none rfl (rSameC x y hx)
theorem puRsm:PuOk Tryz.prog 100 22 (sSm (MSmr vMsg okP Eq)):=pu_sm fun x y hx _=>rSameH x y hx
def cU8(t:Nat):List Value:=[.int .u8 (t:Int)]
def hasT(k:Nat):Nat->List Nat
 | 0=>[]
 |n+1=>hasT k n++(if hasB k (n+1)=true then[n+1]else[])
theorem hasT_mem(k t:Nat):∀n,t∈hasT k n↔1<=t/\t<=n/\hasB k t=true
 | 0=>by simp[hasT];omega
 |n+1=>by
  rw[hasT,List.mem_append,hasT_mem k t n]
  by_cases h:hasB k (n+1)=true
  ·rw[if_pos h,List.mem_singleton]
   constructor
   ·rintro (⟨a,b,c⟩ | rfl)
    ·exact⟨a,by omega,c⟩
    ·exact⟨by omega,by omega,h⟩
   ·rintro ⟨a,b,c⟩
    by_cases e:t=n+1
    ·exact .inr e
    ·exact .inl ⟨a,by omega,c⟩
  ·rw[if_neg h]
   constructor
   ·rintro (⟨a,b,c⟩ | h2)
    ·exact⟨a,by omega,c⟩
    ·cases h2
   ·rintro ⟨a,b,c⟩
    by_cases e:t=n+1
    ·exact absurd (e ▸ c) h
    ·exact .inl ⟨a,by omega,c⟩
theorem hasT_len(k:Nat):∀n,(hasT k n).length<=n
 | 0=>Nat.le_refl 0
 |n+1=>by
  have:=hasT_len k n
  rw[hasT,List.length_append]
  split<;>simp<;>omega
def valU(l:List Nat):List Value:=l.flatMap cU8
theorem valU_app(l m:List Nat):valU (l++m)=valU l++valU m:=by simp[valU]
theorem valU_len:∀l:List Nat,(valU l).length=l.length
 | []=>rfl
 |a::l=>by show(valU l).length+1=_;rw[valU_len l];rfl
theorem valU_below:∀l:List Nat,belowL 0 (valU l)=true
 | []=>rfl
 |a::l=>by show(true&&belowL 0 (valU l))=true;rw[valU_below l];rfl
theorem flatU:∀l:List Nat,flatRows 1 (rowsOf cU8 l)=some (valU l)
 | []=>rfl
 |a::l=>by
  show flatRows 1 (.agg ⟨[.int .u8 (a:Int)]⟩::rowsOf cU8 l)=_
  simp only[flatRows,flatU l];rfl
abbrev LHs:=Code->Nat->List Value->List (Option AObj)->(Nat->Option AObj->Prop)->Prop
def sLpH(L:LHs):LpS:=lpS [3] fun c n vals obs K=>L c n vals obs (fun k ob=>K (.exit 0) [mkS 100 k] [ob])
def syH:Sy:=fun b=>match Nat.beq b 100 with|true=>some true|false=>none
def gHas(N:Nd)(L:LHs)(k:Int)(K:RK):Prop:=wpe Tryz.prog N (howOf syH Zp [] [(3,(17,([0,3,4],sLpH L)))] [] []) 300 (.call 13 [(.int .u8 k)] h0) (retQ 100 K)
theorem gHas_eq(N:Nd)(L:LHs)(k:Int)(K:RK):gHas N L k K=L (loopIn Tryz.prog 13 3) 17 [.int .u8 k,.slice none 0 0,.int .u8 1] [] (fun n ob=>K (mkS 100 n) [ob]):=by kernel_rfl
def gHasR(N:Nd)(M:MOf)(k t:Int)(n:Nat)(ob:Option AObj)(back:List Value->List (Option AObj)->Prop)(out:Exit->List Value->List (Option AObj)->Prop):Prop:=
 wpe Tryz.prog N (howOf syH Zp [] [] [(34,sOf M)] []) 300 (.code false (loopIn Tryz.prog 13 3) (stOf 100 17 [0,3,4] [] ([.int .u8 k,mkS 100 n,.int .u8 t],[ob]))) (roundQ 100 [0,3,4] [3] 17 [] back out)
theorem gHasR_eq(N:Nd)(M:MOf)(k t:Int)(n:Nat)(ob:Option AObj)(back:Bk)(out:Ot):gHasR N M k t n ob back out=N.cmp .leq .u8 t .u8 17 (M k t (N.base true n n ob 5 1 fun vs=>N.appX n vs 1 [.int .u8 t] 1 1 fun vs' n'=>N.ari .add .u8 t .u8 1 fun t'=>([]:List Deferred)=[]/\back [.int .u8 k,.slice (some ⟨102,0,none⟩) n' n',.int .u8 t'] [none,some (.cells [.int .u8 t] 5 1 false true),some (.cells vs' 5 1 true true)])
 (N.ari .add .u8 t .u8 1 fun t'=>([]:List Deferred)=[]/\back [.int .u8 k,mkS 100 n,.int .u8 t'] [ob])) (([]:List Deferred)=[]/\out (.exit 0) [mkS 100 n] [ob]):=by kernel_rfl
theorem n_incU8{m:Nat}{K:Int->Prop}(h:m+1<256)(hk:K ((m+1:Nat):Int)):(real Tryz.prog).ari .add .u8 (m:Int) .u8 (1:Int) K:=by
 refine⟨((m+1:Nat):Int),?_,hk⟩
 have e:wrapA .u8 ((m:Int)+1)=((m+1:Nat):Int):=by
  rw[wrapA_eq]
  simp[IntKind.wrap,IntKind.signed,IntKind.bits];omega
 simp only[intBin,e];rfl
structure InvH(t:Nat):Prop where
 lo:1<=t
 hi:t<=18
def IH(k:Nat)(t:{t:Nat // InvH t}):List Value×List (Option AObj):=([.int .u8 (k:Int),mkS 100 (hasT k (t.1-1)).length,.int .u8 (t.1:Int)],[mo (valU (hasT k (t.1-1))) 5 1])
def RH(k:Nat)(e:Exit)(v:List Value)(o:List (Option AObj)):Prop:=e = .exit 0/\v=[mkS 100 (hasT k 17).length]/\o=[mo (valU (hasT k 17)) 5 1]
theorem rndH(k:Nat)(hk:k<256)(t:{t:Nat // InvH t}):Is (wpe Tryz.prog (real Tryz.prog) (howOf syH Zp [] [] [(34,sOf MOr)] []) 300 (.code false (loopIn Tryz.prog 13 3) (stOf 100 17 [0,3,4] [] (IH k t))) (roundQ 100 [0,3,4] [3] 17 []
   (fun vals objs=>∃a':{t:Nat // InvH t},18-a'.1<18-t.1/\Wk 100 (100+0) vals objs (IH k a').1 (IH k a').2/\∀e v o,RH k e v o->RH k e v o)
   (fun e vals objs=>∃v o,Wk 100 (100+0) vals objs v o/\RH k e v o))):=by
 refine⟨?_⟩
 obtain⟨t,lo,hi⟩:=t
 show gHasR (real Tryz.prog) MOr (k:Int) (t:Int) (hasT k (t-1)).length (mo (valU (hasT k (t-1))) 5 1) _ _
 rw[gHasR_eq]
 have hT:tops=140737488355328:=rfl
 have hlen:=hasT_len k (t-1)
 have hs:hasT k t=hasT k (t-1)++(if hasB k t=true then[t]else[]):=by
  have:hasT k (t-1+1)=hasT k (t-1)++(if hasB k (t-1+1)=true then[t-1+1]else[]):=rfl
  rw[show t-1+1=t by omega]at this;exact this
 refine n_leN (d:=17) (fun h17=>⟨k,t,rfl,rfl,hk,by omega,fun h=>?_,fun h=>?_⟩) (fun h17=>?_)
 ·rw[if_pos h]at hs
  have hv:valU (hasT k t)=valU (hasT k (t-1))++[.int .u8 (t:Int)]:=by rw[hs,valU_app];rfl
  have hl:(hasT k t).length=(hasT k (t-1)).length+1:=by rw[hs];simp
  refine n_base_mo (by rw[valU_len,Nat.mul_one]) (by omega) (n_appX (by omega) rfl rfl (by omega) (by omega) (n_incU8 (by omega) ⟨rfl,⟨t+1,by omega,by omega⟩,by show 18-(t+1)<18-t;omega,?_,fun _ _ _ h=>h⟩))
  show Wk 100 (100+0) _ _ ([.int .u8 (k:Int)]++mkS (100+0) (hasT k (t+1-1)).length::_) ([]++[mo (valU (hasT k (t+1-1))) 5 1])
  rw[Nat.add_sub_cancel,mo_ne (by rw[hv];simp),hv,hl]
  exact wk_outG (k0:=0) (j:=2) (va:=[.int .u8 (k:Int)]) (by omega) rfl (by rw[←hv];exact valU_below _) rfl rfl (by omega) rfl (fun i o h=>by simp at h)
 ·rw[if_neg (by rw[h];simp),List.append_nil]at hs
  refine n_incU8 (by omega) ⟨rfl,⟨t+1,by omega,by omega⟩,by show 18-(t+1)<18-t;omega,?_,fun _ _ _ h=>h⟩
  show Wk 100 (100+0) _ _ [.int .u8 (k:Int),mkS 100 (hasT k (t+1-1)).length,.int .u8 ((t+1:Nat):Int)] [mo (valU (hasT k (t+1-1))) 5 1]
  rw[Nat.add_sub_cancel,hs];exact Wk.refl _ _ _ _
 ·have e:t=18:=by omega
  subst e
  exact⟨rfl,_,_,Wk.refl _ _ _ _,rfl,rfl,rfl⟩
def LHr(k:Nat):LHs:=fun c n vals obs A=>c=loopIn Tryz.prog 13 3/\n=17/\vals=[.int .u8 (k:Int),.slice none 0 0,.int .u8 1]/\obs=[]/\A (hasT k 17).length (mo (valU (hasT k 17)) 5 1)
theorem lpH(k:Nat)(hk:k<256):LoopOk Tryz.prog 100 [0,3,4] (sLpH (LHr k)):=by
 show LoopOk Tryz.prog 100 [0,3,4] (lpS [3] _)
 refine lp_mk okp (W:=howOf syH Zp [] [] [(34,sOf MOr)] []) (kn_pu (pu1 puOf)) lp_none ?_
 rintro c n vals obs K ⟨hc,hn,hv,ho,hA⟩
 subst hc;subst hn;subst hv;subst ho
 refine⟨{t:Nat // InvH t},0,300,fun a=>18-a.1,IH k,fun _ e v o=>RH k e v o,⟨1,by omega,by omega⟩,rfl,?_,?_,rndH k hk⟩
 ·exact wk_nilG (va:=[.int .u8 (k:Int)])
 ·intro e v o h
  obtain⟨rfl,rfl,rfl⟩:=h
  exact hA
theorem hasC(k:Nat):Is (gHas (real Tryz.prog) (LHr k) (k:Int) (PQ (dsl (rowsOf cU8 (hasT k 17))))):=by
 refine⟨?_⟩
 rw[gHas_eq]
 refine⟨rfl,rfl,rfl,rfl,?_⟩
 have h1:Wk 100 100 [mkS 100 (hasT k 17).length] [mo (valU (hasT k 17)) 5 1] _ _:=wk_set_frzM (G:=100) 0 0 (rows:=rowsOf cU8 (hasT k 17)) rfl rfl (flatU _) (valU_below _) (by omega) (by rw[rowsOf_len])
 exact h1.trans (wk_pure rfl)
abbrev MHs:=Int->(List Value->Prop)->Prop
def sHs(M:MHs):List Value->(Value->Prop)->Prop
 | [.int .u8 k],K=>M k fun rs=>K (dsl rs)
 |_,_=>False
def MHsr:MHs:=fun a K=>∃k:Nat,a=k/\k<256/\K (rowsOf cU8 (hasT k 17))
theorem puHs:PuOk Tryz.prog 100 13 (sHs MHsr):=by
 intro args K h
 unfold sHs at h
 split at h<;>try exact h.elim
 obtain⟨k,rfl,hk,hK⟩:=h
 exact⟨_,fun B H=>pu_mk okp kn_none (lp1 (lpH k hk)) rfl rfl (hasC k) B H,hK⟩
def putF(x y:OMsg):Nat->OMsg
 | 1=>{x with a2:=y.a2}
 | 2=>{x with a3:=y.a3}
 | 3=>{x with a4:=y.a4}
 | 4=>{x with a5:=y.a5}
 | 5=>{x with a6:=y.a6}
 | 6=>{x with a7:=y.a7}
 | 7=>{x with a8:=y.a8}
 | 8=>{x with a9:=y.a9}
 | 9=>{x with a10:=y.a10}
 | 10=>{x with n:=y.n}
 | 11=>{x with f:=y.f}
 | 12=>{x with t:=y.t}
 | 13=>{x with e:=y.e}
 | 14=>{x with b:=y.b}
 | 15=>{x with g:=y.g}
 | 16=>{x with m:=y.m}
 |_=>{x with r:=y.r}
def cfP:List (Nat×Nat):=[(92,12),(92,17),(92,22),(92,27),(92,32),(92,37),(92,42),(92,47),(92,52),(92,57),(92,62),(92,67),(92,72),(92,77),(92,82),(92,87)]
def gPt(N:Nd)(x y:OMsg)(t:Int)(K:Value->Prop):Prop:=wpe Tryz.prog N (howOf Z0 Zp [] [] [] cfP) 300 (.call 24 [vMsg x,vMsg y,(.int .u8 t)] h0) (retV K)
theorem gPt1_eq(N:Nd)(x y:OMsg)(K:Value->Prop):gPt N x y 1 K=K (vMsg (putF x y 1)):=by kernel_rfl
theorem gPt2_eq(N:Nd)(x y:OMsg)(K:Value->Prop):gPt N x y 2 K=K (vMsg (putF x y 2)):=by kernel_rfl
theorem gPt3_eq(N:Nd)(x y:OMsg)(K:Value->Prop):gPt N x y 3 K=K (vMsg (putF x y 3)):=by kernel_rfl
theorem gPt4_eq(N:Nd)(x y:OMsg)(K:Value->Prop):gPt N x y 4 K=K (vMsg (putF x y 4)):=by kernel_rfl
theorem gPt5_eq(N:Nd)(x y:OMsg)(K:Value->Prop):gPt N x y 5 K=K (vMsg (putF x y 5)):=by kernel_rfl
theorem gPt6_eq(N:Nd)(x y:OMsg)(K:Value->Prop):gPt N x y 6 K=K (vMsg (putF x y 6)):=by kernel_rfl
theorem gPt7_eq(N:Nd)(x y:OMsg)(K:Value->Prop):gPt N x y 7 K=K (vMsg (putF x y 7)):=by kernel_rfl
theorem gPt8_eq(N:Nd)(x y:OMsg)(K:Value->Prop):gPt N x y 8 K=K (vMsg (putF x y 8)):=by kernel_rfl
theorem gPt9_eq(N:Nd)(x y:OMsg)(K:Value->Prop):gPt N x y 9 K=K (vMsg (putF x y 9)):=by kernel_rfl
theorem gPt10_eq(N:Nd)(x y:OMsg)(K:Value->Prop):gPt N x y 10 K=K (vMsg (putF x y 10)):=by kernel_rfl
theorem gPt11_eq(N:Nd)(x y:OMsg)(K:Value->Prop):gPt N x y 11 K=K (vMsg (putF x y 11)):=by kernel_rfl
theorem gPt12_eq(N:Nd)(x y:OMsg)(K:Value->Prop):gPt N x y 12 K=K (vMsg (putF x y 12)):=by kernel_rfl
theorem gPt13_eq(N:Nd)(x y:OMsg)(K:Value->Prop):gPt N x y 13 K=K (vMsg (putF x y 13)):=by kernel_rfl
theorem gPt14_eq(N:Nd)(x y:OMsg)(K:Value->Prop):gPt N x y 14 K=K (vMsg (putF x y 14)):=by kernel_rfl
theorem gPt15_eq(N:Nd)(x y:OMsg)(K:Value->Prop):gPt N x y 15 K=K (vMsg (putF x y 15)):=by kernel_rfl
theorem gPt16_eq(N:Nd)(x y:OMsg)(K:Value->Prop):gPt N x y 16 K=K (vMsg (putF x y 16)):=by kernel_rfl
theorem gPt17_eq(N:Nd)(x y:OMsg)(K:Value->Prop):gPt N x y 17 K=K (vMsg (putF x y 17)):=by kernel_rfl
theorem ptC1(x y:OMsg):Is (gPt (real Tryz.prog) x y 1 (fun v=>v=vMsg (putF x y 1))):=⟨by rw[gPt1_eq]⟩
theorem ptC2(x y:OMsg):Is (gPt (real Tryz.prog) x y 2 (fun v=>v=vMsg (putF x y 2))):=⟨by rw[gPt2_eq]⟩
theorem ptC3(x y:OMsg):Is (gPt (real Tryz.prog) x y 3 (fun v=>v=vMsg (putF x y 3))):=⟨by rw[gPt3_eq]⟩
theorem ptC4(x y:OMsg):Is (gPt (real Tryz.prog) x y 4 (fun v=>v=vMsg (putF x y 4))):=⟨by rw[gPt4_eq]⟩
theorem ptC5(x y:OMsg):Is (gPt (real Tryz.prog) x y 5 (fun v=>v=vMsg (putF x y 5))):=⟨by rw[gPt5_eq]⟩
theorem ptC6(x y:OMsg):Is (gPt (real Tryz.prog) x y 6 (fun v=>v=vMsg (putF x y 6))):=⟨by rw[gPt6_eq]⟩
theorem ptC7(x y:OMsg):Is (gPt (real Tryz.prog) x y 7 (fun v=>v=vMsg (putF x y 7))):=⟨by rw[gPt7_eq]⟩
theorem ptC8(x y:OMsg):Is (gPt (real Tryz.prog) x y 8 (fun v=>v=vMsg (putF x y 8))):=⟨by rw[gPt8_eq]⟩
theorem ptC9(x y:OMsg):Is (gPt (real Tryz.prog) x y 9 (fun v=>v=vMsg (putF x y 9))):=⟨by rw[gPt9_eq]⟩
theorem ptC10(x y:OMsg):Is (gPt (real Tryz.prog) x y 10 (fun v=>v=vMsg (putF x y 10))):=⟨by rw[gPt10_eq]⟩
theorem ptC11(x y:OMsg):Is (gPt (real Tryz.prog) x y 11 (fun v=>v=vMsg (putF x y 11))):=⟨by rw[gPt11_eq]⟩
theorem ptC12(x y:OMsg):Is (gPt (real Tryz.prog) x y 12 (fun v=>v=vMsg (putF x y 12))):=⟨by rw[gPt12_eq]⟩
theorem ptC13(x y:OMsg):Is (gPt (real Tryz.prog) x y 13 (fun v=>v=vMsg (putF x y 13))):=⟨by rw[gPt13_eq]⟩
theorem ptC14(x y:OMsg):Is (gPt (real Tryz.prog) x y 14 (fun v=>v=vMsg (putF x y 14))):=⟨by rw[gPt14_eq]⟩
theorem ptC15(x y:OMsg):Is (gPt (real Tryz.prog) x y 15 (fun v=>v=vMsg (putF x y 15))):=⟨by rw[gPt15_eq]⟩
theorem ptC16(x y:OMsg):Is (gPt (real Tryz.prog) x y 16 (fun v=>v=vMsg (putF x y 16))):=⟨by rw[gPt16_eq]⟩
theorem ptC17(x y:OMsg):Is (gPt (real Tryz.prog) x y 17 (fun v=>v=vMsg (putF x y 17))):=⟨by rw[gPt17_eq]⟩
theorem ptC(x y:OMsg):(t:Nat)->(h1:1<=t)->(h2:t<=17)->Is (gPt (real Tryz.prog) x y (t:Int) (fun v=>v=vMsg (putF x y t)))
 | 0,h1,_=>absurd h1 (by decide)
 | 1,_,_=>ptC1 x y
 | 2,_,_=>ptC2 x y
 | 3,_,_=>ptC3 x y
 | 4,_,_=>ptC4 x y
 | 5,_,_=>ptC5 x y
 | 6,_,_=>ptC6 x y
 | 7,_,_=>ptC7 x y
 | 8,_,_=>ptC8 x y
 | 9,_,_=>ptC9 x y
 | 10,_,_=>ptC10 x y
 | 11,_,_=>ptC11 x y
 | 12,_,_=>ptC12 x y
 | 13,_,_=>ptC13 x y
 | 14,_,_=>ptC14 x y
 | 15,_,_=>ptC15 x y
 | 16,_,_=>ptC16 x y
 | 17,_,_=>ptC17 x y
 |t+18,_,h2=>absurd h2 (by omega)
abbrev MPt:=Value->Value->Int->(OMsg->Prop)->Prop
def sPt(M:MPt):List Value->(Value->Prop)->Prop
 | [a,b,.int .u8 t],K=>M a b t fun z=>K (vMsg z)
 |_,_=>False
def MPtr:MPt:=fun a b c K=>∃(x y:OMsg) (t:Nat),a=vMsg x/\b=vMsg y/\c=t/\1<=t/\t<=17/\K (putF x y t)
theorem puPt:PuOk Tryz.prog 100 24 (sPt MPtr):=by
 intro args K h
 unfold sPt at h
 split at h<;>try exact h.elim
 obtain⟨x,y,t,rfl,rfl,rfl,h1,h2,hK⟩:=h
 exact⟨_,fun B H=>pu_mkV okp kn_none lp_none rfl (ptC x y t h1 h2) B H,hK⟩
def gNot(N:Nd)(ME:ME1)(MM:ML1)(x:OMsg)(K:Value->Prop):Prop:=wpe Tryz.prog N (howOf Z0 Zp [] [] [(16,sE1 ME),(18,sL1 MM)] []) 300 (.call 20 [vMsg x] h0) (retV K)
theorem gNot_eq(N:Nd)(ME:ME1)(MM:ML1)(x:OMsg)(K:Value->Prop):gNot N ME MM x K=ME (vMsg x) fun s e=>N.scmp .eql s (bytesOf []) (N.cmp .eql .i64 e .i64 3 (MM (vMsg x) (K (.bool false)) (K (.bool true))) (K (.bool false))) (K (.bool false)):=by kernel_rfl
theorem notC{x:OMsg}(hx:okP x):Is (gNot (real Tryz.prog) MEr1 MMr1 x (fun v=>v = .bool (!mayM x))):=by
 refine⟨?_⟩
 rw[gNot_eq]
 refine⟨x,rfl,hx,n_scmp_eq (fun h=>n_eqN (d:=3) (fun h3=>⟨x,rfl,hx,fun hm=>(by rw[hm];rfl),fun hm=>(by rw[hm];rfl)⟩) (fun h3=>?_)) (fun h=>?_)⟩
 ·cases hm:mayM x with
  |true=>rfl
  |false=>exact absurd (errM_3.2 hm) h3
 ·cases hm:mayM x with
  |true=>rfl
  |false=>
   have e:=errM_3.2 hm
   exact absurd (by rw[bytes_toList];unfold bodyM;rw[e];rfl) h
def MNr1:ML1:=fun a A E=>∃x:OMsg,a=vMsg x/\okP x/\(mayM x=false->A)/\(mayM x=true->E)
theorem puN1:PuOk Tryz.prog 100 20 (sL1 MNr1):=by
 intro args K h
 unfold sL1 at h
 split at h<;>try exact h.elim
 obtain⟨x,rfl,hx,hA,hE⟩:=h
 refine⟨.bool (!mayM x),fun B H=>pu_mkV okp (kn_pu (pu_two puE1 puM1)) lp_none rfl (notC hx) B H,?_⟩
 cases hb:mayM x with
 |true=>exact hE hb
 |false=>exact hA hb
end
end Go.Proofs.YtblbaohcelldpaaGreatDoor.Ob
