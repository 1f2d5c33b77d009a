/- . -/
import Derived.Test.YtblbaohcelldpaaGreatDoorQC
set_option linter.all false
set_option maxRecDepth 100000
namespace Go.Proofs.Ob
open Go Go.Abs Go.Tlv
noncomputable section
def AQc(L:LQt):LpS:=lpS [4] fun c n AB obs K=>L c n AB obs (K (.exit 0) [top] []) (K .ret [.bool false] [])
def gNs(N:Nd)(L:LQt)(r r2:Lv)(K:Value->Prop):Prop:=wpe Tryz.prog N (AP Z0 Zp [] [(4,(26,([0,1,5],AQc L)))] [] []) 300 (.call 41 [(dsl r),(dsl r2)] h0) (J6 K)
theorem AMc(N:Nd)(L:LQt)(r r2:Lv)(K:Value->Prop):gNs N L r r2 K=N.dlen r fun n=>N.dlen r2 fun m=>N.cmp .neq .i64 n .i64 m (K (.bool false)) (L (AJ Tryz.prog 41 4) 26 [dsl r,dsl r2,.int .i64 0] [] (K (.bool true)) (K (.bool false))):=by kernel_rfl
def AOT(N:Nd)(r r2:Lv)(i:Int)(back:Bk)(out:Ot):Prop:=
 wpe Tryz.prog N (AP Z0 Zp [] [] [] []) 300 (.code false (AJ Tryz.prog 41 4) (CX 100 26 [0,1,5] [] ([dsl r,dsl r2,.int .i64 i],[]))) (A7 100 [0,1,5] [4] 26 [] back out)
theorem AJV(N:Nd)(r r2:Lv)(i:Int)(back:Bk)(out:Ot):AOT N r r2 i back out=N.dlen r fun n=>N.cmp .lss .i64 i .i64 n (N.dget r i 1 fun ca=>N.rdI .u64 ca 0 fun za=>N.dget r2 i 1 fun cb=>N.rdI .u64 cb 0 fun zb=>N.cmp .neq .u64 za .u64 zb (nD/\out .ret [.bool false] [])
 (N.ari .add .i64 i .i64 1 fun j=>nD/\back [dsl r,dsl r2,.int .i64 j] [])) (nD/\out (.exit 0) [top] []):=by kernel_rfl
def INs(l m:List Nat)(i:StQ l m):Lv×Lo:=([dsl (rowsOf DJ l),dsl (rowsOf DJ m),.int .i64 (i.1:Int)],[])
def LNs(l m:List Nat):LQt:=fun code n AB obs A E=>code=AJ Tryz.prog 41 4/\n=26/\AB=[dsl (rowsOf DJ l),dsl (rowsOf DJ m),.int .i64 0]/\obs=[]/\l.length=m.length/\(l=m->A)/\(l≠m->E)
theorem AP7(l m:List Nat)(hl:l.length<1000000000)(hm:l.length=m.length)(i:StQ l m):Is (wpe Tryz.prog (real Tryz.prog) (AP Z0 Zp [] [] [] []) 300 (.code false (AJ Tryz.prog 41 4) (CX 100 26 [0,1,5] [] (INs l m i))) (A7 100 [0,1,5] [4] 26 []
   (fun AB AC=>∃a':StQ l m,l.length-a'.1<l.length-i.1/\Wk 100 (100+0) AB AC (INs l m a').1 (INs l m a').2/\∀e v o,RQ l m e v o->RQ l m e v o)
   (fun e AB AC=>∃v o,Wk 100 (100+0) AB AC v o/\RQ l m e v o))):=by
 refine⟨?_⟩
 obtain⟨i,inv⟩:=i
 have hi:=inv.le
 show AOT (real Tryz.prog) (rowsOf DJ l) (rowsOf DJ m) (i:Int) _ _
 rw[AJV]
 refine BI l.length (AQ _ _) (EL (fun hlt=>?_) (fun hge=>?_))
 ·have ha:l[i]?=some l[i]:=List.getElem?_eq_getElem hlt
  have hlt2:i<m.length:=by omega
  have hb2:m[i]?=some m[i]:=List.getElem?_eq_getElem hlt2
  generalize l[i]=a at ha
  generalize m[i]=b at hb2
  have hms:l.length-(i+1)<l.length-i:=by omega
  refine DK i rfl (CL ha) rfl (CG rfl (DK i rfl (CL hb2) rfl (CG rfl (MH (fun h=>?_) (fun h=>?_)))))
  ·exact⟨rfl,_,_,Wk.refl _ _ _ _,.inr ⟨fun e=>h (by rw[e,hb2]at ha;simpa using ha.symm),rfl,rfl,rfl⟩⟩
  ·have he:a=b:=h
   subst he
   exact BZ (by omega) ⟨rfl,⟨i+1,⟨hlt,M4 inv.eq ha hb2⟩⟩,hms,Wk.refl _ _ _ _,fun _ _ _ h=>h⟩
 ·have e:i=l.length:=by omega
  have h:=inv.eq
  rw[e,List.take_length,hm,List.take_length]at h
  exact⟨rfl,[top],[],Wk.refl _ _ _ _,.inl ⟨h,rfl,rfl,rfl⟩⟩
theorem ARW(l m:List Nat)(hl:l.length<1000000000):BH Tryz.prog 100 [0,1,5] (AQc (LNs l m)):=by
 show BH Tryz.prog 100 [0,1,5] (lpS [4] _)
 refine FQ okp (W:=AP Z0 Zp [] [] [] []) DC AZ ?_
 rintro cc n AB obs K ⟨hc,hn,hv,ho,hm,hA,hE⟩
 subst hc;subst hn;subst hv;subst ho
 refine⟨StQ l m,0,300,fun a=>l.length-a.1,INs l m,fun _ e v o=>RQ l m e v o,⟨0,⟨Nat.zero_le _,rfl⟩⟩,rfl,Wk.refl _ _ _ _,?_,AP7 l m hl hm⟩
 intro e v o hR
 rcases hR with⟨h1,rfl,rfl,rfl⟩ | ⟨h1,rfl,rfl,rfl⟩
 ·exact hA h1
 ·exact hE h1
theorem nsC(l m:List Nat):Is (gNs (real Tryz.prog) (LNs l m) (rowsOf DJ l) (rowsOf DJ m) (fun v=>∃b:Bool,v = .bool b/\(b=true↔l=m))):=by
 refine⟨?_⟩
 rw[AMc]
 exact BI l.length (AQ _ _) (BI m.length (AQ _ _) (MH (fun h=>⟨false,rfl,CS (fun z:List Nat=>z.length) h⟩) (fun h=>⟨rfl,rfl,rfl,rfl,h,fun h=>⟨true,rfl,fun _=>h,fun _=>rfl⟩,fun h=>⟨false,rfl,CS id h⟩⟩)))
theorem nsH(l m:List Nat)(hl:l.length<1000000000):∃b:Bool,(b=true↔l=m)/\∀B H,BM Tryz.prog 100 B 41 [dsl (rowsOf DJ l),dsl (rowsOf DJ m)] H (.returned (.bool b)) H:=
 IZ DC (GH (fun z hz=>by simp only[List.mem_singleton]at hz;subst hz;exact ARW l m hl)) rfl (nsC l m)
theorem ARO:∀x∈puR ALU (rM DJ),FY Tryz.prog 100 x.1 x.2:=fun x hx=>by
 simp only[puR,List.mem_cons,List.not_mem_nil,or_false]at hx
 rcases hx with rfl|rfl|rfl|rfl|rfl|rfl|rfl|rfl|rfl
 ·exact AF4 nsH
 ·exact VB AKU
 ·exact VB fun x y _=>AIR x y
 ·exact VB AIX
 ·exact VB AIP
 ·exact VB AIN
 ·exact VB AIT
 ·exact VB fun x y _=>AIV x y
 ·exact VB fun x y _=>AKW x y
theorem AMT(x y:A9)(hx:okP x):∃b:Bool,(b=true↔x=y)/\∀B H,BM Tryz.prog 100 B 22 [F8 x,F8 y] H (.returned (.bool b)) H:=IZ (EY ARO) AZ rfl (AMS x y hx)
theorem APS:FY Tryz.prog 100 22 (sSm (AD4 F8 okP Eq)):=ANI fun x y hx _=>AMT x y hx
def cU8(t:Nat):Lv:=[.int .u8 (t:Int)]
def YL(k:Nat):Nat->List Nat
 | 0=>[]
 |n+1=>YL k n++(if hasB k (n+1)=true then[n+1]else[])
theorem ALC(k t:Nat):∀n,t∈YL k n↔1<=t/\t<=n/\hasB k t=true
 | 0=>by simp[YL];omega
 |n+1=>by
  rw[YL,List.mem_append,ALC k t n]
  by_cases h:hasB k (n+1)=true
  ·rw[if_pos h,List.mem_singleton]
   constructor
   ·rintro (⟨a,b,c⟩ | rfl)
    ·exact⟨a,by omega,c⟩
    ·exact⟨by omega,by omega,h⟩
   ·rintro ⟨a,b,c⟩
    by_cases e:t=n+1
    ·exact .inr e
    ·exact .inl ⟨a,by omega,c⟩
  ·rw[if_neg h]
   constructor
   ·rintro (⟨a,b,c⟩ | h2)
    ·exact⟨a,by omega,c⟩
    ·cases h2
   ·rintro ⟨a,b,c⟩
    by_cases e:t=n+1
    ·exact absurd (e ▸ c) h
    ·exact .inl ⟨a,by omega,c⟩
theorem AHj(k:Nat):∀n,(YL k n).length<=n
 | 0=>Nat.le_refl 0
 |n+1=>by
  have:=AHj k n
  rw[YL,List.length_append]
  split<;>simp<;>omega
def wF(l:List Nat):Lv:=l.flatMap cU8
theorem AQj(l m:List Nat):wF (l++m)=wF l++wF m:=by simp[wF]
theorem ALQ:∀l:List Nat,(wF l).length=l.length
 | []=>rfl
 |a::l=>by show(wF l).length+1=_;rw[ALQ l];rfl
theorem ACk:∀l:List Nat,BL 0 (wF l)=true
 | []=>rfl
 |a::l=>by show(true&&BL 0 (wF l))=true;rw[ACk l];rfl
theorem AQZ:∀l:List Nat,DI 1 (rowsOf cU8 l)=some (wF l)
 | []=>rfl
 |a::l=>by
  show DI 1 (.agg ⟨[.int .u8 (a:Int)]⟩::rowsOf cU8 l)=_
  simp only[DI,AQZ l];rfl
abbrev LHs:=Code->Nat->Lv->Lo->(Nat->Option AA->Prop)->Prop
def ATa(L:LHs):LpS:=lpS [3] fun c n AB obs K=>L c n AB obs (fun k ob=>K (.exit 0) [mkS 100 k] [ob])
def syH:Sy:=fun b=>match Nat.beq b 100 with|true=>some true|false=>none
def ASN(N:Nd)(L:LHs)(k:Int)(K:RK):Prop:=wpe Tryz.prog N (AP syH Zp [] [(3,(17,([0,3,4],ATa L)))] [] []) 300 (.call 13 [(.int .u8 k)] h0) (FD 100 K)
theorem AQu(N:Nd)(L:LHs)(k:Int)(K:RK):ASN N L k K=L (AJ Tryz.prog 13 3) 17 [.int .u8 k,.slice none 0 0,.int .u8 1] [] (fun n ob=>K (mkS 100 n) [ob]):=by kernel_rfl
def AQ0(N:Nd)(M:MOf)(k t:Int)(n:Nat)(ob:Option AA)(back:Bk)(out:Ot):Prop:=
 wpe Tryz.prog N (AP syH Zp [] [] [(34,sOf M)] []) 300 (.code false (AJ Tryz.prog 13 3) (CX 100 17 [0,3,4] [] ([.int .u8 k,mkS 100 n,.int .u8 t],[ob]))) (A7 100 [0,3,4] [3] 17 [] back out)
theorem AOS(N:Nd)(M:MOf)(k t:Int)(n:Nat)(ob:Option AA)(back:Bk)(out:Ot):AQ0 N M k t n ob back out=N.cmp .leq .u8 t .u8 17 (M k t (N.base true n n ob 5 1 fun vs=>N.appX n vs 1 [.int .u8 t] 1 1 fun vs' n'=>N.ari .add .u8 t .u8 1 fun t'=>nD/\back [.int .u8 k,.slice (some ⟨102,0,none⟩) n' n',.int .u8 t'] [none,some (.cells [.int .u8 t] 5 1 false true),some (.cells vs' 5 1 true true)])
 (N.ari .add .u8 t .u8 1 fun t'=>nD/\back [.int .u8 k,mkS 100 n,.int .u8 t'] [ob])) (nD/\out (.exit 0) [mkS 100 n] [ob]):=by kernel_rfl
theorem ANF{m:Nat}{K:Int->Prop}(h:m+1<256)(hk:K ((m+1:Nat):Int)):(real Tryz.prog).ari .add .u8 (m:Int) .u8 (1:Int) K:=by
 refine⟨((m+1:Nat):Int),?_,hk⟩
 have e:fP .u8 ((m:Int)+1)=((m+1:Nat):Int):=by
  rw[AD1]
  simp[IntKind.wrap,IntKind.signed,IntKind.bits];omega
 simp only[H8,e];rfl
structure AQr(t:Nat):Prop where
 lo:1<=t
 hi:t<=18
def IH(k:Nat)(t:{t:Nat // AQr t}):Lv×Lo:=([.int .u8 (k:Int),mkS 100 (YL k (t.1-1)).length,.int .u8 (t.1:Int)],[mo (wF (YL k (t.1-1))) 5 1])
def RH(k:Nat)(e:Exit)(v:Lv)(o:Lo):Prop:=e = .exit 0/\v=[mkS 100 (YL k 17).length]/\o=[mo (wF (YL k 17)) 5 1]
theorem ATF(k:Nat)(hk:k<256)(t:{t:Nat // AQr t}):Is (wpe Tryz.prog (real Tryz.prog) (AP syH Zp [] [] [(34,sOf MOr)] []) 300 (.code false (AJ Tryz.prog 13 3) (CX 100 17 [0,3,4] [] (IH k t))) (A7 100 [0,3,4] [3] 17 []
   (fun AB AC=>∃a':{t:Nat // AQr t},18-a'.1<18-t.1/\Wk 100 (100+0) AB AC (IH k a').1 (IH k a').2/\∀e v o,RH k e v o->RH k e v o)
   (fun e AB AC=>∃v o,Wk 100 (100+0) AB AC v o/\RH k e v o))):=by
 refine⟨?_⟩
 obtain⟨t,lo,hi⟩:=t
 show AQ0 (real Tryz.prog) MOr (k:Int) (t:Int) (YL k (t-1)).length (mo (wF (YL k (t-1))) 5 1) _ _
 rw[AOS]
 have hT:J3=140737488355328:=rfl
 have hlen:=AHj k (t-1)
 have hs:YL k t=YL k (t-1)++(if hasB k t=true then[t]else[]):=by
  have:YL k (t-1+1)=YL k (t-1)++(if hasB k (t-1+1)=true then[t-1+1]else[]):=rfl
  rw[show t-1+1=t by omega]at this;exact this
 refine SL (d:=17) (fun h17=>⟨k,t,rfl,rfl,hk,by omega,fun h=>?_,fun h=>?_⟩) (fun h17=>?_)
 ·rw[if_pos h]at hs
  have hv:wF (YL k t)=wF (YL k (t-1))++[.int .u8 (t:Int)]:=by rw[hs,AQj];rfl
  have hl:(YL k t).length=(YL k (t-1)).length+1:=by rw[hs];simp
  refine D6 (by rw[ALQ,Nat.mul_one]) (by omega) (FV (by omega) rfl rfl (by omega) (by omega) (ANF (by omega) ⟨rfl,⟨t+1,by omega,by omega⟩,by show 18-(t+1)<18-t;omega,?_,fun _ _ _ h=>h⟩))
  show Wk 100 (100+0) _ _ ([.int .u8 (k:Int)]++mkS (100+0) (YL k (t+1-1)).length::_) ([]++[mo (wF (YL k (t+1-1))) 5 1])
  rw[Nat.add_sub_cancel,J4 (by rw[hv];simp),hv,hl]
  exact IU (k0:=0) (j:=2) (va:=[.int .u8 (k:Int)]) (by omega) rfl (by rw[←hv];exact ACk _) rfl rfl (by omega) rfl (fun i o h=>by simp at h)
 ·rw[if_neg (by rw[h];simp),List.append_nil]at hs
  refine ANF (by omega) ⟨rfl,⟨t+1,by omega,by omega⟩,by show 18-(t+1)<18-t;omega,?_,fun _ _ _ h=>h⟩
  show Wk 100 (100+0) _ _ [.int .u8 (k:Int),mkS 100 (YL k (t+1-1)).length,.int .u8 ((t+1:Nat):Int)] [mo (wF (YL k (t+1-1))) 5 1]
  rw[Nat.add_sub_cancel,hs];exact Wk.refl _ _ _ _
 ·have e:t=18:=by omega
  subst e
  exact⟨rfl,_,_,Wk.refl _ _ _ _,rfl,rfl,rfl⟩
def LHr(k:Nat):LHs:=fun c n AB obs A=>c=AJ Tryz.prog 13 3/\n=17/\AB=[.int .u8 (k:Int),.slice none 0 0,.int .u8 1]/\obs=[]/\A (YL k 17).length (mo (wF (YL k 17)) 5 1)
theorem lpH(k:Nat)(hk:k<256):BH Tryz.prog 100 [0,3,4] (ATa (LHr k)):=by
 show BH Tryz.prog 100 [0,3,4] (lpS [3] _)
 refine FQ okp (W:=AP syH Zp [] [] [(34,sOf MOr)] []) (EY (pu1 AN0)) AZ ?_
 rintro c n AB obs K ⟨hc,hn,hv,ho,hA⟩
 subst hc;subst hn;subst hv;subst ho
 refine⟨{t:Nat // AQr t},0,300,fun a=>18-a.1,IH k,fun _ e v o=>RH k e v o,⟨1,by omega,by omega⟩,rfl,?_,?_,ATF k hk⟩
 ·exact IP (va:=[.int .u8 (k:Int)])
 ·intro e v o h
  obtain⟨rfl,rfl,rfl⟩:=h
  exact hA
theorem ATg(k:Nat):Is (ASN (real Tryz.prog) (LHr k) (k:Int) (PQ (dsl (rowsOf cU8 (YL k 17))))):=by
 refine⟨?_⟩
 rw[AQu]
 refine⟨rfl,rfl,rfl,rfl,?_⟩
 have h1:Wk 100 100 [mkS 100 (YL k 17).length] [mo (wF (YL k 17)) 5 1] _ _:=JY (G:=100) 0 0 (AY:=rowsOf cU8 (YL k 17)) rfl rfl (AQZ _) (ACk _) (by omega) (by rw[AQ])
 exact h1.trans (LB rfl)
abbrev MHs:=Int->(Lv->Prop)->Prop
def sHs(M:MHs):Lv->(Value->Prop)->Prop
 | [.int .u8 k],K=>M k fun rs=>K (dsl rs)
 |_,_=>False
def AQ8:MHs:=fun a K=>∃k:Nat,a=k/\k<256/\K (rowsOf cU8 (YL k 17))
theorem ATA:FY Tryz.prog 100 13 (sHs AQ8):=by
 intro args K h
 unfold sHs at h
 split at h<;>try exact h.elim
 obtain⟨k,rfl,hk,hK⟩:=h
 exact⟨_,fun B H=>GL okp DC (lp1 (lpH k hk)) rfl rfl (ATg k) B H,hK⟩
def TW(x y:A9):Nat->A9
 | 1=>{x with a2:=y.a2}
 | 2=>{x with a3:=y.a3}
 | 3=>{x with a4:=y.a4}
 | 4=>{x with a5:=y.a5}
 | 5=>{x with a6:=y.a6}
 | 6=>{x with a7:=y.a7}
 | 7=>{x with a8:=y.a8}
 | 8=>{x with a9:=y.a9}
 | 9=>{x with a10:=y.a10}
 | 10=>{x with n:=y.n}
 | 11=>{x with f:=y.f}
 | 12=>{x with t:=y.t}
 | 13=>{x with e:=y.e}
 | 14=>{x with b:=y.b}
 | 15=>{x with g:=y.g}
 | 16=>{x with m:=y.m}
 |_=>{x with r:=y.r}
def cfP:List (Nat×Nat):=[(92,12),(92,17),(92,22),(92,27),(92,32),(92,37),(92,42),(92,47),(92,52),(92,57),(92,62),(92,67),(92,72),(92,77),(92,82),(92,87)]
def gPt(N:Nd)(x y:A9)(t:Int)(K:Value->Prop):Prop:=wpe Tryz.prog N (AP Z0 Zp [] [] [] cfP) 300 (.call 24 [F8 x,F8 y,(.int .u8 t)] h0) (J6 K)
theorem AQx(N:Nd)(x y:A9)(K:Value->Prop):gPt N x y 1 K=K (F8 (TW x y 1)):=by kernel_rfl
theorem AQy(N:Nd)(x y:A9)(K:Value->Prop):gPt N x y 2 K=K (F8 (TW x y 2)):=by kernel_rfl
theorem AQz(N:Nd)(x y:A9)(K:Value->Prop):gPt N x y 3 K=K (F8 (TW x y 3)):=by kernel_rfl
theorem AQA(N:Nd)(x y:A9)(K:Value->Prop):gPt N x y 4 K=K (F8 (TW x y 4)):=by kernel_rfl
theorem AQB(N:Nd)(x y:A9)(K:Value->Prop):gPt N x y 5 K=K (F8 (TW x y 5)):=by kernel_rfl
theorem AQC(N:Nd)(x y:A9)(K:Value->Prop):gPt N x y 6 K=K (F8 (TW x y 6)):=by kernel_rfl
theorem AQD(N:Nd)(x y:A9)(K:Value->Prop):gPt N x y 7 K=K (F8 (TW x y 7)):=by kernel_rfl
theorem AQE(N:Nd)(x y:A9)(K:Value->Prop):gPt N x y 8 K=K (F8 (TW x y 8)):=by kernel_rfl
theorem AQF(N:Nd)(x y:A9)(K:Value->Prop):gPt N x y 9 K=K (F8 (TW x y 9)):=by kernel_rfl
theorem AOZ(N:Nd)(x y:A9)(K:Value->Prop):gPt N x y 10 K=K (F8 (TW x y 10)):=by kernel_rfl
theorem AO0(N:Nd)(x y:A9)(K:Value->Prop):gPt N x y 11 K=K (F8 (TW x y 11)):=by kernel_rfl
theorem AO1(N:Nd)(x y:A9)(K:Value->Prop):gPt N x y 12 K=K (F8 (TW x y 12)):=by kernel_rfl
theorem AO2(N:Nd)(x y:A9)(K:Value->Prop):gPt N x y 13 K=K (F8 (TW x y 13)):=by kernel_rfl
theorem AO3(N:Nd)(x y:A9)(K:Value->Prop):gPt N x y 14 K=K (F8 (TW x y 14)):=by kernel_rfl
theorem AO4(N:Nd)(x y:A9)(K:Value->Prop):gPt N x y 15 K=K (F8 (TW x y 15)):=by kernel_rfl
theorem AO5(N:Nd)(x y:A9)(K:Value->Prop):gPt N x y 16 K=K (F8 (TW x y 16)):=by kernel_rfl
theorem AO6(N:Nd)(x y:A9)(K:Value->Prop):gPt N x y 17 K=K (F8 (TW x y 17)):=by kernel_rfl
theorem ATp(x y:A9):Is (gPt (real Tryz.prog) x y 1 (fun v=>v=F8 (TW x y 1))):=⟨by rw[AQx]⟩
theorem ATq(x y:A9):Is (gPt (real Tryz.prog) x y 2 (fun v=>v=F8 (TW x y 2))):=⟨by rw[AQy]⟩
theorem ATr(x y:A9):Is (gPt (real Tryz.prog) x y 3 (fun v=>v=F8 (TW x y 3))):=⟨by rw[AQz]⟩
theorem ATs(x y:A9):Is (gPt (real Tryz.prog) x y 4 (fun v=>v=F8 (TW x y 4))):=⟨by rw[AQA]⟩
theorem ATt(x y:A9):Is (gPt (real Tryz.prog) x y 5 (fun v=>v=F8 (TW x y 5))):=⟨by rw[AQB]⟩
theorem ATu(x y:A9):Is (gPt (real Tryz.prog) x y 6 (fun v=>v=F8 (TW x y 6))):=⟨by rw[AQC]⟩
theorem ATv(x y:A9):Is (gPt (real Tryz.prog) x y 7 (fun v=>v=F8 (TW x y 7))):=⟨by rw[AQD]⟩
theorem ATw(x y:A9):Is (gPt (real Tryz.prog) x y 8 (fun v=>v=F8 (TW x y 8))):=⟨by rw[AQE]⟩
theorem ATx(x y:A9):Is (gPt (real Tryz.prog) x y 9 (fun v=>v=F8 (TW x y 9))):=⟨by rw[AQF]⟩
theorem ASY(x y:A9):Is (gPt (real Tryz.prog) x y 10 (fun v=>v=F8 (TW x y 10))):=⟨by rw[AOZ]⟩
theorem ASZ(x y:A9):Is (gPt (real Tryz.prog) x y 11 (fun v=>v=F8 (TW x y 11))):=⟨by rw[AO0]⟩
theorem AS0(x y:A9):Is (gPt (real Tryz.prog) x y 12 (fun v=>v=F8 (TW x y 12))):=⟨by rw[AO1]⟩
theorem AS1(x y:A9):Is (gPt (real Tryz.prog) x y 13 (fun v=>v=F8 (TW x y 13))):=⟨by rw[AO2]⟩
theorem AS2(x y:A9):Is (gPt (real Tryz.prog) x y 14 (fun v=>v=F8 (TW x y 14))):=⟨by rw[AO3]⟩
theorem AS3(x y:A9):Is (gPt (real Tryz.prog) x y 15 (fun v=>v=F8 (TW x y 15))):=⟨by rw[AO4]⟩
theorem AS4(x y:A9):Is (gPt (real Tryz.prog) x y 16 (fun v=>v=F8 (TW x y 16))):=⟨by rw[AO5]⟩
theorem AS5(x y:A9):Is (gPt (real Tryz.prog) x y 17 (fun v=>v=F8 (TW x y 17))):=⟨by rw[AO6]⟩
theorem ptC(x y:A9):(t:Nat)->(h1:1<=t)->(h2:t<=17)->Is (gPt (real Tryz.prog) x y (t:Int) (fun v=>v=F8 (TW x y t)))
 | 0,h1,_=>absurd h1 (by decide)
 | 1,_,_=>ATp x y
 | 2,_,_=>ATq x y
 | 3,_,_=>ATr x y
 | 4,_,_=>ATs x y
 | 5,_,_=>ATt x y
 | 6,_,_=>ATu x y
 | 7,_,_=>ATv x y
 | 8,_,_=>ATw x y
 | 9,_,_=>ATx x y
 | 10,_,_=>ASY x y
 | 11,_,_=>ASZ x y
 | 12,_,_=>AS0 x y
 | 13,_,_=>AS1 x y
 | 14,_,_=>AS2 x y
 | 15,_,_=>AS3 x y
 | 16,_,_=>AS4 x y
 | 17,_,_=>AS5 x y
 |t+18,_,h2=>absurd h2 (by omega)
def AOl:Option AA:=some (.cells [.nilFunc,.nilFunc,fn2 139 103 104,fn2 141 104 103,fn2 139 106 107,fn2 141 107 106,fn2 139 109 110,fn2 141 110 109,fn2 139 112 113,fn2 141 113 112,fn2 139 115 116,fn2 141 116 115,fn2 143 118 119,fn2 144 119 118,fn2 143 121 122,fn2 144 122 121,fnV 145,fnV 146,fnV 147,fnV 149,fn2 151 127 126,fn2 152 128 126,fn2 163 131 130,fn2 164 132 130,fn2 168 135 134,fn2 169 136 134,fn2 175 139 138,fn2 176 140 138,fn2 186 143 142,fn2 187 144 142,fn2 194 147 146,fn2 195 148 146,fn2 202 151 150,fn2 203 152 150,fn2 206 155 154,fn2 207 156 154] 92 36 false true)
def NH:Lo:=[AOl,bx [fnV 75] 128,bx [.int .u64 2147483647] 28,bp [fn2 139 103 104,fn2 141 104 103],bx [fnV 76] 128,bx [.int .u64 2147483647] 28,bp [fn2 139 106 107,fn2 141 107 106],bx [fnV 77] 128,bx [.int .u64 2147483647] 28,bp [fn2 139 109 110,fn2 141 110 109],bx [fnV 78] 128,bx [.int .u64 2147483647] 28,bp [fn2 139 112 113,fn2 141 113 112],bx [fnV 79] 128,bx [.int .u64 2147483647] 28,bp [fn2 139 115 116,fn2 141 116 115],bx [fnV 81] 131,bx [.int .u64 18446744073709551615] 28,bp [fn2 143 118 119,fn2 144 119 118],bx [fnV 82] 131,bx [.int .u64 18446744073709551615] 28,bp [fn2 143 121 122,fn2 144 122 121],bp [fnV 145,fnV 146],bp [fnV 147,fnV 149],bx [fnV 86] 135,bx [fnV 87] 136,bx [fnV 88] 137,bp [fn2 151 127 126,fn2 152 128 126],bx [fnV 90] 140,bx [fnV 91] 141,bx [fnV 92] 142,bp [fn2 163 131 130,fn2 164 132 130],bx [fnV 94] 145,bx [fnV 95] 146,bx [fnV 96] 147,bp [fn2 168 135 134,fn2 169 136 134],bx [fnV 98] 150,bx [fnV 99] 151,bx [fnV 100] 152,bp [fn2 175 139 138,fn2 176 140 138],bx [fnV 102] 155,bx [fnV 103] 156,bx [fnV 104] 157,bp [fn2 186 143 142,fn2 187 144 142],bx [fnV 106] 160,bx [fnV 107] 161,bx [fnV 108] 162,bp [fn2 194 147 146,fn2 195 148 146],bx [fnV 110] 165,bx [fnV 111] 166,bx [fnV 112] 167,bp [fn2 202 151 150,fn2 203 152 150],bx [fnV 114] 170,bx [fnV 115] 171,bx [fnV 116] 172,bp [fn2 206 155 154,fn2 207 156 154],AOl]
def cW(x:A9)(w:Value):Lv:=(lM x).set 10 w
def cWo(x:A9)(w:Value):Option AA:=some (.cells (cW x w) 51 52 false true)
abbrev MWd:=Lv->ByteArray->(Value->Bool->Prop)->Prop
def APv(H:Heap)(b:Nat):Bool:=Nat.ble 100 b&&Nat.blt b H.next
def sW2(M:MWd):Lv->Heap->VK->Prop
 | [.pointer (some ⟨b,0,none⟩),.string s],H,K=>match H.get b with
  |some (.cells vs 51 52 false true)=>match APv H b with
   |true=>M vs s fun w ok=>K (.bool ok) (IW H [b] [some (.cells (vs.set 10 w) 51 52 false true)])
   |false=>False
  |_=>False
 |_,_,_=>False
abbrev AGe:=ByteArray->Int->(Nat->Int->Prop)->Prop
def AFS(M:AGe):Lv->(Value->Prop)->Prop
 | [.string s,.int .u64 t],K=>M s t fun n e=>K (.tuple ⟨[.int .u64 (n:Int),.int .i64 e]⟩)
 |_,_=>False
def sRd{α:Type}(v:α->Value)(M:ByteArray->(α->Int->Prop)->Prop):Lv->(Value->Prop)->Prop
 | [.string s],K=>M s fun y e=>K (.tuple ⟨[v y,.int .i64 e]⟩)
 |_,_=>False
structure MDe where
 o:MOf
 n:AGe
 w:MWd
 p0:ByteArray->(EP->Int->Prop)->Prop
 p1:ByteArray->(E9->Int->Prop)->Prop
 p2:ByteArray->(EB->Int->Prop)->Prop
 p3:ByteArray->(C9->Int->Prop)->Prop
 p4:ByteArray->(ES->Int->Prop)->Prop
 p5:ByteArray->(EI->Int->Prop)->Prop
 p6:ByteArray->(FJ->Int->Prop)->Prop
 p7:ByteArray->(IJ->Int->Prop)->Prop
def puD(M:MDe):PuL:=[(34,sOf M.o),(142,AFS M.n),(88,sRd OI M.p0),(92,sRd K6 M.p1),(96,sRd K9 M.p2),(100,sRd K5 M.p3),(104,sRd K4 M.p4),(108,sRd K7 M.p5),(112,sRd K8 M.p6),(116,sRd OJ M.p7)]
def rZl:Lv:=(lM PZ).map fun v=>match v with | .iface _ _ => .slice none 0 0|v=>v
def rZ:Option AA:=some (.cells rZl 51 52 false true)
def spD(b:Nat):Bool:=Nat.beq b 158
abbrev AJr:=Code->Nat->Lv->Lo->(Nat->Option AA->Prop)->(Nat->Option AA->Prop)->Prop
def ALP(L:AJr):LpS:=lpS [4,6] fun c n AB obs K=>match AB,obs with
 | [_,e,_,_,_],[some (.cells vs 51 52 false true)]=>L c n AB obs (fun k ob=>K (.exit 0) [top,e] [some (.cells (vs.set 10 (mkS 101 k)) 51 52 false true),ob]) (fun k ob=>K .ret [.bool false,top] [some (.cells (vs.set 10 (mkS 101 k)) 51 52 false true),ob])
 |_,_=>False
def gW2(N:Nd)(ML:ZW)(L:AJr)(x:A9)(s:ByteArray)(K:RK):Prop:=wpe Tryz.prog N (AP fF Zp [] [(3,(42,([0,6,16,17,18],ALP L)))] [(150,sRL ML)] [(42,41)]) 300 (.call 149 [pA 100,(.string s)] (hOf 100 [] [cWo x (.slice none 0 0)])) (FD 100 K)
theorem AMi(N:Nd)(ML:ZW)(L:AJr)(x:A9)(s:ByteArray)(K:RK):gW2 N ML L x s K=ML s 128 (fun rs=>N.dlen rs fun n=>L (AJ Tryz.prog 149 3) 42 [pA 100,.int .i64 0,dsl rs,.int .i64 n,.int .i64 0] [cWo x (.slice none 0 0)] (fun k ob=>K (.bool true) [cWo x (mkS 101 k),ob]) (fun k ob=>K (.bool false) [cWo x (mkS 101 k),ob]))
 (N.dlen [] fun n=>L (AJ Tryz.prog 149 3) 42 [pA 100,.int .i64 3,dsl [],.int .i64 n,.int .i64 0] [cWo x (.slice none 0 0)] (fun k ob=>K (.bool false) [cWo x (mkS 101 k),ob]) (fun k ob=>K (.bool false) [cWo x (mkS 101 k),ob]))
 (N.dlen [] fun n=>L (AJ Tryz.prog 149 3) 42 [pA 100,.int .i64 4,dsl [],.int .i64 n,.int .i64 0] [cWo x (.slice none 0 0)] (fun k ob=>K (.bool false) [cWo x (mkS 101 k),ob]) (fun k ob=>K (.bool false) [cWo x (mkS 101 k),ob])):=by kernel_rfl
def APc(N:Nd)(M:AGe)(x:A9)(k:Nat)(ob:Option AA)(e:Int)(rs:Lv)(n i:Int)(back:Bk)(out:Ot):Prop:=
 wpe Tryz.prog N (AP fF Zp [] [] [(142,AFS M)] []) 300 (.code false (AJ Tryz.prog 149 3) (CX 100 42 [0,6,16,17,18] [] ([pA 100,.int .i64 e,dsl rs,.int .i64 n,.int .i64 i],[cWo x (mkS 101 k),ob]))) (A7 100 [0,6,16,17,18] [4,6] 42 [] back out)
theorem AJ3(N:Nd)(M:AGe)(x:A9)(k:Nat)(ob:Option AA)(e:Int)(rs:Lv)(n i:Int)(back:Bk)(out:Ot):APc N M x k ob e rs n i back out=N.cmp .lss .i64 i .i64 n (N.dget rs i 1 fun c=>N.rdS c 0 fun s=>M s 18446744073709551615 fun z f=>N.cmp .neq .i64 f .i64 0 (nD/\out .ret [.bool false,.int .i64 e] [cWo x (mkS 101 k),ob])
 (N.base true k k ob 28 1 fun vs=>N.appX k vs 1 [.int .u64 (z:Int)] 1 8 fun vs' k'=>N.ari .add .i64 i .i64 1 fun j=>nD/\back [pA 100,.int .i64 e,dsl rs,.int .i64 n,.int .i64 j] [cWo x (.slice (some ⟨103,0,none⟩) k' k'),none,some (.cells [.int .u64 (z:Int)] 28 1 false true),some (.cells vs' 28 1 true true)]))
 (nD/\out (.exit 0) [top,.int .i64 e] [cWo x (mkS 101 k),ob]):=by kernel_rfl
def atO(t:Int)(s:ByteArray):Option AA:=some (.cells [.int .u8 t,.string s] 94 2 false true)
def lO(v:Value):Lv:=match v with
 | .agg ⟨l⟩=>l
 |_=>[]
def obO(v:Value)(e z:Nat):Option AA:=some (.cells (lO v) e z false true)
def nxD(N:Nd)(rs:Lv)(n i:Int)(ob:Lo)(back:Bk):Prop:=N.ari .add .i64 i .i64 1 fun j=>nD/\back [pA 100,pA 101,pA 158,dsl rs,.int .i64 n,.int .i64 j] ob
def noD(ob:Lo)(out:Ot):Prop:=nD/\out .ret [pA 100,.int .i64 3,pA 101] ob
def goD(N:Nd)(x:A9)(w:Value)(rs:Lv)(n i:Int)(ex:Lo)(e:Int)(back:Bk)(out:Ot):Prop:=
 N.cmp .eql .i64 e .i64 0 (nxD N rs n i (rZ::cWo x w::(NH++ex)) back) (noD (rZ::cWo x w::(NH++ex)) out)
def ARe(N:Nd)(M:MDe)(x:A9)(w:Value)(rs:Lv)(n i t:Int)(s:ByteArray)(back:Bk)(out:Ot):Prop:=
 M.n s 2147483647 fun z e=>N.conv 28 3 .u64 (z:Int) .i64 fun z'=>goD N {x with a2:=z' } w rs n i [atO t s] e back out
def ARf(N:Nd)(M:MDe)(x:A9)(w:Value)(rs:Lv)(n i t:Int)(s:ByteArray)(back:Bk)(out:Ot):Prop:=
 M.n s 2147483647 fun z e=>N.conv 28 3 .u64 (z:Int) .i64 fun z'=>goD N {x with a3:=z' } w rs n i [atO t s] e back out
def ARg(N:Nd)(M:MDe)(x:A9)(w:Value)(rs:Lv)(n i t:Int)(s:ByteArray)(back:Bk)(out:Ot):Prop:=
 M.n s 2147483647 fun z e=>N.conv 28 3 .u64 (z:Int) .i64 fun z'=>goD N {x with a4:=z' } w rs n i [atO t s] e back out
def ARh(N:Nd)(M:MDe)(x:A9)(w:Value)(rs:Lv)(n i t:Int)(s:ByteArray)(back:Bk)(out:Ot):Prop:=
 M.n s 2147483647 fun z e=>N.conv 28 3 .u64 (z:Int) .i64 fun z'=>goD N {x with a5:=z' } w rs n i [atO t s] e back out
def ARi(N:Nd)(M:MDe)(x:A9)(w:Value)(rs:Lv)(n i t:Int)(s:ByteArray)(back:Bk)(out:Ot):Prop:=
 M.n s 2147483647 fun z e=>N.conv 28 3 .u64 (z:Int) .i64 fun z'=>goD N {x with a6:=z' } w rs n i [atO t s] e back out
def ARj(N:Nd)(M:MDe)(x:A9)(w:Value)(rs:Lv)(n i t:Int)(s:ByteArray)(back:Bk)(out:Ot):Prop:=
 M.n s 18446744073709551615 fun z e=>goD N {x with a7:=z} w rs n i [atO t s] e back out
def ARk(N:Nd)(M:MDe)(x:A9)(w:Value)(rs:Lv)(n i t:Int)(s:ByteArray)(back:Bk)(out:Ot):Prop:=
 M.n s 18446744073709551615 fun z e=>goD N {x with a8:=z} w rs n i [atO t s] e back out
def ARl(N:Nd)(M:MDe)(x:A9)(w:Value)(rs:Lv)(n i t:Int)(s:ByteArray)(back:Bk)(out:Ot):Prop:=
 nxD N rs n i (rZ::cWo {x with a9:=s} w::(NH++[atO t s])) back
def ARm(N:Nd)(M:MDe)(x:A9)(w:Value)(rs:Lv)(n i t:Int)(s:ByteArray)(back:Bk)(out:Ot):Prop:=
 M.w (cW x w) s fun w' b=>branch b (nxD N rs n i (rZ::cWo x w'::(NH++[atO t s])) back) (noD (rZ::cWo x w'::(NH++[atO t s])) out)
def AOr(N:Nd)(M:MDe)(x:A9)(w:Value)(rs:Lv)(n i t:Int)(s:ByteArray)(back:Bk)(out:Ot):Prop:=
 M.p0 s fun y e=>obO (OI y) 32 9=obO (OI y) 32 9/\goD N {x with n:=y} w rs n i [atO t s,obO (OI y) 32 9] e back out
def AOs(N:Nd)(M:MDe)(x:A9)(w:Value)(rs:Lv)(n i t:Int)(s:ByteArray)(back:Bk)(out:Ot):Prop:=
 M.p1 s fun y e=>obO (K6 y) 34 5=obO (K6 y) 34 5/\goD N {x with f:=y} w rs n i [atO t s,obO (K6 y) 34 5] e back out
def AOt(N:Nd)(M:MDe)(x:A9)(w:Value)(rs:Lv)(n i t:Int)(s:ByteArray)(back:Bk)(out:Ot):Prop:=
 M.p2 s fun y e=>obO (K9 y) 37 5=obO (K9 y) 37 5/\goD N {x with t:=y} w rs n i [atO t s,obO (K9 y) 37 5] e back out
def AOu(N:Nd)(M:MDe)(x:A9)(w:Value)(rs:Lv)(n i t:Int)(s:ByteArray)(back:Bk)(out:Ot):Prop:=
 M.p3 s fun y e=>obO (K5 y) 39 11=obO (K5 y) 39 11/\goD N {x with e:=y} w rs n i [atO t s,obO (K5 y) 39 11] e back out
def AOv(N:Nd)(M:MDe)(x:A9)(w:Value)(rs:Lv)(n i t:Int)(s:ByteArray)(back:Bk)(out:Ot):Prop:=
 M.p4 s fun y e=>obO (K4 y) 42 2=obO (K4 y) 42 2/\goD N {x with b:=y} w rs n i [atO t s,obO (K4 y) 42 2] e back out
def AOw(N:Nd)(M:MDe)(x:A9)(w:Value)(rs:Lv)(n i t:Int)(s:ByteArray)(back:Bk)(out:Ot):Prop:=
 M.p5 s fun y e=>obO (K7 y) 45 4=obO (K7 y) 45 4/\goD N {x with g:=y} w rs n i [atO t s,obO (K7 y) 45 4] e back out
def AOx(N:Nd)(M:MDe)(x:A9)(w:Value)(rs:Lv)(n i t:Int)(s:ByteArray)(back:Bk)(out:Ot):Prop:=
 M.p6 s fun y e=>obO (K8 y) 47 3=obO (K8 y) 47 3/\goD N {x with m:=y} w rs n i [atO t s,obO (K8 y) 47 3] e back out
def AOy(N:Nd)(M:MDe)(x:A9)(w:Value)(rs:Lv)(n i t:Int)(s:ByteArray)(back:Bk)(out:Ot):Prop:=
 M.p7 s fun y e=>obO (OJ y) 49 2=obO (OJ y) 49 2/\goD N {x with r:=y} w rs n i [atO t s,obO (OJ y) 49 2] e back out
def AOJ(N:Nd)(M:MDe)(x:A9)(w:Value)(rs:Lv)(n i:Int)(back:Bk)(out:Ot):Prop:=
 wpe Tryz.prog N (AP Z0 spD [(149,sW2 M.w)] [] (puD M) []) 300 (.code false (AJ Tryz.prog 17 13) (CX 100 84 [2,6,7,58,59,60] [] ([pA 100,pA 101,pA 158,dsl rs,.int .i64 n,.int .i64 i],rZ::cWo x w::NH))) (A7 100 [2,6,7,58,59,60] [2,3,6] 84 [] back out)
theorem AJP(N:Nd)(M:MDe)(x:A9)(w:Value)(rs:Lv)(n i:Int)(back:Bk)(out:Ot):AOJ N M x w rs n i back out=N.cmp .lss .i64 i .i64 n (N.dget rs i 2 fun c=>N.rdI .u8 c 0 fun t=>N.rdS c 1 fun s=>M.o (x.a0:Int) t (N.split t [False,ARe N M x w rs n i t s back out,ARf N M x w rs n i t s back out,ARg N M x w rs n i t s back out,ARh N M x w rs n i t s back out,ARi N M x w rs n i t s back out,ARj N M x w rs n i t s back out,ARk N M x w rs n i t s back out,ARl N M x w rs n i t s back out,ARm N M x w rs n i t s back out,AOr N M x w rs n i t s back out,AOs N M x w rs n i t s back out,AOt N M x w rs n i t s back out,AOu N M x w rs n i t s back out,AOv N M x w rs n i t s back out,AOw N M x w rs n i t s back out,AOx N M x w rs n i t s back out,AOy N M x w rs n i t s back out])
 (noD (rZ::cWo x w::(NH++[atO t s])) out)) (nD/\out (.exit 1) [pA 100,top,pA 101] (rZ::cWo x w::NH)):=by kernel_rfl
abbrev LDe:=Code->Nat->Lv->Lo->(A9->Prop)->Prop->Prop
def dH:Lo:=List.replicate 57 none
def ALO(L:LDe):LpS:=lpS [2,3,6] fun c n AB obs K=>L c n AB obs (fun x=>K (.exit 1) [pA 100,top,pA 101] (rZ::some (cM x)::dH)) (K .ret [pA 100,.int .i64 3,top] (rZ::none::dH))
def rZv:Value := .agg ⟨rZl⟩
def erD(e:Int):Value := .tuple ⟨[rZv,.int .i64 e]⟩
def rZk(b z:Int):Option AA:=some (.cells ((rZl.set 0 (.int .u8 b)).set 1 (.int .u32 z)) 51 52 false true)
def xiN(N:Nd)(s:ByteArray)(K:Int->Int->Prop):Prop:=
 N.sat s 0 fun b0=>N.sat s 1 fun b1=>N.conv 5 27 .u8 b1 .u32 fun c1=>N.ari .shl .u32 c1 .u64 24 fun d1=>N.sat s 2 fun b2=>N.conv 5 27 .u8 b2 .u32 fun c2=>N.ari .shl .u32 c2 .u64 16 fun d2=>N.ari .or .u32 d1 .u32 d2 fun e2=>
  N.sat s 3 fun b3=>N.conv 5 27 .u8 b3 .u32 fun c3=>N.ari .shl .u32 c3 .u64 8 fun d3=>N.ari .or .u32 e2 .u32 d3 fun e3=>N.sat s 4 fun b4=>N.conv 5 27 .u8 b4 .u32 fun c4=>N.ari .or .u32 e3 .u32 c4 fun e4=>K b0 e4
def AOI(N:Nd)(MD:MDt)(L:LDe)(s:ByteArray)(K:Value->Prop):Prop:=wpe Tryz.prog N (AP Z0 Zp [] [(13,(84,([2,6,7,58,59,60],ALO L)))] [(37,fO MD)] [(84,33)]) 1000 (.call 17 [(.string s)] h0) (J6 K)
theorem AJO(N:Nd)(MD:MDt)(L:LDe)(s:ByteArray)(K:Value->Prop):AOI N MD L s K=N.slen s fun n=>N.cmp .lss .i64 n .i64 5 (K (erD 4)) (N.slen s fun n=>N.cmp .gtr .i64 n .i64 16384 (K (erD 5)) (N.sat s 0 fun b=>N.cmp .geq .u8 b .u8 1 (N.cmp .leq .u8 b .u8 46 (N.ssl s (some 5) none fun s'=>MD s' (fun rs=>xiN N s fun b z=>N.dlen rs fun n=>L (AJ Tryz.prog 17 13) 84 [pA 100,pA 101,pA 158,dsl rs,.int .i64 n,.int .i64 0] (rZ::rZk b z::NH) (fun x=>K (.tuple ⟨[F8 x,.int .i64 0]⟩)) (K (erD 3))) (K (erD 3)) (K (erD 4))) (K (erD 15))) (K (erD 15)))):=by kernel_rfl
end
end Go.Proofs.Ob
