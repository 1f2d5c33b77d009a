/- . -/
import Derived.Test.YtblbaohcelldpaaGreatDoorR3
import Derived.Test.YtblbaohcelldpaaGreatDoorQJ
import Derived.Test.YtblbaohcelldpaaGreatDoorQF
set_option linter.all false
set_option maxRecDepth 100000
namespace Go.Proofs.Ob
open Go Go.Abs Go.Tlv
noncomputable section
def gKr(N:Nd)(k:Int)(K:Value->Prop):Prop:=wpe Tryz.prog N (AU Z0 Zp [] [] [] []) 300 (.call 31 [(.int .u8 k)] h0) (II K)
theorem AHe(N:Nd)(k:Int)(K:Value->Prop):gKr N k K=N.cmp .geq .u8 k .u8 1 (N.cmp .leq .u8 k .u8 46 (K (.bool true)) (K (.bool false))) (K (.bool false)):=by kernel_rfl
def sKr(M:Int->Prop->Prop->Prop):List Value->(Value->Prop)->Prop
 | [.int .u8 k],K=>M k (K (.bool true)) (K (.bool false))
 |_,_=>False
def MKr:Int->Prop->Prop->Prop:=fun k A E=>∃n:Nat,k=n/\(1<=n/\n<=46->A)/\(¬(1<=n/\n<=46)->E)
theorem krC(k:Nat):Is (gKr (real Tryz.prog) (k:Int) (fun v=>v = .bool (decide (1<=k/\k<=46)))):=by
 refine⟨?_⟩
 rw[AHe]
 refine AC0 (fun h=>zH (d:=46) (fun h2=>?_) (fun h2=>?_)) (fun h=>?_)
 ·rw[decide_eq_true (show 1<=k/\k<=46 by omega)]
 ·rw[decide_eq_false (show ¬(1<=k/\k<=46)by omega)]
 ·rw[decide_eq_false (show ¬(1<=k/\k<=46)by omega)]
theorem ALs:EW Tryz.prog 100 31 (sKr MKr):=by
 intro args K h
 unfold sKr at h
 split at h<;>try exact h.elim
 obtain⟨k,rfl,h1,h2⟩:=h
 refine⟨_,fun B H=>PS okp DR BN rfl (krC k) B H,?_⟩
 by_cases hk:1<=k/\k<=46
 ·rw[decide_eq_true hk];exact h1 hk
 ·rw[decide_eq_false hk];exact h2 hk
def gWh(N:Nd)(M:YH)(s:ByteArray)(K:Value->Prop):Prop:=wpe Tryz.prog N (AU Z0 Zp [] [] [(118,VZ M)] []) 300 (.call 117 [(.string s)] h0) (II K)
theorem AHv(N:Nd)(M:YH)(s:ByteArray)(K:Value->Prop):gWh N M s K=M s 2147483647 fun n e=>N.conv 28 3 .u64 (n:Int) .i64 fun z=>N.cmp .eql .i64 e .i64 0 (K (.tuple ⟨[.int .i64 z,.bool true]⟩)) (K (.tuple ⟨[.int .i64 z,.bool false]⟩)):=by kernel_rfl
abbrev MWh:=ByteArray->(Int->Bool->Prop)->Prop
def sWh(M:MWh):List Value->(Value->Prop)->Prop
 | [.string s],K=>M s fun n b=>K (.tuple ⟨[.int .i64 n,.bool b]⟩)
 |_,_=>False
def whV(o:Option Nat):Int×Bool:=match o with
 |some n=>((n:Int),true)
 |none=>(0,false)
def AGO:MWh:=fun s K=>K (whV (GQ s.data.toList 2147483647)).1 (whV (GQ s.data.toList 2147483647)).2
theorem whC(s:ByteArray):Is (gWh (real Tryz.prog) WF s (fun v=>v = .tuple ⟨[.int .i64 (whV (GQ s.data.toList 2147483647)).1,.bool (whV (GQ s.data.toList 2147483647)).2]⟩)):=by
 refine⟨?_⟩
 rw[AHv]
 refine⟨2147483647,rfl,fun n hn=>?_,fun hn=>?_⟩
 ·rw[hn]
  exact BI CW DU (AX (by have:=(BV hn).2.1;omega)) (CG (m:=0) (d:=0) (fun _=>rfl) (fun h=>absurd rfl h))
 ·rw[hn]
  exact BI (m:=0) CW DU (AX (by omega)) (CG (m:=3) (d:=0) (fun h=>absurd h (by decide)) (fun _=>rfl))
theorem ALy:EW Tryz.prog 100 117 (sWh AGO):=by
 intro args K h
 unfold sWh at h
 split at h<;>try exact h.elim
 rename_i s
 exact⟨_,fun B H=>PS okp (DI (pu1 AFH)) BN rfl (whC s) B H,h⟩
abbrev LWq:=Code->Nat->List Value->List (Option AJ)->(Nat->Option AJ->Prop)->Prop->Prop
def AGI(L:LWq):LpS:=lpS [2,3,6] fun c n AB obs K=>L c n AB obs (fun k ob=>K (.exit 0) [top,top,mkS 100 k] [ob]) (K .ret [I4,.bool false,top] [])
def gWq(N:Nd)(M:ByteArray->Int->(List Value->Int->Prop)->Prop)(L:LWq)(s:ByteArray)(K:RK):Prop:=wpe Tryz.prog N (AU (syB 100) Zp [] [(6,(38,([4,6,7],AGI L)))] [(210,AFY M)] []) 300 (.call 119 [(.string s)] h0) (PT 100 K)
theorem AHx(N:Nd)(M:ByteArray->Int->(List Value->Int->Prop)->Prop)(L:LWq)(s:ByteArray)(K:RK):gWq N M L s K=M s 128 fun rs e=>N.cmp .neq .i64 e .i64 0 (K (.tuple ⟨[I4,.bool false]⟩) []) (L (AO Tryz.prog 119 6) 38 [dsl rs,I4,.int .i64 0] [] (fun k ob=>K (.tuple ⟨[mkS 100 k,.bool true]⟩) [ob]) (K (.tuple ⟨[I4,.bool false]⟩) [])):=by kernel_rfl
def AJl(N:Nd)(M:YH)(rs:List Value)(k:Nat)(ob:Option AJ)(i:Int)(back:BK)(out:OT):Prop:=
 wpe Tryz.prog N (AU (syB 100) Zp [] [] [(118,VZ M)] []) 300 (.code false (AO Tryz.prog 119 6) (C9 100 38 [4,6,7] [] ([dsl rs,mkS 100 k,.int .i64 i],[ob]))) (BM 100 [4,6,7] [2,3,6] 38 [] back out)
theorem AFb(N:Nd)(M:YH)(rs:List Value)(k:Nat)(ob:Option AJ)(i:Int)(back:BK)(out:OT):AJl N M rs k ob i back out=N.dlen rs fun n=>N.cmp .lss .i64 i .i64 (n:Int) (N.dget rs i 1 fun l=>N.rdS l 0 fun s=>M s 18446744073709551615 fun z e=>N.cmp .neq .i64 e .i64 0 (([]:List Deferred)=[]/\out .ret [I4,.bool false,mkS 100 k] [ob])
 (N.base true k k ob 28 1 fun vs=>N.appX k vs 1 [.int .u64 (z:Int)] 1 8 fun vs' k'=>N.ari .add .i64 i .i64 1 fun j=>([]:List Deferred)=[]/\back [dsl rs,.slice (some ⟨102,0,none⟩) k' k',.int .i64 j] [none,some (.cells [.int .u64 (z:Int)] 28 1 false true),some (.cells vs' 28 1 true true)]))
 (([]:List Deferred)=[]/\out (.exit 0) [top,top,mkS 100 k] [ob]):=by kernel_rfl
abbrev LOg:=Code->Nat->List Value->List (Option AJ)->Prop->Prop->Prop
def AGD(L:LOg):LpS:=lpS [4] fun c n AB obs K=>L c n AB obs (K .ret [.bool true] []) (K (.exit 0) [top] [])
def gOg(N:Nd)(M:MHs)(L:LOg)(k t:Int)(K:Value->Prop):Prop:=wpe Tryz.prog N (AU Z0 Zp [] [(3,(21,([1,5,6],AGD L)))] [(33,sHs M)] []) 300 (.call 40 [(.int .u8 k),(.int .u8 t)] h0) (II K)
theorem AHk(N:Nd)(M:MHs)(L:LOg)(k t:Int)(K:Value->Prop):gOg N M L k t K=M k fun rs=>L (AO Tryz.prog 40 3) 21 [.int .u8 t,dsl rs,.int .i64 0] [] (K (.bool true)) (K (.bool false)):=by kernel_rfl
def AJd(N:Nd)(t:Int)(rs:List Value)(i:Int)(back:BK)(out:OT):Prop:=
 wpe Tryz.prog N (AU Z0 Zp [] [] [] []) 300 (.code false (AO Tryz.prog 40 3) (C9 100 21 [1,5,6] [] ([.int .u8 t,dsl rs,.int .i64 i],[]))) (BM 100 [1,5,6] [4] 21 [] back out)
theorem AE0(N:Nd)(t:Int)(rs:List Value)(i:Int)(back:BK)(out:OT):AJd N t rs i back out=N.dlen rs fun n=>N.cmp .lss .i64 i .i64 (n:Int) (N.dget rs i 1 fun l=>N.rdI .u8 l 0 fun z=>N.cmp .eql .u8 z .u8 t (([]:List Deferred)=[]/\out .ret [.bool true] []) (N.ari .add .i64 i .i64 1 fun j=>([]:List Deferred)=[]/\back [.int .u8 t,dsl rs,.int .i64 j] []))
 (([]:List Deferred)=[]/\out (.exit 0) [top] []):=by kernel_rfl
abbrev MRo(α:Type):=ByteArray->(α->Int->Prop)->Prop
structure MOs where
 n:MRo DX
 f:MRo EJ
 t:MRo DC
 e:MRo CJ
 b:MRo D6
 g:MRo DL
 m:MRo EQ
 r:MRo GR
def AJR(M:MOs):PuL:=[(211,sRd QM M.n),(212,sRd LC M.f),(213,sRd LP M.t),(214,sRd LB M.e),(215,sRd LA M.b),(216,sRd LH M.g),(217,sRd LM M.m),(218,sRd QN M.r)]
def XA(N:Nd)(K:Value->Prop)(x:BB)(e:Int):Prop:=N.cmp .eql .i64 e .i64 0 (K (.tuple ⟨[JO x,.bool true]⟩)) (K (.tuple ⟨[JO x,.bool false]⟩))
def gOj(N:Nd)(M:MOs)(x:BB)(t:Int)(s:ByteArray)(K:Value->Prop):Prop:=wpe Tryz.prog N (AU Z0 Zp [] [] (AJR M) []) 300 (.call 120 [JO x,(.int .u8 t),(.string s)] h0) (II K)
def AEA(N:Nd)(t:Int)(d:Prop):List (Int×Prop)->Prop
 | []=>d
 |(c,p)::r=>N.cmp .eql .u8 t .u8 c p (AEA N t d r)
theorem AHl(N:Nd)(M:MOs)(x:BB)(t:Int)(s:ByteArray)(K:Value->Prop):gOj N M x t s K=AEA N t (M.r s fun y e=>XA N K {x with r:=y} e) [(10,M.n s fun y e=>XA N K {x with n:=y} e),(11,M.f s fun y e=>XA N K {x with f:=y} e),(12,M.t s fun y e=>XA N K {x with t:=y} e),(13,M.e s fun y e=>XA N K {x with e:=y} e),
 (14,M.b s fun y e=>XA N K {x with b:=y} e),(15,M.g s fun y e=>XA N K {x with g:=y} e),(16,M.m s fun y e=>XA N K {x with m:=y} e)]:=by kernel_rfl
abbrev MOj:=Value->Int->ByteArray->(BB->Bool->Prop)->Prop
def sOj(M:MOj):List Value->(Value->Prop)->Prop
 | [v,.int .u8 t,.string s],K=>M v t s fun n b=>K (.tuple ⟨[JO n,.bool b]⟩)
 |_,_=>False
abbrev MWq:=ByteArray->(List Nat->Bool->Prop)->Prop
def sWq(M:MWq):List Value->(Value->Prop)->Prop
 | [.string s],K=>M s fun n b=>K (.tuple ⟨[dsl (rowsOf CS n),.bool b]⟩)
 |_,_=>False
def uY(N:Nd)(K:Value->Prop)(x:BB)(b:Bool):Prop:=branch b (XA N K x 0) (K (.tuple ⟨[JO x,.bool false]⟩))
def gWi(N:Nd)(M1:MWh)(M2:YH)(M3:MWq)(M4:MOj)(x:BB)(t:Int)(s:ByteArray)(K:Value->Prop):Prop:=
 wpe Tryz.prog N (AU Z0 Zp [] [] [(117,sWh M1),(118,VZ M2),(119,sWq M3),(120,sOj M4)] []) 300 (.call 39 [JO x,.agg ⟨[.int .u8 t,.string s]⟩] h0) (II K)
theorem AHw(N:Nd)(M1:MWh)(M2:YH)(M3:MWq)(M4:MOj)(x:BB)(t:Int)(s:ByteArray)(K:Value->Prop):gWi N M1 M2 M3 M4 x t s K=AEA N t (M4 (JO x) t s fun y b=>K (.tuple ⟨[JO y,.bool b]⟩)) [(1,M1 s fun n b=>uY N K {x with a2:=n} b),(2,M1 s fun n b=>uY N K {x with a3:=n} b),(3,M1 s fun n b=>uY N K {x with a4:=n} b),(4,M1 s fun n b=>uY N K {x with a5:=n} b),
 (5,M1 s fun n b=>uY N K {x with a6:=n} b),(6,M2 s 18446744073709551615 fun n e=>XA N K {x with a7:=n} e),(7,M2 s 18446744073709551615 fun n e=>XA N K {x with a8:=n} e),(8,XA N K {x with a9:=s} 0),(9,M3 s fun n b=>uY N K {x with a10:=n} b)]:=by kernel_rfl
structure AEl(l:List ByteArray) where
 acc:List Nat
 i:Nat
 le:i<=l.length
 len:acc.length=i
 ok:H5 rdW (l.take i)=some acc
def IWq(l:List ByteArray)(p:AEl l):List Value×List (Option AJ):=([dsl (rowsOf cSt l),mkS 100 p.acc.length,.int .i64 (p.i:Int)],[mo (p.acc.flatMap CS) 28 1])
def RWq(l:List ByteArray)(ex:Exit)(v:List Value)(o:List (Option AJ)):Prop:=
 (∃acc,H5 rdW l=some acc/\ex = .exit 0/\v=[top,top,mkS 100 acc.length]/\o=[mo (acc.flatMap CS) 28 1])∨(H5 rdW l=none/\ex = .ret/\v=[I4,.bool false,top]/\o=[])
theorem AJ4(l:List ByteArray)(hl:l.length<=1000)(p:AEl l):
  Is (wpe Tryz.prog (real Tryz.prog) (AU (syB 100) Zp [] [] [(118,VZ WF)] []) 300 (.code false (AO Tryz.prog 119 6) (C9 100 38 [4,6,7] [] (IWq l p))) (BM 100 [4,6,7] [2,3,6] 38 []
   (fun AB AL=>∃a':AEl l,l.length-a'.i<l.length-p.i/\Wk 100 (100+0) AB AL (IWq l a').1 (IWq l a').2/\∀ex v o,RWq l ex v o->RWq l ex v o)
   (fun ex AB AL=>∃v o,Wk 100 (100+0) AB AL v o/\RWq l ex v o))):=by
 refine⟨?_⟩
 obtain⟨acc,i,le,len,ok⟩:=p
 have hT:JU=140737488355328:=rfl
 show AJl (real Tryz.prog) WF (rowsOf cSt l) acc.length (mo (acc.flatMap CS) 28 1) (i:Int) _ _
 rw[AFb]
 refine CL _ (BJ _ _) (DW (fun hlt=>?_) (fun hge=>?_))
 ·have hy:l[i]?=some l[i]:=List.getElem?_eq_getElem hlt
  generalize l[i]=y at hy
  have hms:l.length-(i+1)<l.length-i:=by omega
  refine EG i rfl (JE hy) rfl (JM (z:=y) rfl ⟨18446744073709551615,rfl,fun n hn=>?_,fun hn=>?_⟩)
  ·refine N9 (m:=0) (d:=0) (fun h=>absurd rfl h) (fun _=>EM (F8 (c:=CS) (fun _=>rfl) acc) (by omega) (I1 (by omega) rfl rfl (by omega) (by omega) (BS (by omega) ⟨rfl,⟨acc++[n],i+1,hlt,by simp[len],YU hy ok hn⟩,hms,?_,fun _ _ _ h=>h⟩)))
   have hcell:acc.flatMap CS++CS n=(acc++[n]).flatMap CS:=by simp
   have hacc:(acc++[n]).length=acc.length+1:=by simp
   show Wk 100 (100+0) _ _ ([dsl (rowsOf cSt l)]++mkS (100+0) (acc++[n]).length::[.int .i64 ((i+1:Nat):Int)]) ([]++[mo ((acc++[n]).flatMap CS) 28 1])
   rw[←hcell,M9 (by simp[CS]),hacc]
   exact KN (k0:=0) (j:=2) (va:=[dsl (rowsOf cSt l)]) (by omega) rfl (by rw[hcell];exact YM _) rfl rfl (by omega) rfl (fun i o h=>by simp at h)
  ·exact N9 (m:=3) (d:=0) (fun _=>⟨rfl,[I4,.bool false,top],[],(CQ (.cons (.refl _) (.cons (.refl _) (.cons (.top _) .nil))) (D7.refl _)).trans (F5 rfl),.inr ⟨XP (f:=rdW) hy hn,rfl,rfl,rfl⟩⟩) (fun h=>absurd h (by decide))
 ·have e1:i=l.length:=by omega
  subst e1
  rw[List.take_length]at ok
  exact⟨rfl,_,_,Wk.refl _ _ _ _,.inl ⟨acc,ok,rfl,rfl,rfl⟩⟩
def AIE:LWq:=fun c n AB obs A E=>∃l:List ByteArray,l.length<=1000/\c=AO Tryz.prog 119 6/\n=38/\AB=[dsl (rowsOf cSt l),I4,.int .i64 (0:Int)]/\obs=[]/\
 (∀acc,H5 rdW l=some acc->A acc.length (mo (acc.flatMap CS) 28 1))/\(H5 rdW l=none->E)
theorem AK2:BH Tryz.prog 100 [4,6,7] (AGI AIE):=by
 show BH Tryz.prog 100 [4,6,7] (lpS [2,3,6] _)
 refine FW okp (W:=AU (syB 100) Zp [] [] [(118,VZ WF)] []) (DI (pu1 AFH)) BN ?_
 rintro c n AB obs K ⟨l,hl,hc,hn,hv,ho,hA,hE⟩
 subst hc;subst hn;subst hv;subst ho
 refine⟨AEl l,0,300,fun p=>l.length-p.i,IWq l,fun _ ex v o=>RWq l ex v o,⟨[],0,Nat.zero_le _,rfl,rfl⟩,rfl,L6 (va:=[dsl (rowsOf cSt l)]),?_,AJ4 l hl⟩
 intro ex v o hR
 rcases hR with⟨acc,h1,rfl,rfl,rfl⟩ | ⟨h1,rfl,rfl,rfl⟩
 ·exact hA acc h1
 ·exact hE h1
def wqV(s:List UInt8):List Nat×Bool:=match D9 ET 128 s with
 |some l=>(l,true)
 |none=>([],false)
def zV(s:List UInt8):Value := .tuple ⟨[dsl (rowsOf CS (wqV s).1),.bool (wqV s).2]⟩
theorem wqC(s:ByteArray):Is (gWq (real Tryz.prog) MR9 AIE s (PQ (zV s.data.toList))):=by
 refine⟨?_⟩
 rw[AHx]
 have no:D9 ET 128 s.data.toList=none->PQ (zV s.data.toList) (.tuple ⟨[I4,.bool false]⟩) []:=fun h=>by
  unfold zV wqV;rw[h]
  exact(CQ (.cons (.tup (.cons .nilD (BR.refl _))) .nil) (D7.refl _)).trans (F5 rfl)
 refine⟨128,rfl,by omega,N9 (d:=0) (fun h=>no (if_neg h)) (fun h=>?_)⟩
 have h0:(DK 128 0 s.data.toList).1=0:=h
 have hg:D9 ET 128 s.data.toList=H5 rdW (DK 128 0 s.data.toList).2:=if_pos h0
 have hlen:(DK 128 0 s.data.toList).2.length<=1000:=by
  obtain⟨_,h2,_⟩:=UQ s.data.toList.length s.data.toList 128 0 (DK 128 0 s.data.toList).2 (Nat.le_refl _) (Prod.ext h0 rfl)
  rcases h2 with h2|h2
  ·omega
  ·rw[h2];simp
 refine⟨_,hlen,rfl,rfl,rfl,rfl,fun acc ha=>?_,fun hn=>no (by rw[hg,hn])⟩
 unfold zV wqV;rw[hg,ha]
 exact(fJ (GG 0 0 rfl rfl (LV (c:=CS) (n:=1) (fun _=>rfl) acc) (YM _) (by omega) (BJ _ _).symm)).trans (F5 rfl)
def AGP:MWq:=fun s K=>K (wqV s.data.toList).1 (wqV s.data.toList).2
theorem ALA:EW Tryz.prog 100 119 (sWq AGP):=by
 intro args K h
 unfold sWq at h
 split at h<;>try exact h.elim
 rename_i s
 exact⟨_,fun B H=>jW okp (DI (pu1 AJU)) (lp1 AK2) rfl rfl (wqC s) B H,h⟩
def IOg(t:Nat)(l:List Nat)(i:{i:Nat // i<=l.length/\t ∉ l.take i}):List Value×List (Option AJ):=([.int .u8 (t:Int),dsl (rowsOf cU8 l),.int .i64 (i.1:Int)],[])
def ROg(t:Nat)(l:List Nat)(ex:Exit)(v:List Value)(o:List (Option AJ)):Prop:=(t∈l/\ex = .ret/\v=[.bool true]/\o=[])∨(t ∉ l/\ex = .exit 0/\v=[top]/\o=[])
theorem AJ2(t:Nat)(l:List Nat)(hl:l.length<=1000)(i:{i:Nat // i<=l.length/\t ∉ l.take i}):
  Is (wpe Tryz.prog (real Tryz.prog) (AU Z0 Zp [] [] [] []) 300 (.code false (AO Tryz.prog 40 3) (C9 100 21 [1,5,6] [] (IOg t l i))) (BM 100 [1,5,6] [4] 21 []
   (fun AB AL=>∃a':{i:Nat // i<=l.length/\t ∉ l.take i},l.length-a'.1<l.length-i.1/\Wk 100 (100+0) AB AL (IOg t l a').1 (IOg t l a').2/\∀ex v o,ROg t l ex v o->ROg t l ex v o)
   (fun ex AB AL=>∃v o,Wk 100 (100+0) AB AL v o/\ROg t l ex v o))):=by
 refine⟨?_⟩
 obtain⟨i,hi,hno⟩:=i
 show AJd (real Tryz.prog) (t:Int) (rowsOf cU8 l) (i:Int) _ _
 rw[AE0]
 refine CL _ (BJ _ _) (DW (fun hlt=>?_) (fun hge=>?_))
 ·have hy:l[i]?=some l[i]:=List.getElem?_eq_getElem hlt
  generalize l[i]=y at hy
  refine EG i rfl (E5 hy) rfl (EN (z:=(y:Int)) rfl (CG (fun h=>?_) (fun h=>?_)))
  ·exact⟨rfl,_,_,Wk.refl _ _ _ _,.inl ⟨h ▸ List.mem_of_getElem? hy,rfl,rfl,rfl⟩⟩
  ·refine BS (by omega) ⟨rfl,⟨i+1,hlt,?_⟩,by show l.length-(i+1)<l.length-i;omega,Wk.refl _ _ _ _,fun _ _ _ h=>h⟩
   rw[List.take_add_one,hy]
   simp only[Option.toList,List.mem_append,List.mem_singleton,not_or]
   exact⟨hno,fun e=>h e.symm⟩
 ·have e:i=l.length:=by omega
  subst e
  rw[List.take_length]at hno
  exact⟨rfl,_,_,Wk.refl _ _ _ _,.inr ⟨hno,rfl,rfl,rfl⟩⟩
def AIz:LOg:=fun c n AB obs A E=>∃(t:Nat) (l:List Nat),l.length<=1000/\c=AO Tryz.prog 40 3/\n=21/\AB=[.int .u8 (t:Int),dsl (rowsOf cU8 l),.int .i64 (0:Int)]/\obs=[]/\(t∈l->A)/\(t ∉ l->E)
theorem AKV:BH Tryz.prog 100 [1,5,6] (AGD AIz):=by
 show BH Tryz.prog 100 [1,5,6] (lpS [4] _)
 refine FW okp (W:=AU Z0 Zp [] [] [] []) DR BN ?_
 rintro c n AB obs K ⟨t,l,hl,hc,hn,hv,ho,hA,hE⟩
 subst hc;subst hn;subst hv;subst ho
 refine⟨{i:Nat // i<=l.length/\t ∉ l.take i},0,300,fun i=>l.length-i.1,IOg t l,fun _ ex v o=>ROg t l ex v o,⟨0,Nat.zero_le _,by simp⟩,rfl,Wk.refl _ _ _ _,?_,AJ2 t l hl⟩
 intro ex v o hR
 rcases hR with⟨h1,rfl,rfl,rfl⟩ | ⟨h1,rfl,rfl,rfl⟩
 ·exact hA h1
 ·exact hE h1
theorem ACx(k:Nat):hasB k 0=false:=by
 unfold hasB
 by_cases hk:k<47
 ·have h2:∀k:Fin 47,Nat.beq ((VT.getD k.val 0) / 2 ^ 0 % 2) 1=false:=by decide
  have:=h2 ⟨k,hk⟩
  rw[decide_eq_true hk];exact this
 ·rw[decide_eq_false hk];rfl
theorem y5(k t:Nat):t∈dO k 17↔hasB k t=true:=by
 rw[rH]
 refine⟨fun h=>h.2.2,fun h=>⟨Nat.pos_of_ne_zero fun e=>?_,Nat.le_of_not_lt fun e=>?_,h⟩⟩
 ·subst e;rw[ACx]at h;cases h
 ·rw[mU e]at h;cases h
theorem ogC(k t:Nat)(hk:k<256):Is (gOg (real Tryz.prog) AIH AIz (k:Int) (t:Int) (fun v=>v = .bool (hasB k t))):=by
 refine⟨?_⟩
 rw[AHk]
 refine⟨k,rfl,hk,t,_,Nat.le_trans (rG k 17) (by omega),rfl,rfl,rfl,rfl,fun h=>?_,fun h=>?_⟩
 ·rw[(y5 k t).1 h]
 ·rw[Bool.eq_false_iff.2 fun e=>h ((y5 k t).2 e)]
theorem ALu:EW Tryz.prog 100 40 (sOf MOr):=by
 intro args K h
 unfold sOf at h
 split at h<;>try exact h.elim
 obtain⟨k,t,rfl,rfl,hk,ht,h1,h2⟩:=h
 refine⟨_,fun B H=>PS okp (DI (pu1 ALx)) (lp1 AKV) rfl (ogC k t hk) B H,?_⟩
 cases hb:hasB k t with
 |true=>exact h1 hb
 |false=>exact h2 hb
def wiM(x:BB)(t:Nat)(s:List UInt8):BB×Bool:=match t with
 | 1=>({x with a2:=(whV (GQ s 2147483647)).1},(whV (GQ s 2147483647)).2)
 | 2=>({x with a3:=(whV (GQ s 2147483647)).1},(whV (GQ s 2147483647)).2)
 | 3=>({x with a4:=(whV (GQ s 2147483647)).1},(whV (GQ s 2147483647)).2)
 | 4=>({x with a5:=(whV (GQ s 2147483647)).1},(whV (GQ s 2147483647)).2)
 | 5=>({x with a6:=(whV (GQ s 2147483647)).1},(whV (GQ s 2147483647)).2)
 | 6=>({x with a7:=(GQ s 18446744073709551615).getD 0},(GQ s 18446744073709551615).isSome)
 | 7=>({x with a8:=(GQ s 18446744073709551615).getD 0},(GQ s 18446744073709551615).isSome)
 | 8=>({x with a9:=bytesOf s},true)
 | 9=>({x with a10:=(wqV s).1},(wqV s).2)
 | 10=>({x with n:=(rdE AY HZ s).2},decide ((rdE AY HZ s).1=0))
 | 11=>({x with f:=(rdE BC FH s).2},decide ((rdE BC FH s).1=0))
 | 12=>({x with t:=(rdE BA FK s).2},decide ((rdE BA FK s).1=0))
 | 13=>({x with e:=(rdE AP FE s).2},decide ((rdE AP FE s).1=0))
 | 14=>({x with b:=(rdE stepBlock FD s).2},decide ((rdE stepBlock FD s).1=0))
 | 15=>({x with g:=(rdE BF FI s).2},decide ((rdE BF FI s).1=0))
 | 16=>({x with m:=(rdE BL FJ s).2},decide ((rdE BL FJ s).1=0))
 |_=>({x with r:=(rdE CB GU s).2},decide ((rdE CB GU s).1=0))
theorem AGd{x:BB}{t:Nat}{s:List UInt8}(h:t=0∨17<=t):wiM x t s=({x with r:=(rdE CB GU s).2},decide ((rdE CB GU s).1=0)):=by
 unfold wiM;split<;>first|rfl|omega
theorem fI{o:Option Nat}{f:Int->BB}:((o.map fun n:Nat=>(n:Int)).map f)=if (whV o).2=true then some (f (whV o).1)else none:=by cases o<;>rfl
theorem fU{o:Option Nat}{f:Nat->BB}:o.map f=if o.isSome=true then some (f (o.getD 0))else none:=by cases o<;>rfl
theorem fW{s:List UInt8}{f:List Nat->BB}:(D9 ET 128 s).map f=if (wqV s).2=true then some (f (wqV s).1)else none:=by unfold wqV;cases D9 ET 128 s<;>rfl
theorem fO{α:Type}{step:α->At->Option α}{z:α}{s:List UInt8}{f:α->BB}:(rdO step z s).map f=if decide ((rdE step z s).1=0)=true then some (f (rdE step z s).2)else none:=by
 unfold rdO
 by_cases h:(rdE step z s).1=0
 ·rw[if_pos h,if_pos (decide_eq_true h)];rfl
 ·rw[if_neg h,if_neg (by simpa using h)];rfl
theorem AG1{x:BB}{t:Nat}{s:List UInt8}(h1:1<=t)(h2:t<=17):fld x t s=if (wiM x t s).2=true then some (wiM x t s).1 else none:=by
 have hc:t=1∨t=2∨t=3∨t=4∨t=5∨t=6∨t=7∨t=8∨t=9∨t=10∨t=11∨t=12∨t=13∨t=14∨t=15∨t=16∨t=17:=by omega
 rcases hc with rfl|rfl|rfl|rfl|rfl|rfl|rfl|rfl|rfl|rfl|rfl|rfl|rfl|rfl|rfl|rfl|rfl<;>first|exact fI|exact fU|exact fW|exact fO|rfl
theorem lV{t:Nat}{d:Prop}:∀(l:List (Int×Prop)),(∀f∈l,(t:Int)=f.1->f.2)->((∀f∈l,f.1≠(t:Int))->d)->AEA (real Tryz.prog) (t:Int) d l
 | [],_,h=>h fun f hf=>by cases hf
 |(c,p)::r,h1,h2=>HY (fun h=>h1 (c,p) (List.mem_cons_self ..) h) (fun h=>lV r (fun f hf=>h1 f (List.mem_cons_of_mem _ hf)) fun h3=>h2 fun f hf=>by
  rcases List.mem_cons.1 hf with rfl|hf
  ·exact fun e=>h e.symm
  ·exact h3 f hf)
def vWi(q:BB×Bool):Value := .tuple ⟨[JO q.1,.bool q.2]⟩
theorem KG{x:BB}{e:Nat}{q:BB×Bool}(h:q=(x,decide (e=0))):XA (real Tryz.prog) (fun v=>v=vWi q) x (e:Int):=by
 subst h
 refine CG (d:=0) (fun h=>?_) (fun h=>?_)
 ·unfold vWi;rw[decide_eq_true h]
 ·unfold vWi;rw[decide_eq_false h]
theorem UN{x:BB}{b:Bool}{q:BB×Bool}(h:q=(x,b)):uY (real Tryz.prog) (fun v=>v=vWi q) x b:=by
 subst h
 cases b with
 |true=>exact CG (m:=0) (d:=0) (fun h=>rfl) (fun h=>absurd rfl h)
 |false=>exact rfl
theorem neF{l:List (Int×Prop)}{t:Nat}(h:∀f∈l,f.1≠(t:Int))(n:Nat)(hm:(l.map (·.1)).contains (n:Int)=true):n≠t:=fun e=>by
 rw[List.contains_iff_mem]at hm
 obtain⟨f,h1,h2⟩:=List.mem_map.1 hm
 exact h f h1 (by rw[h2,e])
theorem JJ{t n:Nat}(h:(t:Int)=(n:Int)):t=n:=by omega
def AII:MOs:=⟨MRq AY HZ,MRq BC FH,MRq BA FK,MRq AP FE,MRq stepBlock FD,MRq BF FI,MRq BL FJ,MRq CB GU⟩
theorem AJS:∀x∈AJR AII,EW Tryz.prog 100 x.1 x.2:=
 all_cons (P:=fun x:FuncId×(List Value->(Value->Prop)->Prop)=>EW Tryz.prog 100 x.1 x.2) ALk (all_cons ALg (all_cons ALm (all_cons ALf (all_cons ALd (all_cons ALh (all_cons ALj (all_cons ALl all_nil)))))))
theorem ojC(x:BB)(t:Nat)(ht:t=0∨10<=t)(s:ByteArray):Is (gOj (real Tryz.prog) AII x (t:Int) s (fun v=>v=vWi (wiM x t s.data.toList))):=by
 refine⟨?_⟩
 rw[AHl]
 refine lV _ (all_cons (fun h=>?_) (all_cons (fun h=>?_) (all_cons (fun h=>?_) (all_cons (fun h=>?_) (all_cons (fun h=>?_) (all_cons (fun h=>?_) (all_cons (fun h=>?_) all_nil))))))) fun h=>KG (AGd ?_)
 ·rw[JJ (n:=10) h];exact KG rfl
 ·rw[JJ (n:=11) h];exact KG rfl
 ·rw[JJ (n:=12) h];exact KG rfl
 ·rw[JJ (n:=13) h];exact KG rfl
 ·rw[JJ (n:=14) h];exact KG rfl
 ·rw[JJ (n:=15) h];exact KG rfl
 ·rw[JJ (n:=16) h];exact KG rfl
 ·have h10:=neF h 10 rfl
  have h11:=neF h 11 rfl
  have h12:=neF h 12 rfl
  have h13:=neF h 13 rfl
  have h14:=neF h 14 rfl
  have h15:=neF h 15 rfl
  have h16:=neF h 16 rfl
  omega
def AGN:MOj:=fun v t s K=>∃(x:BB) (n:Nat),v=JO x/\t=n/\(n=0∨10<=n)/\K (wiM x n s.data.toList).1 (wiM x n s.data.toList).2
theorem ALv:EW Tryz.prog 100 120 (sOj AGN):=by
 intro args K h
 unfold sOj at h
 split at h<;>try exact h.elim
 rename_i v t s
 obtain⟨x,n,rfl,rfl,hn,hK⟩:=h
 exact⟨_,fun B H=>PS okp (DI AJS) BN rfl (ojC x n hn s) B H,hK⟩
theorem wiC(x:BB)(t:Nat)(s:ByteArray):Is (gWi (real Tryz.prog) AGO WF AGP AGN x (t:Int) s (fun v=>v=vWi (wiM x t s.data.toList))):=by
 refine⟨?_⟩
 rw[AHw]
 have hU:∀(f:Nat->BB) (q:BB×Bool),q=(f ((GQ s.data.toList 18446744073709551615).getD 0),(GQ s.data.toList 18446744073709551615).isSome)->WF s 18446744073709551615 fun n e=>XA (real Tryz.prog) (fun v=>v=vWi q) (f n) e:=fun f q hq=>
  ⟨18446744073709551615,rfl,fun n hn=>KG (e:=0) (by rw[hq,hn];rfl),fun hn=>KG (e:=3) (by rw[hq,hn];rfl)⟩
 refine lV _ (all_cons (fun h=>?_) (all_cons (fun h=>?_) (all_cons (fun h=>?_) (all_cons (fun h=>?_) (all_cons (fun h=>?_) (all_cons (fun h=>?_) (all_cons (fun h=>?_) (all_cons (fun h=>?_) (all_cons (fun h=>?_) all_nil))))))))) fun h=>⟨x,t,rfl,rfl,?_,rfl⟩
 ·rw[JJ (n:=1) h];exact UN rfl
 ·rw[JJ (n:=2) h];exact UN rfl
 ·rw[JJ (n:=3) h];exact UN rfl
 ·rw[JJ (n:=4) h];exact UN rfl
 ·rw[JJ (n:=5) h];exact UN rfl
 ·rw[JJ (n:=6) h];exact hU (fun n=>{x with a7:=n}) _ rfl
 ·rw[JJ (n:=7) h];exact hU (fun n=>{x with a8:=n}) _ rfl
 ·rw[JJ (n:=8) h];exact KG (e:=0) (by show(({x with a9:=bytesOf s.data.toList},true):BB×Bool)=_;rw[bytes_eta];rfl)
 ·rw[JJ (n:=9) h];exact UN rfl
 ·have h1:=neF h 1 rfl
  have h2:=neF h 2 rfl
  have h3:=neF h 3 rfl
  have h4:=neF h 4 rfl
  have h5:=neF h 5 rfl
  have h6:=neF h 6 rfl
  have h7:=neF h 7 rfl
  have h8:=neF h 8 rfl
  have h9:=neF h 9 rfl
  omega
abbrev AEg:=Value->Int->ByteArray->(BB->Bool->Prop)->Prop
def sWi(M:AEg):List Value->(Value->Prop)->Prop
 | [v,.agg ⟨[.int .u8 t,.string s]⟩],K=>M v t s fun y b=>K (.tuple ⟨[JO y,.bool b]⟩)
 |_,_=>False
def ABK:AEg:=fun v t s K=>∃(x:BB) (n:Nat),v=JO x/\t=n/\K (wiM x n s.data.toList).1 (wiM x n s.data.toList).2
theorem ALB:∀x∈[(117,sWh AGO),(118,VZ WF),(119,sWq AGP),(120,sOj AGN)],EW Tryz.prog 100 x.1 x.2:=
 all_cons (P:=fun x:FuncId×(List Value->(Value->Prop)->Prop)=>EW Tryz.prog 100 x.1 x.2) ALy (all_cons AFH (all_cons ALA (all_cons ALv all_nil)))
theorem ALz:EW Tryz.prog 100 39 (sWi ABK):=by
 intro args K h
 unfold sWi at h
 split at h<;>try exact h.elim
 rename_i v t s
 obtain⟨x,n,rfl,rfl,hK⟩:=h
 exact⟨_,fun B H=>PS okp (DI ALB) BN rfl (wiC x n s) B H,hK⟩
end
end Go.Proofs.Ob
namespace Go.Proofs.Ob
open Go Go.Abs Go.Tlv
noncomputable section
abbrev LDd:=Code->Nat->List Value->List (Option AJ)->(BB->Prop)->Prop->Prop
def AGA(L:LDd):LpS:=lpS [2,3,4] fun c n AB obs K=>L c n AB obs (fun x=>K (.exit 2) [pA 100,top,pA 101] [rZ,some (cM x)]) (K .ret [pA 100,.int .i64 3,top] [rZ,none])
def xst(N:Nd)(s:ByteArray)(i z:Int)(K:Int->Prop):Prop:=N.ari .mul .u32 z .u32 256 fun m=>N.sat s i fun a=>N.conv 5 27 .u8 a .u32 fun c=>N.ari .add .u32 m .u32 c K
def gDd(N:Nd)(MK:Int->Prop->Prop->Prop)(MD:VE)(L:LDd)(s:ByteArray)(K:Value->Prop):Prop:=wpe Tryz.prog N (AU Z0 Zp [] [(16,(81,([2,4,6,8],AGA L)))] [(31,sKr MK),(25,AFX MD)] [(81,28),(81,30)]) 1000 (.call 21 [(.string s)] h0) (II K)
theorem AG8(N:Nd)(MK:Int->Prop->Prop->Prop)(MD:VE)(L:LDd)(s:ByteArray)(K:Value->Prop):gDd N MK MD L s K=N.slen s fun n=>N.cmp .lss .i64 n .i64 5 (K (erD 4)) (N.slen s fun n=>N.cmp .gtr .i64 n .i64 16384 (K (erD 5)) (N.sat s 0 fun b=>MK b (xst N s 1 0 fun z=>xst N s 2 z fun z=>xst N s 3 z fun z=>xst N s 4 z fun z=>N.ssl s (some 5) none fun s'=>MD s' fun rs e=>N.cmp .neq .i64 e .i64 0 (K (erD e)) (L (AO Tryz.prog 21 16) 81 [pA 100,pA 101,dsl rs,.int .i64 0] [rZ,rZk b z] (fun x=>K (.tuple ⟨[JO x,.int .i64 0]⟩)) (K (erD 3)))) (K (erD 15)))):=by kernel_rfl
def AI7(N:Nd)(MO:MOf)(MW:AEg)(x:BB)(rs:List Value)(i:Int)(back:BK)(out:OT):Prop:=
 wpe Tryz.prog N (AU Z0 Zp [] [] [(39,sWi MW),(40,sOf MO)] []) 300 (.code false (AO Tryz.prog 21 16) (C9 100 81 [2,4,6,8] [] ([pA 100,pA 101,dsl rs,.int .i64 i],[rZ,some (cM x)]))) (BM 100 [2,4,6,8] [2,3,4] 81 [] back out)
def AHR(x y:BB)(out:OT):Prop:=([]:List Deferred)=[]/\out .ret [pA 100,.int .i64 3,pA 101] [rZ,some (cM x),some (cM y)]
theorem AEL(N:Nd)(MO:MOf)(MW:AEg)(x:BB)(rs:List Value)(i:Int)(back:BK)(out:OT):AI7 N MO MW x rs i back out=N.dlen rs fun n=>N.cmp .lss .i64 i .i64 (n:Int) (atR N rs i fun t s=>MW (JO x) t s fun y b=>some (cM x)=some (cM x)/\atR N rs i fun t' _=>MO (x.a0:Int) t' (branch b (N.ari .add .i64 i .i64 1 fun j=>([]:List Deferred)=[]/\back [pA 100,pA 101,dsl rs,.int .i64 j] [rZ,some (cM y),some (cM y)]) (AHR x y out)) (AHR x y out))
 (([]:List Deferred)=[]/\out (.exit 2) [pA 100,top,pA 101] [rZ,some (cM x)]):=by kernel_rfl
structure ABO(kd xid:Nat)(l:List At) where
 x:BB
 i:Nat
 inv:YG (FB kd) (G5 kd xid) l x i
 k:x.a0=kd
def IDd(kd xid:Nat)(l:List At)(p:ABO kd xid l):List Value×List (Option AJ):=([pA 100,pA 101,dsl (CZ l),.int .i64 (p.i:Int)],[rZ,some (cM p.x)])
def RDd(kd xid:Nat)(l:List At)(e:Exit)(v:List Value)(o:List (Option AJ)):Prop:=
 (∃x,run (FB kd) (G5 kd xid) l=some x/\e = .exit 2/\v=[pA 100,top,pA 101]/\o=[rZ,some (cM x)])∨
 (run (FB kd) (G5 kd xid) l=none/\e = .ret/\v=[pA 100,.int .i64 3,top]/\o=[rZ,none])
theorem AKh(x:BB)(t:Nat)(s:List UInt8):(wiM x t s).1.a0=x.a0:=by
 unfold wiM;split<;>rfl
theorem AJY(kd xid:Nat)(hkd:kd<256)(l:List At)(hl:l.length<=255)(hen:JS 0 l=0)(hat:∀a∈l,a.t<256)(p:ABO kd xid l):
  Is (wpe Tryz.prog (real Tryz.prog) (AU Z0 Zp [] [] [(39,sWi ABK),(40,sOf MOr)] []) 300 (.code false (AO Tryz.prog 21 16) (C9 100 81 [2,4,6,8] [] (IDd kd xid l p))) (BM 100 [2,4,6,8] [2,3,4] 81 []
   (fun AB AL=>∃a':ABO kd xid l,l.length-a'.i<l.length-p.i/\Wk 100 (100+2) AB AL (IDd kd xid l a').1 (IDd kd xid l a').2/\∀e v o,RDd kd xid l e v o->RDd kd xid l e v o)
   (fun e AB AL=>∃v o,Wk 100 (100+2) AB AL v o/\RDd kd xid l e v o))):=by
 refine⟨?_⟩
 obtain⟨x,i,inv,hk⟩:=p
 have hle:i<=l.length:=inv.le
 show AI7 (real Tryz.prog) MOr ABK x (CZ l) (i:Int) (fun AB AL=>∃a':ABO kd xid l,l.length-a'.i<l.length-i/\Wk 100 (100+2) AB AL (IDd kd xid l a').1 (IDd kd xid l a').2/\∀e v o,RDd kd xid l e v o->RDd kd xid l e v o)
  (fun e AB AL=>∃v o,Wk 100 (100+2) AB AL v o/\RDd kd xid l e v o)
 rw[AEL]
 refine CL _ (FY _) (DW (fun hlt=>?_) (fun hge=>?_))
 ·have ha:l[i]?=some l[i]:=List.getElem?_eq_getElem hlt
  have hmem:=List.getElem_mem hlt
  generalize l[i]=a at ha hmem
  obtain⟨e1,e2,e3,e4⟩:=bA hen i a ha
  change a.v.data.toList.length<=65535 at e3
  have no:FB kd x a=none->∀y,AHR x y fun e AB AL=>∃v o,Wk 100 (100+2) AB AL v o/\RDd kd xid l e v o:=fun hs y=>
   ⟨rfl,[pA 100,.int .i64 3,top],[rZ,none],(EE rfl rfl).trans (CQ (.cons (.refl _) (.cons (.refl _) (.cons (.top _) .nil))) (.cons (.refl _) (.cons (.none _) .nil))),.inr ⟨inv.bad ha hs,rfl,rfl,rfl⟩⟩
  refine QV ha ⟨x,a.t,rfl,rfl,rfl,QV ha ⟨x.a0,a.t,rfl,rfl,by omega,hat a hmem,fun hb=>?_,fun hb=>no ?_ _⟩⟩
  ·rw[hk]at hb
   have fl:FB kd x a=fld x a.t a.v.data.toList:=by unfold FB;rw[if_pos e3,if_pos hb]
   have t1:1<=a.t:=by omega
   have t2:a.t<=17:=Nat.le_of_not_lt fun h=>by rw[mU h]at hb;cases hb
   rw[AG1 t1 t2]at fl
   cases hq:(wiM x a.t a.v.data.toList).2 with
   |true=>
    rw[hq,if_pos rfl]at fl
    exact BS (by omega) ⟨rfl,⟨_,i+1,inv.next ha fl,by rw[AKh,hk]⟩,by show l.length-(i+1)<l.length-i;omega,EE rfl rfl,fun _ _ _ h=>h⟩
   |false=>
    rw[hq]at fl
    exact no (by rw[fl];rfl) _
  ·rw[hk]at hb
   unfold FB;rw[if_pos e3,if_neg (by rw[hb];simp),if_neg fun h=>e2 (by unfold At.len;rw[h.1];rfl)]
 ·exact⟨rfl,_,_,Wk.refl _ _ _ _,.inl ⟨x,inv.last (by omega),rfl,rfl,rfl⟩⟩
def AIw:LDd:=fun c n AB obs A E=>∃(kd xid:Nat) (l:List At),kd<256/\l.length<=255/\JS 0 l=0/\(∀a∈l,a.t<256)/\c=AO Tryz.prog 21 16/\n=81/\AB=[pA 100,pA 101,dsl (CZ l),.int .i64 (0:Int)]/\obs=[rZ,rZk (kd:Int) (xid:Int)]/\
 (∀x,run (FB kd) (G5 kd xid) l=some x->A x)/\(run (FB kd) (G5 kd xid) l=none->E)
theorem AIn(kd xid:Nat):Y8 (rZk (kd:Int) (xid:Int)) (some (cM (G5 kd xid))) := .cells (by repeat first|exact .nil|refine .cons (.refl _) ?_|refine .cons .nilD ?_)
theorem AJQ:∀x∈[(39,sWi ABK),(40,sOf MOr)],EW Tryz.prog 100 x.1 x.2:=all_cons (P:=fun x:FuncId×(List Value->(Value->Prop)->Prop)=>EW Tryz.prog 100 x.1 x.2) ALz (all_cons ALu all_nil)
theorem AKN:BH Tryz.prog 100 [2,4,6,8] (AGA AIw):=by
 show BH Tryz.prog 100 [2,4,6,8] (lpS [2,3,4] _)
 refine FW okp (W:=AU Z0 Zp [] [] [(39,sWi ABK),(40,sOf MOr)] []) (DI AJQ) BN ?_
 rintro c n AB obs K ⟨kd,xid,l,hkd,hl,hen,hat,hc,hn,hv,ho,hA,hE⟩
 subst hc;subst hn;subst hv;subst ho
 refine⟨ABO kd xid l,2,300,fun p=>l.length-p.i,IDd kd xid l,fun _ e v o=>RDd kd xid l e v o,⟨G5 kd xid,0,⟨Nat.zero_le _,rfl⟩,rfl⟩,rfl,?_,?_,AJY kd xid hkd l hl hen hat⟩
 ·exact CQ (BR.refl _) (.cons (.refl _) (.cons (AIn kd xid) .nil))
 intro e v o hR
 rcases hR with⟨x,h1,rfl,rfl,rfl⟩ | ⟨h1,rfl,rfl,rfl⟩
 ·exact hA x h1
 ·exact hE h1
theorem AFt{m d:Nat}{K:Int->Prop}(h:m*d<4294967296)(hk:K ((m*d:Nat):Int)):(real Tryz.prog).ari .mul .u32 (m:Int) .u32 (d:Int) K:=by
 refine⟨((m*d:Nat):Int),?_,hk⟩
 have e:IntKind.u32.wrap ((m:Int)*(d:Int))=((m*d:Nat):Int):=by rw[←Int.natCast_mul];exact JP h
 simp[FU,UE,e]
theorem AFs{m d:Nat}{K:Int->Prop}(h:m+d<4294967296)(hk:K ((m+d:Nat):Int)):(real Tryz.prog).ari .add .u32 (m:Int) .u32 (d:Int) K:=by
 refine⟨((m+d:Nat):Int),?_,hk⟩
 have e:IntKind.u32.wrap ((m:Int)+(d:Int))=((m+d:Nat):Int):=by rw[←Int.natCast_add];exact JP h
 simp[FU,UE,e]
theorem AGi{s:ByteArray}{z i:Nat}{b:UInt8}{K:Int->Prop}(hb:s.data.toList[i]?=some b)(hz:z*256+256<=4294967296)(h:K ((z*256+b.toNat:Nat):Int)):xst (real Tryz.prog) s (i:Int) (z:Int) K:=by
 have h256:b.toNat<256:=b.toNat_lt
 exact AFt (d:=256) (by omega) (IW i rfl hb (BI uU8 tY (JP (by omega)) (AFs (by omega) h)))
theorem ddC(s:ByteArray):Is (gDd (real Tryz.prog) MKr MR6 AIw s (fun v=>EI v (rvM (ES s.data.toList)))):=by
 refine⟨?_⟩
 rw[AG8]
 refine FQ (DW (d:=5) (fun h=>erW (e:=4) (by unfold ES;rw[if_pos h])) (fun h=>FQ (zG (fun h2=>erW (e:=5) (by unfold ES;rw[if_neg (by omega),if_pos (by omega)])) (fun h2=>?_))))
 obtain⟨b0,b1,b2,b3,b4,r,hs⟩:=five (s:=s.data.toList) (by omega)
 have h256:b0.toNat<256:=b0.toNat_lt
 have l1:b1.toNat<256:=b1.toNat_lt
 have l2:b2.toNat<256:=b2.toNat_lt
 have l3:b3.toNat<256:=b3.toNat_lt
 have l4:b4.toNat<256:=b4.toNat_lt
 have hk:kdB s.data.toList=b0.toNat:=by rw[hs,AGt]
 have hx:NL s.data.toList=((b1.toNat*256+b2.toNat)*256+b3.toNat)*256+b4.toNat:=by rw[hs,xE]
 refine IW 0 rfl (b:=b0) (by rw[hs];rfl) ⟨b0.toNat,rfl,fun h4=>?_,fun h4=>erW (e:=15) (by unfold ES;rw[if_neg (by omega),if_neg (by omega),if_neg (by omega)])⟩
 refine AGi (z:=0) (i:=1) (b:=b1) (by rw[hs];rfl) (by omega) (AGi (i:=2) (b:=b2) (by rw[hs];rfl) (by omega) (AGi (i:=3) (b:=b3) (by rw[hs];rfl) (by omega) (AGi (i:=4) (b:=b4) (by rw[hs];rfl) (by omega) ?_)))
 have hd:ES s.data.toList=((rdE (FB (kdB s.data.toList)) (G5 (kdB s.data.toList) (NL s.data.toList)) (s.data.toList.drop 5)).1,if (rdE (FB (kdB s.data.toList)) (G5 (kdB s.data.toList) (NL s.data.toList)) (s.data.toList.drop 5)).1=0 then(rdE (FB (kdB s.data.toList)) (G5 (kdB s.data.toList) (NL s.data.toList)) (s.data.toList.drop 5)).2 else ZT):=by
  unfold ES;rw[if_neg (by omega),if_neg (by omega),if_pos (by omega)]
 refine IP 5 rfl (by omega) (N9 (d:=0) (fun h3=>erW ?_) (fun h0=>?_))
 ·rw[AZ]at h3 ⊢
  rw[hd,FX h3]
  show(_,if (CP 0 (s.data.toList.drop 5)).1=0 then _ else _)=_
  rw[if_neg h3]
 ·have h0:(CP 0 (bytesOf (s.data.toList.drop 5)).data.toList).1=0:=h0
  rw[AZ]at h0 ⊢
  have hde:CP 0 (s.data.toList.drop 5)=(0,(CP 0 (s.data.toList.drop 5)).2):=Prod.ext h0 rfl
  obtain⟨k1,k2,k3⟩:=UK _ _ 0 _ (Nat.le_refl _) hde
  refine⟨kdB s.data.toList,NL s.data.toList,_,by omega,I7 _,k1,k3,rfl,rfl,rfl,?_,fun x hx=>?_,fun hx=>erW (e:=3) ?_⟩
  ·rw[hk,hx];simp only[Nat.zero_mul,Nat.zero_add]
  ·rw[hd,OJ h0 hx];exact EI.refl _
  ·rw[hd,OI h0 hx];rfl
theorem ddH(s:ByteArray)(B:Base)(H:Heap):BP Tryz.prog 100 B 21 [.string s] H (.returned (rvM (ES s.data.toList))) H:=
 OG (DI (all_cons (P:=fun x:FuncId×(List Value->(Value->Prop)->Prop)=>EW Tryz.prog 100 x.1 x.2) ALs (all_cons AJT all_nil))) (E9 (fun x hx=>by simp only[List.mem_singleton]at hx;subst hx;exact AKN)) rfl rfl (ddC s) B H
theorem ALw:EW Tryz.prog 100 21 (sD1 AIG):=by
 intro args K h
 unfold sD1 at h
 split at h<;>try exact h.elim
 exact⟨_,ddH _,h⟩
end
end Go.Proofs.Ob
