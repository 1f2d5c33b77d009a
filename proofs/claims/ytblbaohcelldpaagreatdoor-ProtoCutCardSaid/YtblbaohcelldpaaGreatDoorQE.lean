/- . -/
import Derived.Test.YtblbaohcelldpaaGreatDoorQN
set_option linter.all false
set_option maxRecDepth 100000
namespace Go.Proofs.Ob
open Go Go.Abs Go.Tlv
theorem AIo{B:Base}{F:Nm}{w:World}{AC objs':Lo}(R:Rel 100 F (hOf 100 [] AC) B w)(hl:objs'.length=AC.length)
  (key:∀(i:Nat) o',objs'[i]?=some (some o')->∃o,AC[i]?=some (some o)/\o.own=o'.own/\(PH F B w (100+i) o->PH F B w (100+i) o')):Rel 100 F (hOf 100 [] objs') B w:=by
 have key:∀n o',(hOf 100 [] objs').get n=some o'->∃o,(hOf 100 [] AC).get n=some o/\o.own=o'.own/\(PH F B w n o->PH F B w n o'):=by
  intro n o' h
  obtain⟨h1,h2,h3⟩:=Y9 h
  obtain⟨o,g1,g2,g3⟩:=key _ _ h3
  have:=V9 (G:=100) g1
  rw[show 100+(n-100)=n by omega]at this g3
  exact⟨o,this,g2,g3⟩
 have hnx:(hOf 100 [] objs').next=(hOf 100 [] AC).next:=by show 100+objs'.length=100+AC.length;rw[hl]
 constructor
 ·intro n o' h
  obtain⟨o,g1,g2,g3⟩:=key n o' h
  exact g3 (R.obj n o g1)
 ·intro n m o o' h h' hne how
  obtain⟨x,g1,g2,_⟩:=key n o h
  obtain⟨y,k1,_,_⟩:=key m o' h'
  exact R.inj n m x y g1 k1 hne (by rw[g2];exact how)
 ·intro n h;exact R.fresh n (by rw[←hnx];exact h)
 ·exact R.glob
 ·exact R.base
 ·exact R.frame
 ·intro b i v hz
  refine⟨(R.froz b i v hz).1,fun n o h how=>?_⟩
  obtain⟨x,g1,g2,_⟩:=key n o h
  exact(R.froz b i v hz).2 n x g1 (by rw[g2];exact how)
 ·exact R.zprot
 ·exact R.os
 ·exact R.out
 ·exact R.tape
theorem bY{a m m':Lv}(h:DT m m'):DT (a++m) (a++m'):=by
 induction a with
 |nil=>exact h
 |cons v l ih=>exact .cons (.refl v) ih
theorem AK5{j k:Nat}{a r AB:Lv}{e1 z1:Nat}{lo1 ow1:Bool}{AC:Lo}{vs:Lv}{e sz:Nat}(hj:1<=j)(h0:AC[0]?=some (some (.cells (a ++ .slice (some ⟨100+j,0,none⟩) k k::r) e1 z1 lo1 ow1)))(ho:AC[j]?=some (some (.cells vs e sz true true)))
  (hv:BL 0 vs=true) (ha:BL 101 a=true) (hr:BL 101 r=true) (hvals:BL 101 AB=true) (hk:k≠0):
  Wk 100 (100+1) AB AC AB [some (.cells (a++mkS 101 k::r) e1 z1 lo1 ow1),some (.cells vs e sz true true)]:=by
 have hlt:j<AC.length:=(List.getElem?_eq_some_iff.1 ho).1
 have hτ:∀n,n<100+1->tau (100+1) [100+j] (100+AC.length) n=n:=fun n h=>Q6 h
 have hτ0:tau (100+1) [100+j] (100+AC.length) 101=100+j:=MZ (Nat.le_refl _) (by simp)
 have hn:Names 100 1 [100+j] (100+AC.length) AB AC AB [some (.cells (a ++ .slice (some ⟨101,0,none⟩) k k::r) e1 z1 lo1 ow1),some (.cells vs e sz true true)]:=by
  refine⟨?_,rfl,by simp,fun x hx=>?_,by omega,fun i o hi=>?_⟩
  ·rw[←MK,EA hτ AB hvals]
  ·simp only[List.mem_singleton]at hx;omega
  ·rcases i with _|_|i
   ·simp only[List.getElem?_cons_zero,Option.some.injEq]at hi;subst hi
    rw[hτ _ (by omega),show 100+0-100=0 by omega,h0]
    have e3:FE (tau (100+1) [100+j] (100+AC.length)) (a ++ .slice (some ⟨101,0,none⟩) k k::r)=a ++ .slice (some ⟨100+j,0,none⟩) k k::r:=by
     rw[MK,List.map_append,List.map_cons,←MK,←MK,EA hτ a ha,EA hτ r hr]
     simp only[F7,hτ0]
    simp only[G8,e3]
   ·simp only[List.getElem?_cons_succ,List.getElem?_cons_zero,Option.some.injEq]at hi;subst hi
    rw[show(100+(0+1):Nat)=101 from rfl,hτ0,show 100+j-100=j by omega,ho]
    have:FE (tau (100+1) [100+j] (100+AC.length)) vs=vs:=EA (n0:=0) (fun n h=>by omega) vs hv
    simp only[G8,this]
   ·simp at hi
 exact(XN hn).trans (EX (DT.refl _) (.cons (.cells (bY (.cons (.mark hk) (DT.refl _)))) (F5.refl _)))
theorem AK4{k:Nat}{a r AB:Lv}{e1 z1:Nat}{lo1 ow1:Bool}{AY vs:Lv}{e sz:Nat}(hf:DI sz AY=some vs)(hb:BL 0 vs=true)(hs:0<sz)(hk:k=AY.length):
  Wk 100 (100+1) AB [some (.cells (a++mkS 101 k::r) e1 z1 lo1 ow1),mo vs e sz] AB [some (.cells (a ++ .iface mkD (.agg ⟨AY⟩)::r) e1 z1 lo1 ow1),none]:=by
 subst hk
 cases AY with
 |nil=>
  simp only[DI,Option.some.injEq]at hf
  subst hf
  exact EX (DT.refl _) (.cons (.cells (bY (.cons .emptyMD (DT.refl _)))) (.cons (.refl _) .nil))
 |cons r0 AY=>
  have hvs:vs≠[]:=by
   intro e
   subst e
   have:=QA hf
   simp only[List.length_nil,List.length_cons]at this
   have h2:0<(AY.length+1)*sz:=Nat.mul_pos (by omega) hs
   omega
  rw[J4 hvs]
  refine⟨rfl,fun B F w R=>?_⟩
  obtain⟨b,d,o,c,fz,q1,q2,q3,q4,q5,q6⟩:=R.obj 100 _ (V9 (G:=100) (i:=0) rfl)
  obtain⟨xa,xr,e3,ha,hr2⟩:=VRL.split q3
  simp only[VRL]at hr2
  obtain⟨x,xr',hx,hr3,rfl⟩:=hr2
  have hW:=rA (G:=100) (n0:=100+1) (i:=1) (AB:=AB++[mkS 101 (r0::AY).length]) (vals':=AB++[.iface mkD (.agg ⟨r0::AY⟩)]) (AC:=[some (.cells (a++mkS 101 (r0::AY).length::r) e1 z1 lo1 ow1),some (.cells vs e sz true true)]) (AY:=r0::AY) rfl hf hb hs (by simp) (fun j v v' h1 h2=>by
   rcases Nat.lt_or_ge j AB.length with hlt|hge
   ·rw[List.getElem?_append_left hlt]at h1 h2
    rw[h1]at h2;exact .inl (Option.some.inj h2).symm
   ·rw[List.getElem?_append_right hge]at h1 h2
    cases hj:j-AB.length with
    |zero=>
     rw[hj]at h1 h2
     simp only[List.getElem?_cons_zero,Option.some.injEq]at h1 h2
     subst h1;subst h2
     exact .inr ⟨rfl,_,Nat.le_refl _,.inr ⟨rfl,by simp⟩⟩
    |succ m=>rw[hj]at h1;simp at h1)
  obtain⟨F',ag,R',hv⟩:=hW.2 B F w R
  have hx':VR F' (.iface mkD (.agg ⟨r0::AY⟩)) x:=hv AB.length _ _ x (by simp) (by simp) hx
  refine⟨F',ag,AIo R' rfl fun i o' hi=>?_,fun j v v' x' h1 h2 hx2=>hv j v v' x' (by rw[List.getElem?_append_left (List.getElem?_eq_some_iff.1 h1).1];exact h1) (by rw[List.getElem?_append_left (List.getElem?_eq_some_iff.1 h2).1];exact h2) hx2⟩
  rcases i with _|_|i
  ·simp only[List.getElem?_cons_zero,Option.some.injEq]at hi;subst hi
   refine⟨_,rfl,rfl,fun h=>?_⟩
   obtain⟨b',d',o',c',fz',k1,k2,k3,k4,k5,k6⟩:=h
   have hlen:(a ++ .iface mkD (.agg ⟨r0::AY⟩)::r).length=(a++mkS 101 (r0::AY).length::r).length:=by simp
   refine⟨b',d',o',c',fz',k1,k2,?_,by rw[hlen];exact k4,by rw[hlen];exact k5,k6⟩
   rw[hlen]
   obtain⟨ya,yr,e4,ha4,hr4⟩:=VRL.split k3
   simp only[VRL]at hr4
   obtain⟨y,yr',hy,hr5,rfl⟩:=hr4
   rw[e4]
   have hyx:y=x:=by
    have g1:=ag.at (n:=100) rfl q1
    have g2:F' 100=some (b',d',o'):=k1
    rw[g1]at g2
    simp only[Option.some.injEq,Prod.mk.injEq]at g2
    obtain⟨rfl,rfl,rfl⟩:=g2
    obtain⟨t1,w1,_⟩:=q2
    obtain⟨t2,w2,_⟩:=k2
    rw[w1]at w2
    simp only[Option.some.injEq,Obj.cells.injEq]at w2
    obtain⟨rfl,_,_⟩:=w2
    rw[e3]at e4
    have h5:=(List.append_inj e4 (by rw[ha.length,ha4.length])).2
    simp only[List.cons.injEq]at h5
    exact h5.1.symm
   subst hyx
   exact VRL.app ha4 (by simp only[VRL];exact⟨_,_,hx',hr5,rfl⟩)
  ·simp at hi
  ·simp at hi
end Go.Proofs.Ob
namespace Go.Proofs.Ob
open Go Go.Abs Go.Tlv
noncomputable section
abbrev YE:Value := .slice none 0 0
def AGd:AGe:=fun s m A=>∃t:Nat,m=t/\(∀n,UZ s.data.toList t=some n->A n 0)/\(UZ s.data.toList t=none->A 0 3)
theorem ALN:FY Tryz.prog 100 142 (AFS AGd):=by
 intro args K h
 unfold AFS at h
 split at h<;>try exact h.elim
 obtain⟨t,rfl,h1,h2⟩:=h
 exact WV _ _ ⟨t,rfl,h1,h2⟩
def MRq{α:Type}(step:α->At->Option α)(z:α):ByteArray->(α->Int->Prop)->Prop:=fun s K=>K (rdE step z s.data.toList).2 ((rdE step z s.data.toList).1:Int)
theorem zV{α:Type}{v:α->Value}{step:α->At->Option α}{z:α}{f:FuncId}(h:∀(s:ByteArray) B H,BM Tryz.prog 100 B f [.string s] H (.returned (.tuple ⟨[v (rdE step z s.data.toList).2,.int .i64 ((rdE step z s.data.toList).1:Int)]⟩)) H):FY Tryz.prog 100 f (sRd v (MRq step z)):=by
 intro args K hh
 unfold sRd at hh
 split at hh<;>try exact hh.elim
 exact⟨_,h _,hh⟩
abbrev rdW(s:ByteArray):Option Nat:=JQ s.data.toList
structure AJw(l:List ByteArray) where
 acc:List Nat
 i:Nat
 le:i<=l.length
 len:acc.length=i
 ok:M7 rdW (l.take i)=some acc
def IW2(x:A9)(e:Int)(l:List ByteArray)(p:AJw l):Lv×Lo:=([pA 100,.int .i64 e,dsl (rowsOf cSt l),.int .i64 (l.length:Int),.int .i64 (p.i:Int)],[cWo x (mkS 101 p.acc.length),mo (p.acc.flatMap DJ) 28 1])
def RW2(x:A9)(e:Int)(l:List ByteArray)(ex:Exit)(v:Lv)(o:Lo):Prop:=
 (∃acc,M7 rdW l=some acc/\ex = .exit 0/\v=[top,.int .i64 e]/\o=[cWo x (mkS 101 acc.length),mo (acc.flatMap DJ) 28 1])∨
 (∃acc:List Nat,M7 rdW l=none/\ex = .ret/\v=[.bool false,top]/\o=[cWo x (mkS 101 acc.length),mo (acc.flatMap DJ) 28 1])
theorem AGB(x:A9)(w:Value):cW x w=(lM x).take 10++w::(lM x).drop 11:=rfl
theorem AP8(x:A9)(e:Int)(l:List ByteArray)(hl:l.length<=1000)(p:AJw l):
  Is (wpe Tryz.prog (real Tryz.prog) (AP fF Zp [] [] [(142,AFS AGd)] []) 300 (.code false (AJ Tryz.prog 149 3) (CX 100 42 [0,6,16,17,18] [] (IW2 x e l p))) (A7 100 [0,6,16,17,18] [4,6] 42 []
   (fun AB AC=>∃a':AJw l,l.length-a'.i<l.length-p.i/\Wk 100 (100+1) AB AC (IW2 x e l a').1 (IW2 x e l a').2/\∀ex v o,RW2 x e l ex v o->RW2 x e l ex v o)
   (fun ex AB AC=>∃v o,Wk 100 (100+1) AB AC v o/\RW2 x e l ex v o))):=by
 refine⟨?_⟩
 obtain⟨acc,i,le,len,ok⟩:=p
 have hT:J3=140737488355328:=rfl
 show APc (real Tryz.prog) AGd x acc.length (mo (acc.flatMap DJ) 28 1) e (rowsOf cSt l) (l.length:Int) (i:Int) _ _
 rw[AJ3]
 refine EL (fun hlt=>?_) (fun hge=>?_)
 ·have hy:l[i]?=some l[i]:=List.getElem?_eq_getElem hlt
  generalize l[i]=y at hy
  have hms:l.length-(i+1)<l.length-i:=by omega
  refine DK i rfl (O1 hy) rfl (KL (z:=y) rfl ⟨18446744073709551615,rfl,fun n hn=>?_,fun hn=>?_⟩)
  ·refine MH (m:=0) (d:=0) (fun h=>absurd rfl h) (fun _=>D6 (LP (c:=DJ) (fun _=>rfl) acc) (by omega) (FV (by omega) rfl rfl (by omega) (by omega) (BZ (by omega) ⟨rfl,⟨acc++[n],i+1,hlt,by simp[len],qK hy ok hn⟩,hms,?_,fun _ _ _ h=>h⟩)))
   have hcell:acc.flatMap DJ++DJ n=(acc++[n]).flatMap DJ:=by simp
   have hacc:(acc++[n]).length=acc.length+1:=by simp
   show Wk 100 (100+1) _ _ [pA 100,.int .i64 e,dsl (rowsOf cSt l),.int .i64 (l.length:Int),.int .i64 ((i+1:Nat):Int)] [cWo x (mkS 101 (acc++[n]).length),mo ((acc++[n]).flatMap DJ) 28 1]
   rw[←hcell,J4 (by simp[DJ]),hacc]
   exact AK5 (j:=3) (a:=(lM x).take 10) (r:=(lM x).drop 11) (by omega) rfl rfl (by rw[hcell];exact sN _) rfl rfl rfl (by omega)
  ·exact MH (m:=3) (d:=0) (fun _=>⟨rfl,[.bool false,top],_,EX (.cons (.refl _) (.cons (.top _) .nil)) (F5.refl _),.inr ⟨acc,kI (f:=rdW) hy hn,rfl,rfl,rfl⟩⟩) (fun h=>absurd h (by decide))
 ·have e1:i=l.length:=by omega
  subst e1
  rw[List.take_length]at ok
  exact⟨rfl,_,_,Wk.refl _ _ _ _,.inl ⟨acc,ok,rfl,rfl,rfl⟩⟩
def AOb(x:A9):AJr:=fun c n AB obs A E=>∃(e:Int) (l:List ByteArray),l.length<=1000/\c=AJ Tryz.prog 149 3/\n=42/\AB=[pA 100,.int .i64 e,dsl (rowsOf cSt l),.int .i64 (Int.ofNat l.length),.int .i64 (0:Int)]/\obs=[cWo x YE]/\
 (∀acc,M7 rdW l=some acc->A acc.length (mo (acc.flatMap DJ) 28 1))/\(∀acc:List Nat,M7 rdW l=none->E acc.length (mo (acc.flatMap DJ) 28 1))
theorem ARX(x:A9):BH Tryz.prog 100 [0,6,16,17,18] (ALP (AOb x)):=by
 show BH Tryz.prog 100 [0,6,16,17,18] (lpS [4,6] _)
 refine FQ okp (W:=AP fF Zp [] [] [(142,AFS AGd)] []) (EY (pu1 ALN)) AZ ?_
 intro c n AB obs K h
 split at h<;>try exact h.elim
 obtain⟨e,l,hl,hc,hn,hv,ho,hA,hE⟩:=h
 subst hc;subst hn
 simp only[cWo,List.cons.injEq,Option.some.injEq,AA.cells.injEq,and_true]at hv ho
 obtain⟨rfl,rfl,rfl,rfl,rfl⟩:=hv
 subst ho
 refine⟨AJw l,1,300,fun p=>l.length-p.i,IW2 x e l,fun _ ex v o=>RW2 x e l ex v o,⟨[],0,Nat.zero_le _,rfl,rfl⟩,rfl,?_,?_,AP8 x e l hl⟩
 ·exact(EX (DT.refl _) (.cons (.cells (bY (a:=(lM x).take 10) (.cons .nilM (DT.refl _)))) .nil)).trans ACs
 intro ex v o hR
 rcases hR with⟨acc,h1,rfl,rfl,rfl⟩ | ⟨acc,h1,rfl,rfl,rfl⟩
 ·exact hA acc h1
 ·exact hE acc h1
def QW2(x:A9)(s:ByteArray):RK:=fun v AC=>∃(acc:List Nat) (b:Bool),((b=true/\F9 JQ 128 s.data.toList=some acc)∨(b=false/\F9 JQ 128 s.data.toList=none))/\Wk 100 (100+1) [v] AC [.bool b] [cWo x (dsl (rowsOf DJ acc))]
theorem ARo(n:Nat)(x:A9)(AY:Lv):BL n (cW x (dsl AY))=true:=rfl
theorem ARp(n:Nat)(x:A9):BL n (cW x YE)=true:=rfl
theorem AF3{x:A9}{b:Bool}{acc:List Nat}:Wk 100 (100+1) [.bool b] [cWo x (mkS 101 acc.length),mo (acc.flatMap DJ) 28 1] [.bool b] [cWo x (dsl (rowsOf DJ acc))]:=
 (AK4 (a:=(lM x).take 10) (r:=(lM x).drop 11) (XX (c:=DJ) (n:=1) (fun _=>rfl) acc) (sN acc) (by omega) (AQ _ _).symm).trans (I1 (k0:=1) (pre:=[cWo x (dsl (rowsOf DJ acc))]) (extra:=[none]) rfl rfl (fun i o h=>by
  cases i with
  |zero=>simp only[List.getElem?_cons_zero,Option.some.injEq]at h;rw[←h];rfl
  |succ i=>simp at h))
theorem AHH{s:List UInt8}:(HY 128 0 s).2.length<=1000:=by
 by_cases h0:(HY 128 0 s).1=0
 ·obtain⟨_,h2,_⟩:=bA s.length s 128 0 (HY 128 0 s).2 (Nat.le_refl _) (Prod.ext h0 rfl)
  rcases h2 with h2|h2
  ·omega
  ·rw[h2];simp
 ·rw[TE _ _ _ h0];simp
theorem w2C(x:A9)(s:ByteArray):Is (gW2 (real Tryz.prog) MRL (AOb x) x s (QW2 x s)):=by
 refine⟨?_⟩
 rw[AMi]
 refine⟨128,rfl,by omega,fun h0=>BI _ (AQ _ _) ⟨0,_,AHH,rfl,rfl,rfl,rfl,fun acc h=>⟨acc,true,.inl ⟨rfl,?_⟩,AF3⟩,fun acc h=>⟨acc,false,.inr ⟨rfl,?_⟩,AF3⟩⟩,fun h3=>BI 0 rfl ⟨3,[],by simp,rfl,rfl,rfl,rfl,fun acc h=>⟨acc,false,.inr ⟨rfl,?_⟩,AF3⟩,fun acc h=>⟨acc,false,.inr ⟨rfl,?_⟩,AF3⟩⟩,fun h4=>BI 0 rfl ⟨4,[],by simp,rfl,rfl,rfl,rfl,fun acc h=>⟨acc,false,.inr ⟨rfl,?_⟩,AF3⟩,fun acc h=>⟨acc,false,.inr ⟨rfl,?_⟩,AF3⟩⟩⟩
 ·unfold F9;rw[if_pos h0];exact h
 ·unfold F9;rw[if_pos h0];exact h
 all_goals(unfold F9;rw[if_neg (by omega)])
def AJt:MWd:=fun vs s A=>∃x,vs=cW x YE/\(∀ws,F9 JQ 128 s.data.toList=some ws->A (dsl (rowsOf DJ ws)) true)/\(F9 JQ 128 s.data.toList=none->∀ws:List Nat,A (dsl (rowsOf DJ ws)) false)
theorem AR7:JU Tryz.prog 100 149 (sW2 AJt):=by
 intro args H K h
 unfold sW2 at h
 split at h<;>try exact h.elim
 rename_i b s
 split at h<;>try exact h.elim
 rename_i vs hg
 split at h<;>try exact h.elim
 rename_i hp
 obtain⟨x,rfl,hA,hE⟩:=h
 obtain⟨v,AC,⟨acc,ok,hb,hw⟩,hC⟩:=LM (EY (F6 AFm)) (lp1 (ARX x)) (w2C x s)
 have hC2:∀B,BM Tryz.prog 100 B 149 [pA 100,.string s] (hOf 100 [] [cWo x YE]) (.returned (.bool ok)) (hOf 100 [] [cWo x (dsl (rowsOf DJ acc))]):=fun B=>IM (hC B) hw
 unfold APv at hp
 simp only[Bool.and_eq_true]at hp
 have hp1:=Nat.le_of_ble_eq_true hp.1
 have hp2:b<H.next:=Nat.le_of_ble_eq_true hp.2
 have hL:∀B,BM Tryz.prog 100 B 149 [.pointer (some ⟨b,0,none⟩),.string s] H (.returned (.bool ok)) (IW H [b] [some (.cells (cW x (dsl (rowsOf DJ acc))) 51 52 false true)]):=by
  intro B
  have hτ:tau 100 [b] H.next 100=b:=MZ (Nat.le_refl _) rfl
  have e0:FE (tau 100 [b] H.next) (cW x YE)=cW x YE:=EA (n0:=0) (fun n h=>by omega) _ (ARp 0 x)
  have e9:FE (tau 100 [b] H.next) (cW x (dsl (rowsOf DJ acc)))=cW x (dsl (rowsOf DJ acc)):=EA (n0:=0) (fun n h=>by omega) _ (ARo 0 x _)
  have h2:=qG (ins:=[cWo x YE]) (upd:=[cWo x (dsl (rowsOf DJ acc))]) (new:=[]) rfl (fun i hi=>by cases i<;>simp[cWo]at hi) rfl hC2 (H:=H) (ns:=[b]) rfl (by simp) (fun m hm=>by simp only[List.mem_singleton]at hm;subst hm;exact⟨hp1,hp2⟩)
   (fun i o hi=>by
    cases i with
    |succ i=>simp at hi
    |zero=>
     simp only[cWo,List.getElem?_cons_zero,Option.some.injEq]at hi;subst hi
     exact⟨b,rfl,by rw[hg];show _=some (AA.cells (FE (tau 100 [b] H.next) (cW x YE)) 51 52 false true);rw[e0]⟩) B
  have e1:FE (tau 100 [b] H.next) [pA 100,.string s]=[.pointer (some ⟨b,0,none⟩),.string s]:=by simp only[FE,pA,F7,hτ]
  rw[e1]at h2
  simp only[mH,F7,List.map_cons,List.map_nil,cWo,Option.map_some,G8,e9]at h2
  exact h2
 rcases hb with⟨rfl,hx⟩ | ⟨rfl,hx⟩
 ·exact⟨_,_,hL,hA acc hx⟩
 ·exact⟨_,_,hL,hE hx acc⟩
end
end Go.Proofs.Ob
