/- . -/
import Derived.Test.YtblbaohcelldpaaGreatDoorQO
import Derived.Test.YtblbaohcelldpaaGreatDoorT20
set_option linter.all false
set_option maxRecDepth 100000
namespace Go.Proofs.Ob
open Go Go.Abs Go.Tlv
noncomputable section
structure MVl where
 nb:MNm
 ls:MSt
 p0:MPx
 p1:MPx
 p2:MPx
 p3:MPx
 p4:MPx
 p5:MPx
 p6:MPx
 p7:MPx
abbrev LVl:=Code->Nat->Lv->Lo->(Nat->Option AA->Prop)->Prop
def AXg(L:LVl):LpS:=lpS [6] fun c n AB obs K=>L c n AB obs fun k ob=>K (.exit 1) [mkS 101 k] (obs++[ob])
def chV(N:Nd)(t:Int)(B:Nat->Prop):List Nat->Prop
 | []=>B 17
 |k::r=>N.cmp .eql .u8 t .u8 (k:Int) (B k) (chV N t B r)
def vlB(N:Nd)(M:MVl)(L:LVl)(x:A9)(K:Value->Prop):Nat->Prop
 | 1=>N.conv 3 28 .i64 x.a2 .u64 fun z=>M.nb z fun s=>K (.string s)
 | 2=>N.conv 3 28 .i64 x.a3 .u64 fun z=>M.nb z fun s=>K (.string s)
 | 3=>N.conv 3 28 .i64 x.a4 .u64 fun z=>M.nb z fun s=>K (.string s)
 | 4=>N.conv 3 28 .i64 x.a5 .u64 fun z=>M.nb z fun s=>K (.string s)
 | 5=>N.conv 3 28 .i64 x.a6 .u64 fun z=>M.nb z fun s=>K (.string s)
 | 6=>M.nb (x.a7:Int) fun s=>K (.string s)
 | 7=>M.nb (x.a8:Int) fun s=>K (.string s)
 | 8=>K (.string x.a9)
 | 9=>L (AJ Tryz.prog 52 23) 139 [pA 100,.slice none 0 0,.int .i64 0] [some (cM x)] fun k ob=>k=k/\M.ls k ob fun s _=>K (.string s)
 | 10=>M.p0 (OI x.n) (fun s=>K (.string s)) (K (.string (bytesOf [])))
 | 11=>M.p1 (K6 x.f) (fun s=>K (.string s)) (K (.string (bytesOf [])))
 | 12=>M.p2 (K9 x.t) (fun s=>K (.string s)) (K (.string (bytesOf [])))
 | 13=>M.p3 (K5 x.e) (fun s=>K (.string s)) (K (.string (bytesOf [])))
 | 14=>M.p4 (K4 x.b) (fun s=>K (.string s)) (K (.string (bytesOf [])))
 | 15=>M.p5 (K7 x.g) (fun s=>K (.string s)) (K (.string (bytesOf [])))
 | 16=>M.p6 (K8 x.m) (fun s=>K (.string s)) (K (.string (bytesOf [])))
 |_=>M.p7 (OJ x.r) (fun s=>K (.string s)) (K (.string (bytesOf [])))
def puV(M:MVl):PuL:=[(121,sNm M.nb),(123,sPx M.p0),(124,sPx M.p1),(125,sPx M.p2),(126,sPx M.p3),(127,sPx M.p4),(128,sPx M.p5),(129,sPx M.p6),(130,sPx M.p7)]
def gVl(N:Nd)(M:MVl)(L:LVl)(x:A9)(t:Int)(K:Value->Prop):Prop:=wpe Tryz.prog N (AP fF Zp [(122,ND M.ls)] [(23,(139,([2,6,7],AXg L)))] (puV M) []) 300 (.call 52 [F8 x,(.int .u8 t)] h0) (J6 K)
theorem AXr(N:Nd)(M:MVl)(L:LVl)(x:A9)(t:Int)(K:Value->Prop):gVl N M L x t K=chV N t (vlB N M L x K) ATL:=by kernel_rfl
def AXQ(N:Nd)(M:MNm)(x:A9)(k:Nat)(ob:Option AA)(i:Int)(back:Bk)(out:Ot):Prop:=
 wpe Tryz.prog N (AP fF Zp [] [] [(121,sNm M)] []) 300 (.code false (AJ Tryz.prog 52 23) (CX 100 139 [2,6,7] [] ([pA 100,mkS 101 k,.int .i64 i],[some (cM x),ob]))) (A7 100 [2,6,7] [6] 139 [] back out)
theorem AWO(N:Nd)(M:MNm)(x:A9)(k:Nat)(ob:Option AA)(i:Int)(back:Bk)(out:Ot):AXQ N M x k ob i back out=N.dlen (rowsOf DJ x.a10) fun n=>N.cmp .lss .i64 i .i64 n (N.dget (rowsOf DJ x.a10) i 1 fun cs=>N.rdI .u64 cs 0 fun z=>M z fun s=>N.base true k k ob 9 1 fun vs=>N.appX k vs 1 [.string s] 1 16 fun vs' k'=>N.ari .add .i64 i .i64 1 fun i'=>nD/\back [pA 100,.slice (some ⟨103,0,none⟩) k' k',.int .i64 i'] [some (cM x),none,some (.cells [.string s] 9 1 false true),some (.cells vs' 9 1 true true)])
 (nD/\out (.exit 1) [mkS 101 k] [some (cM x),ob]):=by kernel_rfl
theorem AXL{t:Nat}{B:Nat->Prop}(h:B t):∀r:List Nat,t∈r∨t=17->chV (real Tryz.prog) (t:Int) B r
 | [],ht=>by rcases ht with ht|rfl;cases ht;exact h
 |k::r,ht=>DZ (fun e=>e ▸ h) (fun e=>AXL h r (ht.elim (fun h => .inl ((List.mem_cons.1 h).resolve_left e)) .inr))
def IVl(x:A9)(i:{i:Nat // i<=x.a10.length}):Lv×Lo:=([pA 100,mkS 101 (tk BU x.a10 i.1).length,.int .i64 (i.1:Int)],[some (cM x),mo (strV (tk BU x.a10 i.1)) 9 1])
def RVl(x:A9)(e:Exit)(v:Lv)(o:Lo):Prop:=e = .exit 1/\v=[mkS 101 x.a10.length]/\o=[some (cM x),mo (strV (x.a10.map BU)) 9 1]
theorem AX6(x:A9)(hl:x.a10.length<100000)(hw:∀y∈x.a10,L6 y)(i:{i:Nat // i<=x.a10.length}):
  Is (wpe Tryz.prog (real Tryz.prog) (AP fF Zp [] [] [(121,sNm MNr)] []) 300 (.code false (AJ Tryz.prog 52 23) (CX 100 139 [2,6,7] [] (IVl x i))) (A7 100 [2,6,7] [6] 139 []
   (fun AB AC=>∃a':{i:Nat // i<=x.a10.length},x.a10.length-a'.1<x.a10.length-i.1/\Wk 100 (100+1) AB AC (IVl x a').1 (IVl x a').2/\∀e v o,RVl x e v o->RVl x e v o)
   (fun e AB AC=>∃v o,Wk 100 (100+1) AB AC v o/\RVl x e v o))):=by
 refine⟨?_⟩
 obtain⟨i,hi⟩:=i
 show AXQ (real Tryz.prog) MNr x (tk BU x.a10 i).length (mo (strV (tk BU x.a10 i)) 9 1) (i:Int) _ _
 rw[AWO]
 have hT:J3=140737488355328:=rfl
 have htk:=Q8 BU hi
 refine BI x.a10.length (AQ _ _) (EL (fun hlt=>?_) (fun hge=>?_))
 ·have hx:x.a10[i]?=some x.a10[i]:=by simp[hlt]
  have hms:x.a10.length-(i+1)<x.a10.length-i:=by omega
  generalize x.a10[i]=y at hx
  have hx2:=OB (one:=BU) hx
  have hlen:=congrArg List.length hx2
  rw[List.length_append,D5,D5]at hlen
  refine DK i rfl (CL hx) rfl (CG rfl ⟨y,rfl,hw y (List.mem_of_getElem? hx),D6 (by rw[D5,Nat.mul_one]) (by omega) (FV (by omega) rfl rfl (by omega) (by omega) (BZ (by omega) ⟨rfl,⟨i+1,hlt⟩,hms,?_,fun _ _ _ h=>h⟩))⟩)
  show Wk 100 (100+1) _ _ ([pA 100]++mkS (100+1) (tk BU x.a10 (i+1)).length::_) ([some (cM x)]++[mo (strV (tk BU x.a10 (i+1))) 9 1])
  rw[←hx2,J4 (by simp),←hlen]
  exact IU (k0:=1) (j:=3) (va:=[pA 100]) (by omega) rfl (by rw[hx2];exact KX 0 _) rfl rfl (by simp) rfl (mU rfl rfl)
 ·have e:i=x.a10.length:=by omega
  subst e
  refine⟨rfl,[mkS 101 x.a10.length],[some (cM x),mo (strV (x.a10.map BU)) 9 1],?_,rfl,rfl,rfl⟩
  rw[Q7,List.length_map];exact Wk.refl _ _ _ _
def AXG(x:A9):LVl:=fun c n AB obs A=>c=AJ Tryz.prog 52 23/\n=139/\AB=[pA 100,.slice none 0 0,.int .i64 0]/\obs=[some (cM x)]/\A x.a10.length (mo (strV (x.a10.map BU)) 9 1)
theorem AXY:FY Tryz.prog 100 121 (sNm MNr):=by
 intro args K h
 unfold sNm at h
 split at h<;>try exact h.elim
 obtain⟨m,rfl,hm,hK⟩:=h
 exact AVJ _ _ ⟨m,rfl,hm,hK⟩
theorem AYf(x:A9)(hl:x.a10.length<100000)(hw:∀y∈x.a10,L6 y):BH Tryz.prog 100 [2,6,7] (AXg (AXG x)):=by
 show BH Tryz.prog 100 [2,6,7] (lpS [6] _)
 refine FQ okp (W:=AP fF Zp [] [] [(121,sNm MNr)] []) (EY (pu1 AXY)) AZ ?_
 rintro c n AB obs K ⟨hc,hn,hv,ho,hA⟩
 subst hc;subst hn;subst hv;subst ho
 refine⟨{i:Nat // i<=x.a10.length},1,300,fun a=>x.a10.length-a.1,IVl x,fun _ e v o=>RVl x e v o,⟨0,Nat.zero_le _⟩,rfl,IP (va:=[pA 100]),?_,AX6 x hl hw⟩
 rintro e v o ⟨rfl,rfl,rfl⟩
 exact hA
structure okR(x:A9):Prop where
 p:okP x
 ln:x.n.arms.length<100000
 lt:x.t.keys.length<100000
 le:x.e.args.length<100000
 lb:x.b.code.length<100000
 lg:x.g.bks.length<100000
def MVr:MVl:=⟨MNr,MSr,MPr OI (fun x=>KQ x/\lL x/\x.arms.length<100000) JX GD,MPr K6 (fun x=>NI x/\cK x) I5 GQ,MPr K9 (fun x=>JF x/\dA x/\x.keys.length<100000) IG GR,MPr K5 (fun x=>JD x/\cB x/\x.args.length<100000) IB DL,MPr K4 (fun x=>JC x/\bZ x/\x.code.length<100000) H9 I9,MPr K7 (fun x=>JE x/\cO x/\x.bks.length<100000) IC G9,MPr K8 (fun x=>NJ x/\cZ x) I6 IK,MPr OJ (fun x=>PL x/\lN x) J9 KF⟩
theorem knV{LP:LpL}:OM Tryz.prog 100 (AP fF Zp [(122,ND MVr.ls)] LP (puV MVr) []):=M3 (fun x hx=>by simp only[List.mem_singleton]at hx;subst hx;exact AXa) (fun x hx=>by
 simp only[puV,List.mem_cons,List.not_mem_nil,or_false]at hx
 rcases hx with rfl|rfl|rfl|rfl|rfl|rfl|rfl|rfl|rfl
 ·exact AXY
 ·exact fE fun x h B H=>AV3 x h.1 h.2.1 h.2.2 B H
 ·exact fE fun x h B H=>AVx x h.1 h.2 B H
 ·exact fE fun x h B H=>AVE x h.1 h.2.1 h.2.2 B H
 ·exact fE fun x h B H=>AVv x h.1 h.2.1 h.2.2 B H
 ·exact fE fun x h B H=>AVt x h.1 h.2.1 h.2.2 B H
 ·exact fE fun x h B H=>AVz x h.1 h.2.1 h.2.2 B H
 ·exact fE fun x h B H=>AVC x h.1 h.2 B H
 ·exact fE fun x h B H=>AV5 x h.1 h.2 B H)
theorem vlC{x:A9}(hx:okR x){t:Nat}(h1:1<=t)(h2:t<=17):Is (gVl (real Tryz.prog) MVr (AXG x) x (t:Int) (fun v=>v = .string (bytesOf (J5 x t)))):=by
 refine⟨?_⟩
 rw[AXr]
 refine AXL ?_ ATL (AX9 (AW9 h1 h2))
 have hc:t=1∨t=2∨t=3∨t=4∨t=5∨t=6∨t=7∨t=8∨t=9∨t=10∨t=11∨t=12∨t=13∨t=14∨t=15∨t=16∨t=17:=by omega
 rcases hc with rfl|rfl|rfl|rfl|rfl|rfl|rfl|rfl|rfl|rfl|rfl|rfl|rfl|rfl|rfl|rfl|rfl
 ·exact zR ⟨A8 x.a2,rfl,AO _,rfl⟩
 ·exact zR ⟨A8 x.a3,rfl,AO _,rfl⟩
 ·exact zR ⟨A8 x.a4,rfl,AO _,rfl⟩
 ·exact zR ⟨A8 x.a5,rfl,AO _,rfl⟩
 ·exact zR ⟨A8 x.a6,rfl,AO _,rfl⟩
 ·exact⟨x.a7,rfl,hx.p.a7,rfl⟩
 ·exact⟨x.a8,rfl,hx.p.a8,rfl⟩
 ·show Value.string x.a9 = .string (bytesOf (J5 x 8))
  exact congrArg Value.string (bytes_eta _).symm
 ·exact⟨rfl,rfl,rfl,rfl,rfl,x.a10.map BU,by rw[List.length_map];exact hx.p.w,(List.length_map _).symm,rfl,rfl⟩
 ·exact⟨x.n,rfl,⟨hx.p.n.1,hx.p.n.2,hx.ln⟩,fun hm=>(by show Value.string _ = .string (bytesOf (if JX x.n=true then encS (GD x.n)else[]));rw[if_pos hm]),fun hm=>(by show Value.string _ = .string (bytesOf (if JX x.n=true then encS (GD x.n)else[]));rw[if_neg (by rw[hm];simp)])⟩
 ·exact⟨x.f,rfl,⟨hx.p.f.1,hx.p.f.2⟩,fun hm=>(by show Value.string _ = .string (bytesOf (if I5 x.f=true then encS (GQ x.f)else[]));rw[if_pos hm]),fun hm=>(by show Value.string _ = .string (bytesOf (if I5 x.f=true then encS (GQ x.f)else[]));rw[if_neg (by rw[hm];simp)])⟩
 ·exact⟨x.t,rfl,⟨hx.p.t.1,hx.p.t.2,hx.lt⟩,fun hm=>(by show Value.string _ = .string (bytesOf (if IG x.t=true then encS (GR x.t)else[]));rw[if_pos hm]),fun hm=>(by show Value.string _ = .string (bytesOf (if IG x.t=true then encS (GR x.t)else[]));rw[if_neg (by rw[hm];simp)])⟩
 ·exact⟨x.e,rfl,⟨hx.p.e.1,hx.p.e.2,hx.le⟩,fun hm=>(by show Value.string _ = .string (bytesOf (if IB x.e=true then encS (DL x.e)else[]));rw[if_pos hm]),fun hm=>(by show Value.string _ = .string (bytesOf (if IB x.e=true then encS (DL x.e)else[]));rw[if_neg (by rw[hm];simp)])⟩
 ·exact⟨x.b,rfl,⟨hx.p.b.1,hx.p.b.2,hx.lb⟩,fun hm=>(by show Value.string _ = .string (bytesOf (if H9 x.b=true then encS (I9 x.b)else[]));rw[if_pos hm]),fun hm=>(by show Value.string _ = .string (bytesOf (if H9 x.b=true then encS (I9 x.b)else[]));rw[if_neg (by rw[hm];simp)])⟩
 ·exact⟨x.g,rfl,⟨hx.p.g.1,hx.p.g.2,hx.lg⟩,fun hm=>(by show Value.string _ = .string (bytesOf (if IC x.g=true then encS (G9 x.g)else[]));rw[if_pos hm]),fun hm=>(by show Value.string _ = .string (bytesOf (if IC x.g=true then encS (G9 x.g)else[]));rw[if_neg (by rw[hm];simp)])⟩
 ·exact⟨x.m,rfl,⟨hx.p.m.1,hx.p.m.2⟩,fun hm=>(by show Value.string _ = .string (bytesOf (if I6 x.m=true then encS (IK x.m)else[]));rw[if_pos hm]),fun hm=>(by show Value.string _ = .string (bytesOf (if I6 x.m=true then encS (IK x.m)else[]));rw[if_neg (by rw[hm];simp)])⟩
 ·exact⟨x.r,rfl,⟨hx.p.r.1,hx.p.r.2⟩,fun hm=>(by show Value.string _ = .string (bytesOf (if J9 x.r=true then encS (KF x.r)else[]));rw[if_pos hm]),fun hm=>(by show Value.string _ = .string (bytesOf (if J9 x.r=true then encS (KF x.r)else[]));rw[if_neg (by rw[hm];simp)])⟩
theorem AXC{x:A9}(hx:okR x){t:Nat}(h1:1<=t)(h2:t<=17)(B:Base)(H:Heap):BM Tryz.prog 100 B 52 [F8 x,.int .u8 (t:Int)] H (.returned (.string (bytesOf (J5 x t)))) H:=
 kQ okp knV (lp1 (AYf x hx.p.w hx.p.wn)) rfl (vlC hx h1 h2) B H
theorem AVe{x:A9}(is:∀t,1<=t->t<=17->isM x t=true)(hr:rgP x):eU x:=by
 have r:=hr.m
 exact {
  a2:=bV hr.i2 (of_decide_eq_true (is 1 (by omega) (by omega)))
  a3:=bV hr.i3 (of_decide_eq_true (is 2 (by omega) (by omega)))
  a4:=bV hr.i4 (of_decide_eq_true (is 3 (by omega) (by omega)))
  a5:=bV hr.i5 (of_decide_eq_true (is 4 (by omega) (by omega)))
  a6:=bV hr.i6 (of_decide_eq_true (is 5 (by omega) (by omega)))
  a7:=by have:=hr.a7;show x.a7<=18446744073709551615;omega
  a8:=by have:=hr.a8;show x.a8<=18446744073709551615;omega
  a9:=trivial
  a10:=⟨of_decide_eq_true (is 9 (by omega) (by omega)),fun a ha=>by have:=hr.w a ha;unfold L6 at this;show a<=18446744073709551615;omega⟩
  n:=zG (is 10 (by omega) (by omega)) r.1
  f:=u6 (is 11 (by omega) (by omega)) r.2.1
  t:=vD (is 12 (by omega) (by omega)) r.2.2.1
  e:=uZ (is 13 (by omega) (by omega)) r.2.2.2.1
  b:=uY (is 14 (by omega) (by omega)) r.2.2.2.2.1
  g:=u7 (is 15 (by omega) (by omega)) r.2.2.2.2.2.1
  m:=vC (is 16 (by omega) (by omega)) r.2.2.2.2.2.2.1
  r:=zH (is 17 (by omega) (by omega)) r.2.2.2.2.2.2.2
 }
theorem AWY(x y:A9):∀(t:Nat),1<=t->t<=17->J5 (TW x y t) t=J5 y t
 | 0,h1,_=>absurd h1 (by decide)
 | 1,_,_=>rfl
 | 2,_,_=>rfl
 | 3,_,_=>rfl
 | 4,_,_=>rfl
 | 5,_,_=>rfl
 | 6,_,_=>rfl
 | 7,_,_=>rfl
 | 8,_,_=>rfl
 | 9,_,_=>rfl
 | 10,_,_=>rfl
 | 11,_,_=>rfl
 | 12,_,_=>rfl
 | 13,_,_=>rfl
 | 14,_,_=>rfl
 | 15,_,_=>rfl
 | 16,_,_=>rfl
 | 17,_,_=>rfl
 |t+18,_,h2=>absurd h2 (by omega)
theorem AVl{x y:A9}(hx:eU x)(hy:eU y):∀(t:Nat),1<=t->t<=17->eU (TW x y t)
 | 0,h1,_=>absurd h1 (by decide)
 | 1,_,_=>⟨hy.a2,hx.a3,hx.a4,hx.a5,hx.a6,hx.a7,hx.a8,hx.a9,hx.a10,hx.n,hx.f,hx.t,hx.e,hx.b,hx.g,hx.m,hx.r⟩
 | 2,_,_=>⟨hx.a2,hy.a3,hx.a4,hx.a5,hx.a6,hx.a7,hx.a8,hx.a9,hx.a10,hx.n,hx.f,hx.t,hx.e,hx.b,hx.g,hx.m,hx.r⟩
 | 3,_,_=>⟨hx.a2,hx.a3,hy.a4,hx.a5,hx.a6,hx.a7,hx.a8,hx.a9,hx.a10,hx.n,hx.f,hx.t,hx.e,hx.b,hx.g,hx.m,hx.r⟩
 | 4,_,_=>⟨hx.a2,hx.a3,hx.a4,hy.a5,hx.a6,hx.a7,hx.a8,hx.a9,hx.a10,hx.n,hx.f,hx.t,hx.e,hx.b,hx.g,hx.m,hx.r⟩
 | 5,_,_=>⟨hx.a2,hx.a3,hx.a4,hx.a5,hy.a6,hx.a7,hx.a8,hx.a9,hx.a10,hx.n,hx.f,hx.t,hx.e,hx.b,hx.g,hx.m,hx.r⟩
 | 6,_,_=>⟨hx.a2,hx.a3,hx.a4,hx.a5,hx.a6,hy.a7,hx.a8,hx.a9,hx.a10,hx.n,hx.f,hx.t,hx.e,hx.b,hx.g,hx.m,hx.r⟩
 | 7,_,_=>⟨hx.a2,hx.a3,hx.a4,hx.a5,hx.a6,hx.a7,hy.a8,hx.a9,hx.a10,hx.n,hx.f,hx.t,hx.e,hx.b,hx.g,hx.m,hx.r⟩
 | 8,_,_=>⟨hx.a2,hx.a3,hx.a4,hx.a5,hx.a6,hx.a7,hx.a8,hy.a9,hx.a10,hx.n,hx.f,hx.t,hx.e,hx.b,hx.g,hx.m,hx.r⟩
 | 9,_,_=>⟨hx.a2,hx.a3,hx.a4,hx.a5,hx.a6,hx.a7,hx.a8,hx.a9,hy.a10,hx.n,hx.f,hx.t,hx.e,hx.b,hx.g,hx.m,hx.r⟩
 | 10,_,_=>⟨hx.a2,hx.a3,hx.a4,hx.a5,hx.a6,hx.a7,hx.a8,hx.a9,hx.a10,hy.n,hx.f,hx.t,hx.e,hx.b,hx.g,hx.m,hx.r⟩
 | 11,_,_=>⟨hx.a2,hx.a3,hx.a4,hx.a5,hx.a6,hx.a7,hx.a8,hx.a9,hx.a10,hx.n,hy.f,hx.t,hx.e,hx.b,hx.g,hx.m,hx.r⟩
 | 12,_,_=>⟨hx.a2,hx.a3,hx.a4,hx.a5,hx.a6,hx.a7,hx.a8,hx.a9,hx.a10,hx.n,hx.f,hy.t,hx.e,hx.b,hx.g,hx.m,hx.r⟩
 | 13,_,_=>⟨hx.a2,hx.a3,hx.a4,hx.a5,hx.a6,hx.a7,hx.a8,hx.a9,hx.a10,hx.n,hx.f,hx.t,hy.e,hx.b,hx.g,hx.m,hx.r⟩
 | 14,_,_=>⟨hx.a2,hx.a3,hx.a4,hx.a5,hx.a6,hx.a7,hx.a8,hx.a9,hx.a10,hx.n,hx.f,hx.t,hx.e,hy.b,hx.g,hx.m,hx.r⟩
 | 15,_,_=>⟨hx.a2,hx.a3,hx.a4,hx.a5,hx.a6,hx.a7,hx.a8,hx.a9,hx.a10,hx.n,hx.f,hx.t,hx.e,hx.b,hy.g,hx.m,hx.r⟩
 | 16,_,_=>⟨hx.a2,hx.a3,hx.a4,hx.a5,hx.a6,hx.a7,hx.a8,hx.a9,hx.a10,hx.n,hx.f,hx.t,hx.e,hx.b,hx.g,hy.m,hx.r⟩
 | 17,_,_=>⟨hx.a2,hx.a3,hx.a4,hx.a5,hx.a6,hx.a7,hx.a8,hx.a9,hx.a10,hx.n,hx.f,hx.t,hx.e,hx.b,hx.g,hx.m,hy.r⟩
 |t+18,_,h2=>absurd h2 (by omega)
theorem AVb{x:A9}(k:Nat):∀(ts:List Nat) (m:A9),(∀t∈ts,1<=t/\t<=17)->J5 (ts.foldl (fun m t=>TW m x t) m) k=if k∈ts then J5 x k else J5 m k
 | [],m,_=>by simp
 |a::ts,m,h=>by
  have ha:=h a (by simp)
  rw[List.foldl_cons,AVb k ts (TW m x a) (fun t ht=>h t (by simp[ht]))]
  by_cases e:k=a
  ·subst e
   rw[AWY m x k ha.1 ha.2]
   split<;>simp
  ·rw[AWZ m x a ha.1 ha.2 k e]
   simp only[List.mem_cons,e,false_or]
theorem AUO{x:A9}(hx:eU x):∀(ts:List Nat) (m:A9),eU m->(∀t∈ts,1<=t/\t<=17)->eU (ts.foldl (fun m t=>TW m x t) m)
 | [],m,hm,_=>hm
 |a::ts,m,hm,h=>AUO hx ts _ (AVl hm hx a (h a (by simp)).1 (h a (by simp)).2) (fun t ht=>h t (by simp[ht]))
theorem AVH{x:A9}(hx:okP x):∀(ts:List Nat) (m:A9),okP m->(∀t∈ts,1<=t/\t<=17)->okP (ts.foldl (fun m t=>TW m x t) m)
 | [],m,hm,_=>hm
 |a::ts,m,hm,h=>AVH hx ts _ (AWn hm hx a (h a (by simp)).1 (h a (by simp)).2) (fun t ht=>h t (by simp[ht]))
theorem AVG{x:A9}:∀(ts:List Nat) (m:A9),(ts.foldl (fun m t=>TW m x t) m).a0=m.a0/\(ts.foldl (fun m t=>TW m x t) m).a1=m.a1
 | [],m=>⟨rfl,rfl⟩
 |a::ts,m=>by
  obtain⟨h1,h2⟩:=AVG ts (TW m x a)
  rw[List.foldl_cons];exact⟨h1.trans (AWW _ _ _),h2.trans (AWX _ _ _)⟩
theorem AUl(k:Nat):∀t∈YL k 17,1<=t/\t<=17:=fun t h=>let g:=(ALC _ _ _).1 h;⟨g.1,g.2.1⟩
theorem AVi(x:A9)(k:Nat):J5 (ATK x) k=if k∈YL x.a0 17 then J5 x k else[]:=by
 unfold ATK onF
 rw[AVb k _ _ (AUl _),dQ]
theorem AWS{x:A9}(hx:okP x):okP (ATK x):=AVH hx _ _ (AHX (AKS x.a0 x.a1).z hx.a0 hx.a1) (AUl _)
theorem AVh{x:A9}(hF:eU x):x=ATK x↔∀t,1<=t->t<=17->hasB x.a0 t=false->J5 x t=[]:=by
 constructor
 ·intro h t h1 h2 hb
  have:=AVi x t
  rw[←h,if_neg (fun hm=>by rw[((ALC _ _ _).1 hm).2.2]at hb;cases hb)]at this
  exact this
 ·intro h
  have hG:eU (ATK x):=AUO hF _ _ (ABL _ _) (AUl _)
  have hh:=AVG (x:=x) (YL x.a0 17) (LC x.a0 x.a1)
  refine AKE hF hG hh.1.symm hh.2.symm fun k h1 h2=>?_
  rw[AVi]
  split
  ·rfl
  ·rename_i hn
   refine h k h1 h2 ?_
   cases hb:hasB x.a0 k with
   |false=>rfl
   |true=>exact absurd ((ALC _ _ _).2 ⟨h1,h2,hb⟩) hn
theorem AVg{n:Int}(h : -9223372036854775808<=n/\n<=9223372036854775807):okI n=decide (A8 n<=2147483647):=by
 unfold okI A8
 by_cases h0:0<=n/\n<=2147483647
 ·rw[decide_eq_true h0.1,decide_eq_true h0.2,decide_eq_true (by omega)];rfl
 ·rw[decide_eq_false (p:=(n % 18446744073709551616).toNat<=2147483647) (by omega)]
  by_cases h1:0<=n
  ·rw[decide_eq_true h1,decide_eq_false (by omega)];rfl
  ·rw[decide_eq_false h1];rfl
def AUN(x:A9):List Int:=[x.a2,x.a3,x.a4,x.a5,x.a6]
theorem AWR{x:A9}(hr:rgP x):QF x=true↔(1<=x.a0/\x.a0<=46)/\x=ATK x/\(AUN x).all okI=true/\x.a10.length<=128/\JX x.n=true/\I5 x.f=true/\IG x.t=true/\IB x.e=true/\H9 x.b=true/\IC x.g=true/\I6 x.m=true/\J9 x.r=true:=by
 have hfive:(AUN x).all okI=true↔∀t,1<=t->t<=5->isM x t=true:=by
  unfold AUN
  simp only[List.all_cons,List.all_nil,Bool.and_true,Bool.and_eq_true,AVg hr.i2,AVg hr.i3,AVg hr.i4,AVg hr.i5,AVg hr.i6]
  constructor
  ·rintro ⟨h1,h2,h3,h4,h5⟩ t ht ht2
   have hc:t=1∨t=2∨t=3∨t=4∨t=5:=by omega
   rcases hc with rfl|rfl|rfl|rfl|rfl
   ·exact h1
   ·exact h2
   ·exact h3
   ·exact h4
   ·exact h5
  ·intro h
   exact⟨h 1 (by omega) (by omega),h 2 (by omega) (by omega),h 3 (by omega) (by omega),h 4 (by omega) (by omega),h 5 (by omega) (by omega)⟩
 have key:(∀t,1<=t->t<=17->isM x t=true)↔(AUN x).all okI=true/\x.a10.length<=128/\JX x.n=true/\I5 x.f=true/\IG x.t=true/\IB x.e=true/\H9 x.b=true/\IC x.g=true/\I6 x.m=true/\J9 x.r=true:=by
  rw[hfive]
  constructor
  ·intro h
   exact⟨fun t h1 h2=>h t h1 (by omega),of_decide_eq_true (h 9 (by omega) (by omega)),h 10 (by omega) (by omega),h 11 (by omega) (by omega),h 12 (by omega) (by omega),h 13 (by omega) (by omega),h 14 (by omega) (by omega),h 15 (by omega) (by omega),h 16 (by omega) (by omega),h 17 (by omega) (by omega)⟩
  ·rintro ⟨h5,h9,h10,h11,h12,h13,h14,h15,h16,h17⟩ t h1 h2
   by_cases h6:t<=5
   ·exact h5 t h1 h6
   have hc:t=6∨t=7∨t=8∨t=9∨t=10∨t=11∨t=12∨t=13∨t=14∨t=15∨t=16∨t=17:=by omega
   rcases hc with rfl|rfl|rfl|rfl|rfl|rfl|rfl|rfl|rfl|rfl|rfl|rfl
   ·rfl
   ·rfl
   ·rfl
   ·exact decide_eq_true h9
   ·exact h10
   ·exact h11
   ·exact h12
   ·exact h13
   ·exact h14
   ·exact h15
   ·exact h16
   ·exact h17
 have hall:allM x=true↔(∀t,1<=t->t<=17->isM x t=true)/\∀t,1<=t->t<=17->hasB x.a0 t=false->J5 x t=[]:=by
  rw[U6]
  unfold goM
  constructor
  ·intro h
   refine⟨fun t h1 h2=>?_,fun t h1 h2 hb=>?_⟩
   ·have:=h t h1 h2
    simp only[Bool.and_eq_true]at this;exact this.1
   ·have:=h t h1 h2
    simp only[Bool.and_eq_true,Bool.or_eq_true,hb,List.isEmpty_iff]at this
    exact this.2.resolve_right (by simp)
  ·rintro ⟨h1,h2⟩ t ht ht2
   rw[h1 t ht ht2]
   cases hb:hasB x.a0 t with
   |true=>simp
   |false=>rw[h2 t ht ht2 hb];rfl
 have hk:aY x.a0=true↔1<=x.a0/\x.a0<=46:=by unfold aY;simp only[Bool.and_eq_true,decide_eq_true_eq]
 unfold QF
 rw[Bool.and_eq_true,hk,hall]
 constructor
 ·rintro ⟨h1,h2,h3⟩
  exact⟨h1,(AVh (AVe h2 hr)).2 h3,key.1 h2⟩
 ·rintro ⟨h1,h2,h3⟩
  have h4:=key.2 h3
  exact⟨h1,h4,(AVh (AVe h4 hr)).1 h2⟩
abbrev MOl:=Value->(A9->Prop)->Prop
def sOl(M:MOl):Lv->(Value->Prop)->Prop
 | [a],K=>M a fun z=>K (F8 z)
 |_,_=>False
structure MRm where
 o:MOl
 s:MSm
 p0:ML1
 p1:ML1
 p2:ML1
 p3:ML1
 p4:ML1
 p5:ML1
 p6:ML1
 p7:ML1
def AXv(M:MRm):PuL:=[(53,sOl M.o),(22,sSm M.s),(55,sL1 M.p0),(56,sL1 M.p1),(57,sL1 M.p2),(58,sL1 M.p3),(59,sL1 M.p4),(60,sL1 M.p5),(61,sL1 M.p6),(62,sL1 M.p7)]
def gRm(N:Nd)(I:Mi)(M:MRm)(x:A9)(K:Value->Prop):Prop:=wpe Tryz.prog N (AP Z0 Zp [(54,TP I)] [] (AXv M) []) 300 (.call 29 [F8 x] h0) (J6 K)
theorem AXp(N:Nd)(I:Mi)(M:MRm)(x:A9)(K:Value->Prop):gRm N I M x K=N.cmp .geq .u8 (x.a0:Int) .u8 1 (N.cmp .leq .u8 (x.a0:Int) .u8 46 (M.o (F8 x) fun z=>M.s (F8 x) (F8 z) (5=5/\5=5/\I.own [.int .i64 x.a2,.int .i64 x.a3,.int .i64 x.a4,.int .i64 x.a5,.int .i64 x.a6] fun b=>branch b (N.dlen (rowsOf DJ x.a10) fun n=>N.cmp .leq .i64 n .i64 128 (
 M.p0 (OI x.n) (M.p1 (K6 x.f) (M.p2 (K9 x.t) (M.p3 (K5 x.e) (M.p4 (K4 x.b) (M.p5 (K7 x.g) (M.p6 (K8 x.m) (M.p7 (OJ x.r) (K (.bool true)) (K (.bool false))) (K (.bool false))) (K (.bool false))) (K (.bool false))) (K (.bool false))) (K (.bool false))) (K (.bool false))) (K (.bool false))) (K (.bool false))) (K (.bool false))) (K (.bool false))) (K (.bool false))) (K (.bool false)):=by kernel_rfl
def MMb{α:Type}(v:α->Value)(fit:α->Prop)(may:α->Bool):ML1:=fun a A E=>∃y:α,a=v y/\fit y/\(may y=true->A)/\(may y=false->E)
theorem ATW{α:Type}{v:α->Value}{fit:α->Prop}{may:α->Bool}{f:FuncId}(h:∀x,fit x->∀B H,BM Tryz.prog 100 B f [v x] H (.returned (.bool (may x))) H):FY Tryz.prog 100 f (sL1 (MMb v fit may)):=by
 intro args K hh
 unfold sL1 at hh
 split at hh<;>try exact hh.elim
 obtain⟨y,rfl,hy,hA,hE⟩:=hh
 refine⟨_,h y hy,?_⟩
 cases hm:may y with
 |true=>exact hA hm
 |false=>exact hE hm
def AXI:MOl:=fun a K=>∃x:A9,a=F8 x/\okP x/\K (ATK x)
theorem AYl:FY Tryz.prog 100 53 (sOl AXI):=by
 intro args K h
 unfold sOl at h
 split at h<;>try exact h.elim
 obtain⟨x,rfl,hx,hK⟩:=h
 exact⟨_,fun B H=>AXU hx.a0 B H,hK⟩
def AXJ:MRm:=⟨AXI,AD4 F8 okP Eq,MMb OI KQ JX,MMb K6 NI I5,MMb K9 JF IG,MMb K5 JD IB,MMb K4 JC H9,MMb K7 JE IC,MMb K8 NJ I6,MMb OJ PL J9⟩
theorem AYk:∀x∈AXv AXJ,FY Tryz.prog 100 x.1 x.2:=fun x hx=>by
 simp only[AXv,List.mem_cons,List.not_mem_nil,or_false]at hx
 rcases hx with rfl|rfl|rfl|rfl|rfl|rfl|rfl|rfl|rfl|rfl
 ·exact AYl
 ·exact APS
 ·exact ATW AUV
 ·exact ATW AUq
 ·exact ATW AUt
 ·exact ATW AUp
 ·exact ATW AUo
 ·exact ATW AUr
 ·exact ATW AUs
 ·exact ATW AUW
theorem rmC{x:A9}(hx:okP x)(hr:rgP x):Is (gRm (real Tryz.prog) MI AXJ x (fun v=>v = .bool (QF x))):=by
 refine⟨?_⟩
 rw[AXp]
 have yes:QF x=true->(Value.bool true) = .bool (QF x):=fun h=>by rw[h]
 have no:¬(QF x=true)->(Value.bool false) = .bool (QF x):=fun h=>by
  cases hm:QF x with
  |true=>exact absurd hm h
  |false=>rfl
 have hi:=AWR hr
 refine N7 (fun h1=>SL (d:=46) (fun h2=>⟨x,rfl,hx,x,ATK x,rfl,rfl,hx,AWS hx,fun hs=>⟨rfl,rfl,AUN x,rfl,(by show 5<big;unfold big;omega),?_⟩,fun hs=>no (fun h=>hs (hi.1 h).2.1)⟩) (fun h2=>no (fun h=>absurd (hi.1 h).1.2 (by omega)))) (fun h1=>no (fun h=>h1 (by have:=(hi.1 h).1.1;omega)))
 cases hf:(AUN x).all okI with
 |false=>exact no (fun h=>by have:=(hi.1 h).2.2.1;rw[hf]at this;cases this)
 |true=>
  refine BI x.a10.length (AQ _ _) (SL (d:=128) (fun h3=>?_) (fun h3=>no (fun h=>absurd (hi.1 h).2.2.2.1 (by omega))))
  refine⟨x.n,rfl,hx.n.1,fun g0=>?_,fun g=>no (fun h=>by have:=(hi.1 h).2.2.2.2.1;rw[g]at this;cases this)⟩
  refine⟨x.f,rfl,hx.f.1,fun g1=>?_,fun g=>no (fun h=>by have:=(hi.1 h).2.2.2.2.2.1;rw[g]at this;cases this)⟩
  refine⟨x.t,rfl,hx.t.1,fun g2=>?_,fun g=>no (fun h=>by have:=(hi.1 h).2.2.2.2.2.2.1;rw[g]at this;cases this)⟩
  refine⟨x.e,rfl,hx.e.1,fun g3=>?_,fun g=>no (fun h=>by have:=(hi.1 h).2.2.2.2.2.2.2.1;rw[g]at this;cases this)⟩
  refine⟨x.b,rfl,hx.b.1,fun g4=>?_,fun g=>no (fun h=>by have:=(hi.1 h).2.2.2.2.2.2.2.2.1;rw[g]at this;cases this)⟩
  refine⟨x.g,rfl,hx.g.1,fun g5=>?_,fun g=>no (fun h=>by have:=(hi.1 h).2.2.2.2.2.2.2.2.2.1;rw[g]at this;cases this)⟩
  refine⟨x.m,rfl,hx.m.1,fun g6=>?_,fun g=>no (fun h=>by have:=(hi.1 h).2.2.2.2.2.2.2.2.2.2.1;rw[g]at this;cases this)⟩
  refine⟨x.r,rfl,hx.r.1,fun g7=>?_,fun g=>no (fun h=>by have:=(hi.1 h).2.2.2.2.2.2.2.2.2.2.2;rw[g]at this;cases this)⟩
  exact yes (hi.2 ⟨⟨by omega,h2⟩,hs,hf,h3,g0,g1,g2,g3,g4,g5,g6,g7⟩)
theorem AX2{x:A9}(hx:okP x)(hr:rgP x)(B:Base)(H:Heap):BM Tryz.prog 100 B 29 [F8 x] H (.returned (.bool (QF x))) H:=
 kQ okp (M3 (fun x hx=>by simp only[List.mem_singleton]at hx;subst hx;exact AVf) AYk) AZ rfl (rmC hx hr) B H
def dH(x:A9)(ts:List Nat):List At:=ts.flatMap fun t=>QW t (J5 x t)
theorem eO(f:Nat->List UInt8):∀n j,CR f (n+1) j=CR f n j++QW (j+n+1) (f (j+n+1))
 | 0,j=>by simp[CR]
 |n+1,j=>by
  rw[CR,eO f n (j+1),CR,List.append_assoc]
  rw[show j+1+n+1=j+(n+1)+1 by omega]
theorem AV9{x:A9}(h:∀t,hasB x.a0 t=false->J5 x t=[]):∀n,dH x (YL x.a0 n)=CR (J5 x) n 0
 | 0=>rfl
 |n+1=>by
  rw[eO,Nat.zero_add,←AV9 h n,YL]
  unfold dH
  rw[List.flatMap_append]
  cases hb:hasB x.a0 (n+1)with
  |true=>simp
  |false=>simp[QW,h (n+1) hb]
theorem AWI{x:A9}(h:QF x=true):dH x (YL x.a0 17)=JV x:=AV9 (fun t hb=>APt (AHI h) t hb) 17
theorem AXj{x:A9}{ts:List Nat}(h:∀t∈ts,1<=t/\t<=17):∀a∈dH x ts,a.t<256:=fun a ha=>by
 unfold dH at ha
 obtain⟨t,ht,h2⟩:=List.mem_flatMap.1 ha
 unfold QW at h2
 split at h2
 ·cases h2
 ·simp only[List.mem_singleton]at h2;subst h2
  have:=h t ht
  show t<256
  omega
theorem AVF(x:A9):∀ts:List Nat,(dH x ts).length<=ts.length
 | []=>Nat.le_refl 0
 |t::ts=>by
  have h1:(QW t (J5 x t)).length<=1:=by unfold QW;split<;>simp
  have h2:=AVF x ts
  show(QW t (J5 x t)++dH x ts).length<=ts.length+1
  rw[List.length_append];omega
def MRe:MSt:=fun k ob K=>∃l:List At,(∀a∈l,a.t<256)/\k=l.length/\ob=mo (BS l) 75 2/\K (bytesOf (encS l)) (JB 0 l:Int)
theorem AXc(l:List At)(hl:∀a∈l,a.t<256)(B:Base)(H:Heap):BM Tryz.prog 100 B 26 [dsl (QD l)] H (.returned (ADL l)) H:=GL okp DC (lp1 ATl) rfl rfl (AS8 l hl) B H
theorem AYg:JU Tryz.prog 100 26 (ND MRe):=by
 intro args H K h
 unfold ND at h
 split at h<;>try exact h.elim
 rename_i t b k k'
 split at h<;>try exact h.elim
 rename_i e1
 obtain rfl:=Nat.eq_of_beq_eq_true e1
 obtain⟨rfl,l,hl,rfl,hob,hK⟩:=h
 refine⟨_,H,fun B=>?_,hK⟩
 cases l with
 |nil=>exact PS (.cons .emptyMD .nil) (AXc [] hl B H)
 |cons a l=>
  refine PS (.cons (.unmark (by simp)) .nil) ?_
  exact fD (pre:=[]) (post:=[]) (fun B H=>AXc (a::l) hl B H) hob (ACZ (a::l)) (BJ (a::l)) (by omega) (by simp[QD]) (Nat.le_refl _) rfl rfl rfl B
abbrev MVa:=Value->Int->(ByteArray->Prop)->Prop
def sVa(M:MVa):Lv->(Value->Prop)->Prop
 | [a,.int .u8 t],K=>M a t fun s=>K (.string s)
 |_,_=>False
abbrev LRe:=Code->Nat->Lv->Lo->(Nat->Option AA->Prop)->Prop
def AXe(L:LRe):LpS:=lpS [1,4] fun c n AB obs K=>L c n AB obs fun k ob=>K (.exit 0) [pA 100,mkS 101 k] (obs++[ob])
def eT5:Value := .tuple ⟨[.string (bytesOf []),.int .i64 5]⟩
def gRe(N:Nd)(MM:ML1)(MH:MHs)(MS:MSt)(MHe:MHd)(L:LRe)(x:A9)(K:Value->Prop):Prop:=wpe Tryz.prog N (AP fF Zp [(26,ND MS)] [(6,(59,([1,4,5,6],AXe L)))] [(29,sL1 MM),(33,sHs MH),(27,sHd MHe)] []) 300 (.call 28 [F8 x] h0) (J6 K)
theorem AXo(N:Nd)(MM:ML1)(MH:MHs)(MS:MSt)(MHe:MHd)(L:LRe)(x:A9)(K:Value->Prop):gRe N MM MH MS MHe L x K=MM (F8 x) (MH (x.a0:Int) fun rs=>L (AJ Tryz.prog 28 6) 59 [pA 100,.slice none 0 0,dsl rs,.int .i64 0] [some (cM x)] fun k ob=>k=k/\MS k ob fun s e=>N.cmp .neq .i64 e .i64 0 (K eT5) (N.slen s fun n=>N.ari .add .i64 5 .i64 n fun w=>N.cmp .gtr .i64 w .i64 16384 (K eT5)
 (MHe (x.a0:Int) (x.a1:Int) fun h=>N.cat h s fun r=>K (ABd r 0)))) (K (.tuple ⟨[.string (bytesOf []),.int .i64 3]⟩)):=by kernel_rfl
def AXO(N:Nd)(MV:MVa)(x:A9)(k:Nat)(ob:Option AA)(rs:Lv)(i:Int)(back:Bk)(out:Ot):Prop:=
 wpe Tryz.prog N (AP fF Zp [] [] [(52,sVa MV)] []) 300 (.code false (AJ Tryz.prog 28 6) (CX 100 59 [1,4,5,6] [] ([pA 100,mkS 101 k,dsl rs,.int .i64 i],[some (cM x),ob]))) (A7 100 [1,4,5,6] [1,4] 59 [] back out)
theorem AWM(N:Nd)(MV:MVa)(x:A9)(k:Nat)(ob:Option AA)(rs:Lv)(i:Int)(back:Bk)(out:Ot):AXO N MV x k ob rs i back out=N.dlen rs fun n=>N.cmp .lss .i64 i .i64 n (N.dget rs i 1 fun c=>N.rdI .u8 c 0 fun t=>MV (F8 x) t fun s=>N.scmp .neq s (bytesOf []) (N.dget rs i 1 fun c2=>N.rdI .u8 c2 0 fun t2=>N.base true k k ob 75 2 fun vs=>N.appX k vs 1 [.int .u8 t2,.string s] 2 24 fun vs' k'=>N.ari .add .i64 i .i64 1 fun j=>nD/\back [pA 100,.slice (some ⟨103,0,none⟩) k' k',dsl rs,.int .i64 j] [some (cM x),none,some (.cells [.int .u8 t2,.string s] 75 2 false true),some (.cells vs' 75 2 true true)])
 (N.ari .add .i64 i .i64 1 fun j=>nD/\back [pA 100,mkS 101 k,dsl rs,.int .i64 j] [some (cM x),ob])) (nD/\out (.exit 0) [pA 100,mkS 101 k] [some (cM x),ob]):=by kernel_rfl
def AWG:MVa:=fun a b K=>∃(x:A9) (t:Nat),a=F8 x/\b=t/\okR x/\1<=t/\t<=17/\K (bytesOf (J5 x t))
theorem AYn:FY Tryz.prog 100 52 (sVa AWG):=by
 intro args K h
 unfold sVa at h
 split at h<;>try exact h.elim
 obtain⟨x,t,rfl,rfl,hx,h1,h2,hK⟩:=h
 exact⟨_,fun B H=>AXC hx h1 h2 B H,hK⟩
def IRe(x:A9)(ts:List Nat)(i:{i:Nat // i<=ts.length}):Lv×Lo:=([pA 100,mkS 101 (dH x (ts.take i.1)).length,dsl (rowsOf cU8 ts),.int .i64 (i.1:Int)],[some (cM x),mo (BS (dH x (ts.take i.1))) 75 2])
def RRe(x:A9)(ts:List Nat)(e:Exit)(v:Lv)(o:Lo):Prop:=e = .exit 0/\v=[pA 100,mkS 101 (dH x ts).length]/\o=[some (cM x),mo (BS (dH x ts)) 75 2]
theorem AX4(x:A9)(hx:okR x)(ts:List Nat)(hts:ts.length<1000)(h17:∀t∈ts,1<=t/\t<=17)(i:{i:Nat // i<=ts.length}):
  Is (wpe Tryz.prog (real Tryz.prog) (AP fF Zp [] [] [(52,sVa AWG)] []) 300 (.code false (AJ Tryz.prog 28 6) (CX 100 59 [1,4,5,6] [] (IRe x ts i))) (A7 100 [1,4,5,6] [1,4] 59 []
   (fun AB AC=>∃a':{i:Nat // i<=ts.length},ts.length-a'.1<ts.length-i.1/\Wk 100 (100+1) AB AC (IRe x ts a').1 (IRe x ts a').2/\∀e v o,RRe x ts e v o->RRe x ts e v o)
   (fun e AB AC=>∃v o,Wk 100 (100+1) AB AC v o/\RRe x ts e v o))):=by
 refine⟨?_⟩
 obtain⟨i,hi⟩:=i
 show AXO (real Tryz.prog) AWG x (dH x (ts.take i)).length (mo (BS (dH x (ts.take i))) 75 2) (rowsOf cU8 ts) (i:Int) _ _
 rw[AWM]
 have hT:J3=140737488355328:=rfl
 have hal:=AVF x (ts.take i)
 have htl:(ts.take i).length<=ts.length:=by rw[List.length_take];omega
 refine BI ts.length (AQ _ _) (EL (fun hlt=>?_) (fun hge=>?_))
 ·have ha:ts[i]?=some ts[i]:=List.getElem?_eq_getElem hlt
  have hm:=List.getElem_mem hlt
  generalize ts[i]=t at ha hm
  have hms:ts.length-(i+1)<ts.length-i:=by omega
  have hs:dH x (ts.take (i+1))=dH x (ts.take i)++QW t (J5 x t):=by
   rw[List.take_add_one,ha];unfold dH;rw[List.flatMap_append];simp
  obtain⟨h1,h2⟩:=h17 t hm
  generalize hacc:dH x (ts.take i)=acc at hs hal
  refine DK i rfl (CL ha) rfl (CG (z:=(t:Int)) rfl ⟨x,t,rfl,rfl,hx,h1,h2,FM (fun hne=>?_) (fun he=>?_)⟩)
  ·have hne:J5 x t≠[]:=fun h=>hne (by rw[h])
   have h1:QW t (J5 x t)=[⟨t,bytesOf (J5 x t)⟩]:=by unfold QW;rw[if_neg hne]
   rw[h1]at hs
   refine DK i rfl (CL ha) rfl (CG (z:=(t:Int)) rfl (D6 (SF _) (by omega) (FV (by omega) rfl rfl (by omega) (by omega) (BZ (by omega) ⟨rfl,⟨i+1,hlt⟩,hms,?_,fun _ _ _ h=>h⟩))))
   have hcell:BS acc++[.int .u8 (t:Int),.string (bytesOf (J5 x t))]=BS (acc++[⟨t,bytesOf (J5 x t)⟩]):=by rw[V4];rfl
   have hlen:(acc++[(⟨t,bytesOf (J5 x t)⟩:At)]).length=acc.length+1:=by simp
   show Wk 100 (100+1) _ _ ([pA 100]++mkS (100+1) (dH x (ts.take (i+1))).length::[dsl (rowsOf cU8 ts),.int .i64 ((i+1:Nat):Int)]) ([some (cM x)]++[mo (BS (dH x (ts.take (i+1)))) 75 2])
   rw[hs,←hcell,J4 (by simp),hlen]
   exact IU (k0:=1) (j:=3) (va:=[pA 100]) (by omega) rfl (by rw[hcell];exact BJ _) rfl rfl (by omega) rfl (mU rfl rfl)
  ·have he:J5 x t=[]:=by simpa [AV]using he
   have h1:QW t (J5 x t)=[]:=by unfold QW;rw[if_pos he]
   rw[h1,List.append_nil]at hs
   refine BZ (by omega) ⟨rfl,⟨i+1,hlt⟩,hms,?_,fun _ _ _ h=>h⟩
   show Wk 100 (100+1) _ _ [pA 100,mkS 101 (dH x (ts.take (i+1))).length,dsl (rowsOf cU8 ts),.int .i64 ((i+1:Nat):Int)] [some (cM x),mo (BS (dH x (ts.take (i+1)))) 75 2]
   rw[hs];exact Wk.refl _ _ _ _
 ·have e:i=ts.length:=by omega
  subst e
  rw[List.take_length]
  exact⟨rfl,_,_,Wk.refl _ _ _ _,rfl,rfl,rfl⟩
def AXF(x:A9):LRe:=fun c n AB obs A=>∃ts:List Nat,ts.length<1000/\(∀t∈ts,1<=t/\t<=17)/\c=AJ Tryz.prog 28 6/\n=59/\AB=[pA 100,.slice none 0 0,dsl (rowsOf cU8 ts),.int .i64 (0:Int)]/\obs=[some (cM x)]/\A (dH x ts).length (mo (BS (dH x ts)) 75 2)
theorem AYb(x:A9)(hx:okR x):BH Tryz.prog 100 [1,4,5,6] (AXe (AXF x)):=by
 show BH Tryz.prog 100 [1,4,5,6] (lpS [1,4] _)
 refine FQ okp (W:=AP fF Zp [] [] [(52,sVa AWG)] []) (EY (pu1 AYn)) AZ ?_
 rintro c n AB obs K ⟨ts,hts,h17,hc,hn,hv,ho,hA⟩
 subst hc;subst hn;subst hv;subst ho
 refine⟨{i:Nat // i<=ts.length},1,300,fun a=>ts.length-a.1,IRe x ts,fun _ e v o=>RRe x ts e v o,⟨0,Nat.zero_le _⟩,rfl,IP (va:=[pA 100]),?_,AX4 x hx ts hts h17⟩
 rintro e v o ⟨rfl,rfl,rfl⟩
 exact hA
theorem AUM:∀ {l:List At} {last:Nat},JB last l=0->(EW l).length<=l.length*65538
 | [],_,_=>Nat.le_refl 0
 |a::l,last,h=>by
  simp only[JB]at h
  split at h
  ·omega
  ·split at h
   ·omega
   ·rename_i h2
    have ih:=AUM h
    have e:(EW (a::l)).length=3+a.len+(EW l).length:=by
     show((UInt8.ofNat a.t::(two a.len++a.v.data.toList))++EW l).length=_
     simp[two,At.len];omega
    rw[e,List.length_cons];omega
def AXi:ML1:=fun a A E=>∃x:A9,a=F8 x/\okP x/\rgP x/\(QF x=true->A)/\(QF x=false->E)
theorem AXb:FY Tryz.prog 100 29 (sL1 AXi):=by
 intro args K h
 unfold sL1 at h
 split at h<;>try exact h.elim
 obtain⟨x,rfl,hx,hr,hA,hE⟩:=h
 refine⟨.bool (QF x),AX2 hx hr,?_⟩
 cases hb:QF x with
 |true=>exact hA hb
 |false=>exact hE hb
theorem reC{x:A9}(hx:okR x)(hr:rgP x):Is (gRe (real Tryz.prog) AXi AQ8 MRe MHr (AXF x) x (fun v=>v=ABd (bytesOf (J7 x)) (P9 x))):=by
 refine⟨?_⟩
 rw[AXo]
 refine⟨x,rfl,hx.p,hr,fun hm=>?_,fun hm=>?_⟩
 ·refine⟨x.a0,rfl,hx.p.a0,YL x.a0 17,Nat.lt_of_le_of_lt (AHj _ _) (by decide),AUl _,rfl,rfl,rfl,rfl,rfl,dH x (YL x.a0 17),AXj (AUl _),rfl,rfl,?_⟩
  rw[AWI hm]
  refine MP (d:=0) (fun he=>?_) (fun he=>?_)
  ·have h5:P9 x=5:=by unfold P9;rw[if_pos hm,if_neg he]
   have hb:J7 x=[]:=by unfold J7;rw[h5];rfl
   rw[h5,hb];rfl
  ·have hl2:(encS (JV x)).length<=1099511627776:=by
    have h1:=AUM he
    have h2:(JV x).length<=17:=AGv (J5 x) 17 0
    unfold encS;rw[if_pos he];omega
   refine FC (YN (by rw[AV];omega) (by rw[AV];omega) (dB (fun h=>?_) (fun h=>?_)))
   ·rw[AV]at h
    have h5:P9 x=5:=by unfold P9;rw[if_pos hm,if_pos he,if_pos (by omega)]
    have hb:J7 x=[]:=by unfold J7;rw[h5];rfl
    rw[h5,hb];rfl
   ·rw[AV]at h
    have h0:P9 x=0:=by unfold P9;rw[if_pos hm,if_pos he,if_neg (by omega)]
    refine⟨x.a0,x.a1,rfl,rfl,hr.a0,hr.a1,AAS (by simp only[AV];show(hdB x.a0 x.a1).length+_<=_;show 5+_<=_;omega) ?_⟩
    rw[h0,ANx h0]
    simp only[AV];rfl
 ·have h3:P9 x=3:=AL4.2 hm
  have hb:J7 x=[]:=by unfold J7;rw[h3];rfl
  rw[h3,hb];rfl
theorem AX0{x:A9}(hx:okR x)(hr:rgP x)(B:Base)(H:Heap):BM Tryz.prog 100 B 28 [F8 x] H (.returned (ABd (bytesOf (J7 x)) (P9 x))) H:=
 kQ okp (M3 (fun x hx=>by simp only[List.mem_singleton]at hx;subst hx;exact AYg) (AYh AXb AXw AYj)) (lp1 (AYb x hx)) rfl (reC hx hr) B H
end
end Go.Proofs.Ob
