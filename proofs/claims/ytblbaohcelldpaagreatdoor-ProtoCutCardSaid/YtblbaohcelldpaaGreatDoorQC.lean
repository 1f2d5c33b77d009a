/- . -/
import Derived.Test.YtblbaohcelldpaaGreatDoorQ2
import Derived.Test.YtblbaohcelldpaaGreatDoorQ4
set_option linter.all false
set_option maxRecDepth 100000
namespace Go.Tlv
open Go Go.Abs
structure Cd{β:Type}(get:List UInt8->Option β)(put:β->List UInt8)(good:β->Prop):Prop where
 back:∀a,good a->get (put a)=some a
 ok:∀s a,get s=some a->good a/\put a=s
theorem Cd.inj{β:Type}{get:List UInt8->Option β}{put:β->List UInt8}{good:β->Prop}(C:Cd get put good){a b:β}(ha:good a)(hb:good b)(h:put a=put b):a=b:=by
 have h1:=C.back a ha
 rw[h,C.back b hb]at h1
 exact(Option.some.inj h1).symm
theorem cdI:Cd (BD 2147483647) FN (gdI 2147483647):=⟨(BP 2147483647 (by decide)).back,(BP 2147483647 (by decide)).ok⟩
theorem cdN:Cd (ET 18446744073709551615) nA (gdN 18446744073709551615):=⟨(OU 18446744073709551615 (by decide)).back,(OU 18446744073709551615 (by decide)).ok⟩
def getD(s:List UInt8):Option ByteArray:=some (bytesOf s)
theorem cdD:Cd getD AAh (fun _=>True):=⟨fun a _=>by unfold getD AAh;rw[bytes_eta],fun s a h=>by
 simp only[getD,Option.some.injEq]at h;subst h;exact⟨trivial,rfl⟩⟩
theorem cdW:Cd (F9 JQ 128) (GM BU) (gdL XZ 128) where
  back:=fun l ⟨h1,h2⟩=>by
    have hs:∀s∈l.map BU,s.data.toList.length<=65535:=fun s hs=>by
      obtain⟨a,ha,rfl⟩:=List.mem_map.1 hs
      exact Nat.le_trans (YM.len a (h2 a ha)) (by omega)
    unfold F9 GM EJ
    rw[if_pos (WA hs),show GV (l.map BU)=mQ (l.map BU)from rfl,dM _ 128 0 hs (by simp;exact h1),if_pos rfl]
    exact kJ fun b hb=>YM.back b (h2 b hb)
  ok := fun s l hs=>by
    unfold F9 at hs
    split at hs
    · rename_i h0
      have hd:HY 128 0 s=(0,(HY 128 0 s).2):=Prod.ext h0 rfl
      obtain⟨k1,k2,k3⟩:=bA s.length s 128 0 _ (Nat.le_refl _) hd
      obtain⟨g1,g2⟩:=vI hs
      have g3:=g2 BU fun a b hab=>OC (YM.ok _ _ hab).2
      refine⟨⟨?_,kH (fun a b hab=>(YM.ok _ _ hab).1) hs⟩,?_⟩
      · rw[g1]
        rcases k2 with k2|k2
        · omega
        · rw[k2];simp
      · unfold GM EJ
        rw[g3,if_pos (WA k3)];exact k1
    · cases hs
theorem cdO{α:Type}{step:α->At->Option α}{zero:α}{may:α->Bool}{atts:α->List At}{good:α->Prop}(hm:∀x,good x->may x=true)(hb:∀x,good x->rdE step zero (encS (atts x))=(0,x))(ho:∀s x,rdE step zero s=(0,x)->good x/\encS (atts x)=s):
  Cd (rdO step zero) (fun x=>if may x=true then encS (atts x)else[]) good where
 back:=fun a ha=>by unfold rdO;rw[if_pos (hm a ha),hb a ha];rfl
 ok:=fun s a h=>by
  unfold rdO at h
  split at h
  ·rename_i h0
   simp only[Option.some.injEq]at h
   obtain⟨h1,h2⟩:=ho s a (Prod.ext h0 h)
   exact⟨h1,by rw[if_pos (hm a h1)];exact h2⟩
  ·cases h
theorem AA6:Cd (rdO BQ L8) (fun x=>if JX x=true then encS (GD x)else[]) PD:=cdO (fun _ h=>X0 h) (fun _ h=>vO h) (fun _ _ h=>AFB h)
theorem sV:Cd (rdO CE JK) (fun x=>if I5 x=true then encS (GQ x)else[]) NM:=cdO (fun _ h=>VE h) (fun _ h=>mX h) (fun _ _ h=>ACa h)
theorem tC:Cd (rdO CF JN) (fun x=>if IG x=true then encS (GR x)else[]) NQ:=cdO (fun _ h=>VH h) (fun _ h=>nC h) (fun _ _ h=>ACd h)
theorem sU:Cd (rdO BA JJ) (fun x=>if IB x=true then encS (DL x)else[]) NL:=cdO (fun _ h=>VD h) (fun _ h=>mW h) (fun _ _ h=>AB9 h)
theorem sS:Cd (rdO stepBlock JI) (fun x=>if H9 x=true then encS (I9 x)else[]) NK:=cdO (fun _ h=>VC h) (fun _ h=>mV h) (fun _ _ h=>AB8 h)
theorem sW:Cd (rdO CO JL) (fun x=>if IC x=true then encS (G9 x)else[]) NN:=cdO (fun _ h=>VF h) (fun _ h=>mY h) (fun _ _ h=>ACb h)
theorem sZ:Cd (rdO DF JM) (fun x=>if I6 x=true then encS (IK x)else[]) NP:=cdO (fun _ h=>VG h) (fun _ h=>mZ h) (fun _ _ h=>ACc h)
theorem AA7:Cd (rdO ED L9) (fun x=>if J9 x=true then encS (KF x)else[]) PE:=cdO (fun _ h=>X3 h) (fun _ h=>vP h) (fun _ _ h=>AFC h)
def fld(x:A9)(t:Nat)(s:List UInt8):Option A9:=match t with
 | 1=>(BD 2147483647 s).map fun v=>{x with a2:=v}
 | 2=>(BD 2147483647 s).map fun v=>{x with a3:=v}
 | 3=>(BD 2147483647 s).map fun v=>{x with a4:=v}
 | 4=>(BD 2147483647 s).map fun v=>{x with a5:=v}
 | 5=>(BD 2147483647 s).map fun v=>{x with a6:=v}
 | 6=>(ET 18446744073709551615 s).map fun v=>{x with a7:=v}
 | 7=>(ET 18446744073709551615 s).map fun v=>{x with a8:=v}
 | 8=>(getD s).map fun v=>{x with a9:=v}
 | 9=>(F9 JQ 128 s).map fun v=>{x with a10:=v}
 | 10=>(rdO BQ L8 s).map fun v=>{x with n:=v}
 | 11=>(rdO CE JK s).map fun v=>{x with f:=v}
 | 12=>(rdO CF JN s).map fun v=>{x with t:=v}
 | 13=>(rdO BA JJ s).map fun v=>{x with e:=v}
 | 14=>(rdO stepBlock JI s).map fun v=>{x with b:=v}
 | 15=>(rdO CO JL s).map fun v=>{x with g:=v}
 | 16=>(rdO DF JM s).map fun v=>{x with m:=v}
 | 17=>(rdO ED L9 s).map fun v=>{x with r:=v}
 |_=>none
structure eU(x:A9):Prop where
 a2:(gdI 2147483647) x.a2
 a3:(gdI 2147483647) x.a3
 a4:(gdI 2147483647) x.a4
 a5:(gdI 2147483647) x.a5
 a6:(gdI 2147483647) x.a6
 a7:(gdN 18446744073709551615) x.a7
 a8:(gdN 18446744073709551615) x.a8
 a9:(fun _=>True) x.a9
 a10:(gdL XZ 128) x.a10
 n:(PD) x.n
 f:(NM) x.f
 t:(NQ) x.t
 e:(NL) x.e
 b:(NK) x.b
 g:(NN) x.g
 m:(NP) x.m
 r:(PE) x.r
theorem AL5{x y:A9}{t:Nat}{s:List UInt8}(hx:eU x)(h:fld x t s=some y):eU y/\y.a0=x.a0/\y.a1=x.a1/\(1<=t/\t<=17)/\J5 y t=s/\∀j,j≠t->J5 y j=J5 x j:=by
 unfold fld at h
 split at h
 ·obtain⟨v,hv,rfl⟩:=Option.map_eq_some_iff.1 h
  obtain⟨g1,g2⟩:=cdI.ok _ _ hv
  refine⟨⟨g1,hx.a3,hx.a4,hx.a5,hx.a6,hx.a7,hx.a8,hx.a9,hx.a10,hx.n,hx.f,hx.t,hx.e,hx.b,hx.g,hx.m,hx.r⟩,rfl,rfl,by omega,g2,fun j hj=>?_⟩
  unfold J5;split<;>first|rfl|exact absurd rfl hj
 ·obtain⟨v,hv,rfl⟩:=Option.map_eq_some_iff.1 h
  obtain⟨g1,g2⟩:=cdI.ok _ _ hv
  refine⟨⟨hx.a2,g1,hx.a4,hx.a5,hx.a6,hx.a7,hx.a8,hx.a9,hx.a10,hx.n,hx.f,hx.t,hx.e,hx.b,hx.g,hx.m,hx.r⟩,rfl,rfl,by omega,g2,fun j hj=>?_⟩
  unfold J5;split<;>first|rfl|exact absurd rfl hj
 ·obtain⟨v,hv,rfl⟩:=Option.map_eq_some_iff.1 h
  obtain⟨g1,g2⟩:=cdI.ok _ _ hv
  refine⟨⟨hx.a2,hx.a3,g1,hx.a5,hx.a6,hx.a7,hx.a8,hx.a9,hx.a10,hx.n,hx.f,hx.t,hx.e,hx.b,hx.g,hx.m,hx.r⟩,rfl,rfl,by omega,g2,fun j hj=>?_⟩
  unfold J5;split<;>first|rfl|exact absurd rfl hj
 ·obtain⟨v,hv,rfl⟩:=Option.map_eq_some_iff.1 h
  obtain⟨g1,g2⟩:=cdI.ok _ _ hv
  refine⟨⟨hx.a2,hx.a3,hx.a4,g1,hx.a6,hx.a7,hx.a8,hx.a9,hx.a10,hx.n,hx.f,hx.t,hx.e,hx.b,hx.g,hx.m,hx.r⟩,rfl,rfl,by omega,g2,fun j hj=>?_⟩
  unfold J5;split<;>first|rfl|exact absurd rfl hj
 ·obtain⟨v,hv,rfl⟩:=Option.map_eq_some_iff.1 h
  obtain⟨g1,g2⟩:=cdI.ok _ _ hv
  refine⟨⟨hx.a2,hx.a3,hx.a4,hx.a5,g1,hx.a7,hx.a8,hx.a9,hx.a10,hx.n,hx.f,hx.t,hx.e,hx.b,hx.g,hx.m,hx.r⟩,rfl,rfl,by omega,g2,fun j hj=>?_⟩
  unfold J5;split<;>first|rfl|exact absurd rfl hj
 ·obtain⟨v,hv,rfl⟩:=Option.map_eq_some_iff.1 h
  obtain⟨g1,g2⟩:=cdN.ok _ _ hv
  refine⟨⟨hx.a2,hx.a3,hx.a4,hx.a5,hx.a6,g1,hx.a8,hx.a9,hx.a10,hx.n,hx.f,hx.t,hx.e,hx.b,hx.g,hx.m,hx.r⟩,rfl,rfl,by omega,g2,fun j hj=>?_⟩
  unfold J5;split<;>first|rfl|exact absurd rfl hj
 ·obtain⟨v,hv,rfl⟩:=Option.map_eq_some_iff.1 h
  obtain⟨g1,g2⟩:=cdN.ok _ _ hv
  refine⟨⟨hx.a2,hx.a3,hx.a4,hx.a5,hx.a6,hx.a7,g1,hx.a9,hx.a10,hx.n,hx.f,hx.t,hx.e,hx.b,hx.g,hx.m,hx.r⟩,rfl,rfl,by omega,g2,fun j hj=>?_⟩
  unfold J5;split<;>first|rfl|exact absurd rfl hj
 ·obtain⟨v,hv,rfl⟩:=Option.map_eq_some_iff.1 h
  obtain⟨g1,g2⟩:=cdD.ok _ _ hv
  refine⟨⟨hx.a2,hx.a3,hx.a4,hx.a5,hx.a6,hx.a7,hx.a8,g1,hx.a10,hx.n,hx.f,hx.t,hx.e,hx.b,hx.g,hx.m,hx.r⟩,rfl,rfl,by omega,g2,fun j hj=>?_⟩
  unfold J5;split<;>first|rfl|exact absurd rfl hj
 ·obtain⟨v,hv,rfl⟩:=Option.map_eq_some_iff.1 h
  obtain⟨g1,g2⟩:=cdW.ok _ _ hv
  refine⟨⟨hx.a2,hx.a3,hx.a4,hx.a5,hx.a6,hx.a7,hx.a8,hx.a9,g1,hx.n,hx.f,hx.t,hx.e,hx.b,hx.g,hx.m,hx.r⟩,rfl,rfl,by omega,g2,fun j hj=>?_⟩
  unfold J5;split<;>first|rfl|exact absurd rfl hj
 ·obtain⟨v,hv,rfl⟩:=Option.map_eq_some_iff.1 h
  obtain⟨g1,g2⟩:=AA6.ok _ _ hv
  refine⟨⟨hx.a2,hx.a3,hx.a4,hx.a5,hx.a6,hx.a7,hx.a8,hx.a9,hx.a10,g1,hx.f,hx.t,hx.e,hx.b,hx.g,hx.m,hx.r⟩,rfl,rfl,by omega,g2,fun j hj=>?_⟩
  unfold J5;split<;>first|rfl|exact absurd rfl hj
 ·obtain⟨v,hv,rfl⟩:=Option.map_eq_some_iff.1 h
  obtain⟨g1,g2⟩:=sV.ok _ _ hv
  refine⟨⟨hx.a2,hx.a3,hx.a4,hx.a5,hx.a6,hx.a7,hx.a8,hx.a9,hx.a10,hx.n,g1,hx.t,hx.e,hx.b,hx.g,hx.m,hx.r⟩,rfl,rfl,by omega,g2,fun j hj=>?_⟩
  unfold J5;split<;>first|rfl|exact absurd rfl hj
 ·obtain⟨v,hv,rfl⟩:=Option.map_eq_some_iff.1 h
  obtain⟨g1,g2⟩:=tC.ok _ _ hv
  refine⟨⟨hx.a2,hx.a3,hx.a4,hx.a5,hx.a6,hx.a7,hx.a8,hx.a9,hx.a10,hx.n,hx.f,g1,hx.e,hx.b,hx.g,hx.m,hx.r⟩,rfl,rfl,by omega,g2,fun j hj=>?_⟩
  unfold J5;split<;>first|rfl|exact absurd rfl hj
 ·obtain⟨v,hv,rfl⟩:=Option.map_eq_some_iff.1 h
  obtain⟨g1,g2⟩:=sU.ok _ _ hv
  refine⟨⟨hx.a2,hx.a3,hx.a4,hx.a5,hx.a6,hx.a7,hx.a8,hx.a9,hx.a10,hx.n,hx.f,hx.t,g1,hx.b,hx.g,hx.m,hx.r⟩,rfl,rfl,by omega,g2,fun j hj=>?_⟩
  unfold J5;split<;>first|rfl|exact absurd rfl hj
 ·obtain⟨v,hv,rfl⟩:=Option.map_eq_some_iff.1 h
  obtain⟨g1,g2⟩:=sS.ok _ _ hv
  refine⟨⟨hx.a2,hx.a3,hx.a4,hx.a5,hx.a6,hx.a7,hx.a8,hx.a9,hx.a10,hx.n,hx.f,hx.t,hx.e,g1,hx.g,hx.m,hx.r⟩,rfl,rfl,by omega,g2,fun j hj=>?_⟩
  unfold J5;split<;>first|rfl|exact absurd rfl hj
 ·obtain⟨v,hv,rfl⟩:=Option.map_eq_some_iff.1 h
  obtain⟨g1,g2⟩:=sW.ok _ _ hv
  refine⟨⟨hx.a2,hx.a3,hx.a4,hx.a5,hx.a6,hx.a7,hx.a8,hx.a9,hx.a10,hx.n,hx.f,hx.t,hx.e,hx.b,g1,hx.m,hx.r⟩,rfl,rfl,by omega,g2,fun j hj=>?_⟩
  unfold J5;split<;>first|rfl|exact absurd rfl hj
 ·obtain⟨v,hv,rfl⟩:=Option.map_eq_some_iff.1 h
  obtain⟨g1,g2⟩:=sZ.ok _ _ hv
  refine⟨⟨hx.a2,hx.a3,hx.a4,hx.a5,hx.a6,hx.a7,hx.a8,hx.a9,hx.a10,hx.n,hx.f,hx.t,hx.e,hx.b,hx.g,g1,hx.r⟩,rfl,rfl,by omega,g2,fun j hj=>?_⟩
  unfold J5;split<;>first|rfl|exact absurd rfl hj
 ·obtain⟨v,hv,rfl⟩:=Option.map_eq_some_iff.1 h
  obtain⟨g1,g2⟩:=AA7.ok _ _ hv
  refine⟨⟨hx.a2,hx.a3,hx.a4,hx.a5,hx.a6,hx.a7,hx.a8,hx.a9,hx.a10,hx.n,hx.f,hx.t,hx.e,hx.b,hx.g,hx.m,g1⟩,rfl,rfl,by omega,g2,fun j hj=>?_⟩
  unfold J5;split<;>first|rfl|exact absurd rfl hj
 ·cases h
theorem AGM{x y:A9}(hx:eU x){t:Nat}(h1:1<=t)(h2:t<=17):∃y',fld y t (J5 x t)=some y':=by
 rcases t with _|_|_|_|_|_|_|_|_|_|_|_|_|_|_|_|_|_|t
 ·omega
 ·exact⟨_,congrArg (Option.map _) (cdI.back x.a2 hx.a2)⟩
 ·exact⟨_,congrArg (Option.map _) (cdI.back x.a3 hx.a3)⟩
 ·exact⟨_,congrArg (Option.map _) (cdI.back x.a4 hx.a4)⟩
 ·exact⟨_,congrArg (Option.map _) (cdI.back x.a5 hx.a5)⟩
 ·exact⟨_,congrArg (Option.map _) (cdI.back x.a6 hx.a6)⟩
 ·exact⟨_,congrArg (Option.map _) (cdN.back x.a7 hx.a7)⟩
 ·exact⟨_,congrArg (Option.map _) (cdN.back x.a8 hx.a8)⟩
 ·exact⟨_,rfl⟩
 ·exact⟨_,congrArg (Option.map _) (cdW.back x.a10 hx.a10)⟩
 ·exact⟨_,congrArg (Option.map _) (AA6.back x.n hx.n)⟩
 ·exact⟨_,congrArg (Option.map _) (sV.back x.f hx.f)⟩
 ·exact⟨_,congrArg (Option.map _) (tC.back x.t hx.t)⟩
 ·exact⟨_,congrArg (Option.map _) (sU.back x.e hx.e)⟩
 ·exact⟨_,congrArg (Option.map _) (sS.back x.b hx.b)⟩
 ·exact⟨_,congrArg (Option.map _) (sW.back x.g hx.g)⟩
 ·exact⟨_,congrArg (Option.map _) (sZ.back x.m hx.m)⟩
 ·exact⟨_,congrArg (Option.map _) (AA7.back x.r hx.r)⟩
 ·omega
theorem AKE{x y:A9}(hx:eU x)(hy:eU y)(h0:x.a0=y.a0)(h1:x.a1=y.a1)(h:∀k,1<=k->k<=17->J5 x k=J5 y k):x=y:=by
 have e1:x.a2=y.a2:=cdI.inj hx.a2 hy.a2 (h 1 (by omega) (by omega))
 have e2:x.a3=y.a3:=cdI.inj hx.a3 hy.a3 (h 2 (by omega) (by omega))
 have e3:x.a4=y.a4:=cdI.inj hx.a4 hy.a4 (h 3 (by omega) (by omega))
 have e4:x.a5=y.a5:=cdI.inj hx.a5 hy.a5 (h 4 (by omega) (by omega))
 have e5:x.a6=y.a6:=cdI.inj hx.a6 hy.a6 (h 5 (by omega) (by omega))
 have e6:x.a7=y.a7:=cdN.inj hx.a7 hy.a7 (h 6 (by omega) (by omega))
 have e7:x.a8=y.a8:=cdN.inj hx.a8 hy.a8 (h 7 (by omega) (by omega))
 have e8:x.a9=y.a9:=cdD.inj hx.a9 hy.a9 (h 8 (by omega) (by omega))
 have e9:x.a10=y.a10:=cdW.inj hx.a10 hy.a10 (h 9 (by omega) (by omega))
 have e10:x.n=y.n:=AA6.inj hx.n hy.n (h 10 (by omega) (by omega))
 have e11:x.f=y.f:=sV.inj hx.f hy.f (h 11 (by omega) (by omega))
 have e12:x.t=y.t:=tC.inj hx.t hy.t (h 12 (by omega) (by omega))
 have e13:x.e=y.e:=sU.inj hx.e hy.e (h 13 (by omega) (by omega))
 have e14:x.b=y.b:=sS.inj hx.b hy.b (h 14 (by omega) (by omega))
 have e15:x.g=y.g:=sW.inj hx.g hy.g (h 15 (by omega) (by omega))
 have e16:x.m=y.m:=sZ.inj hx.m hy.m (h 16 (by omega) (by omega))
 have e17:x.r=y.r:=AA7.inj hx.r hy.r (h 17 (by omega) (by omega))
 cases x;cases y
 simp_all
def LC(kd xid:Nat):A9:={PZ with a0:=kd,a1:=xid}
theorem dQ(kd xid:Nat)(k:Nat):J5 (LC kd xid) k=[]:=by
 unfold J5
 split
 ·exact DR
 ·exact DR
 ·exact DR
 ·exact DR
 ·exact DR
 ·exact DR
 ·exact DR
 ·exact rfl
 ·exact rfl
 ·show(if JX L8=true then encS (GD L8)else[])=[]
  rw[if_pos (X0 bQ.z),VY];exact bQ.put_zero
 ·show(if I5 JK=true then encS (GQ JK)else[])=[]
  rw[if_pos (VE XD.z),UC];exact XD.put_zero
 ·show(if IG JN=true then encS (GR JN)else[])=[]
  rw[if_pos (VH XG.z),UF];exact XG.put_zero
 ·show(if IB JJ=true then encS (DL JJ)else[])=[]
  rw[if_pos (VD XC.z),UB];exact XC.put_zero
 ·show(if H9 JI=true then encS (I9 JI)else[])=[]
  rw[if_pos (VC XB.z),UA];exact XB.put_zero
 ·show(if IC JL=true then encS (G9 JL)else[])=[]
  rw[if_pos (VF XE.z),UD];exact XE.put_zero
 ·show(if I6 JM=true then encS (IK JM)else[])=[]
  rw[if_pos (VG XF.z),UE];exact XF.put_zero
 ·show(if J9 L9=true then encS (KF L9)else[])=[]
  rw[if_pos (X3 bR.z),VZ];exact bR.put_zero
 ·rfl
theorem ABL(kd xid:Nat):eU (LC kd xid) where
 a2:=⟨Int.le_refl 0,by show(0:Int)<=2147483647;omega⟩
 a3:=⟨Int.le_refl 0,by show(0:Int)<=2147483647;omega⟩
 a4:=⟨Int.le_refl 0,by show(0:Int)<=2147483647;omega⟩
 a5:=⟨Int.le_refl 0,by show(0:Int)<=2147483647;omega⟩
 a6:=⟨Int.le_refl 0,by show(0:Int)<=2147483647;omega⟩
 a7:=Nat.zero_le _
 a8:=Nat.zero_le _
 a9:=trivial
 a10:=⟨Nat.zero_le _,fun a h=>by cases h⟩
 n:=bQ.z
 f:=XD.z
 t:=XG.z
 e:=XC.z
 b:=XB.z
 g:=XE.z
 m:=XF.z
 r:=bR.z
def JR(kd:Nat)(x:A9)(a:At):Option A9:=
 if a.v.data.toList.length<=65535 then(if hasB kd a.t=true then fld x a.t a.v.data.toList else if a.v.data.toList=[]/\1<=a.t/\a.t<=17 then some x else none)else none
structure zF(kd xid:Nat)(x:A9):Prop where
 k:x.a0=kd
 q:x.a1=xid
 f:eU x
 no:∀t,hasB kd t=false->J5 x t=[]
 len:∀t,(J5 x t).length<=65535
theorem AKS (kd xid:Nat):Sch 17 (JR kd) J5 (zF kd xid) (LC kd xid) where
  no := fun y a h=>by
    unfold JR
    split
    · split
      · cases hf:fld y a.t a.v.data.toList with
        |none=>rfl
        |some z=>
          unfold fld at hf
          split at hf<;>first|omega|cases hf
      · rw[if_neg (by omega)]
    · rfl
  is := fun y a y' hy h=>by
    unfold JR at h
    split at h
    · rename_i hl
      split at h
      · rename_i hh
        obtain⟨g1,g2,g3,_,g4,g5⟩:=AL5 hy.f h
        refine⟨⟨g2.trans hy.k,g3.trans hy.q,g1,fun t ht=>?_,fun t=>?_⟩,g4,g5⟩
        · by_cases e:t=a.t
          · rw[e,hh]at ht;cases ht
          · rw[g5 t e];exact hy.no t ht
        · by_cases e:t=a.t
          · rw[e,g4];exact hl
          · rw[g5 t e];exact hy.len t
      · rename_i hh
        split at h
        · rename_i h0
          simp only[Option.some.injEq]at h;subst h
          have hb:hasB kd a.t=false:=by
            cases hb:hasB kd a.t with
            |false=>rfl
            |true=>exact absurd hb hh
          exact⟨hy,(hy.no _ hb).trans h0.1.symm,fun _ _=>rfl⟩
        · cases h
    · cases h
  back:=fun x y k hx h1 h2=>by
    unfold JR
    rw[if_pos (show(bytesOf (J5 x k)).data.toList.length<=65535 from hx.len k)]
    cases hb:hasB kd k with
    |true=>
      rw[if_pos rfl]
      exact AGM hx.f h1 h2
    |false=>
      rw[if_neg (by simp),if_pos ⟨hx.no k hb,h1,h2⟩]
      exact⟨y,rfl⟩
  inj:=fun x y hx hy h=>AKE hx.f hy.f (hx.k.trans hy.k.symm) (hx.q.trans hy.q.symm) h
  z:=⟨rfl,rfl,ABL kd xid,fun t _=>dQ kd xid t,fun t=>by rw[dQ];exact Nat.zero_le _⟩
  z0:=fun k=>dQ kd xid k
  len:=fun x k hx=>hx.len k
  m:=by omega
structure rgP(x:A9):Prop where
 a0:x.a0<256
 a1:x.a1<4294967296
 a7:x.a7<18446744073709551616
 a8:x.a8<18446744073709551616
 i2 : -9223372036854775808<=x.a2/\x.a2<=9223372036854775807
 i3 : -9223372036854775808<=x.a3/\x.a3<=9223372036854775807
 i4 : -9223372036854775808<=x.a4/\x.a4<=9223372036854775807
 i5 : -9223372036854775808<=x.a5/\x.a5<=9223372036854775807
 i6 : -9223372036854775808<=x.a6/\x.a6<=9223372036854775807
 w:∀y∈x.a10,L6 y
 m:APW x
theorem bV{n:Int}(h1 : -9223372036854775808<=n/\n<=9223372036854775807)(h:A8 n<=2147483647):gdI 2147483647 n:=by
 unfold A8 at h
 unfold gdI
 omega
theorem AHb{x:A9}(h:allM x=true)(hr:rgP x):eU x:=by
 have is:∀t,1<=t->t<=17->isM x t=true:=fun t h1 h2=>by
  have:=U6.1 h t h1 h2
  unfold goM at this
  simp only[Bool.and_eq_true]at this
  exact this.1
 have r:=hr.m
 exact {
  a2:=bV hr.i2 (of_decide_eq_true (is 1 (by omega) (by omega)))
  a3:=bV hr.i3 (of_decide_eq_true (is 2 (by omega) (by omega)))
  a4:=bV hr.i4 (of_decide_eq_true (is 3 (by omega) (by omega)))
  a5:=bV hr.i5 (of_decide_eq_true (is 4 (by omega) (by omega)))
  a6:=bV hr.i6 (of_decide_eq_true (is 5 (by omega) (by omega)))
  a7:=by have:=hr.a7;show x.a7<=18446744073709551615;omega
  a8:=by have:=hr.a8;show x.a8<=18446744073709551615;omega
  a9:=trivial
  a10:=⟨of_decide_eq_true (is 9 (by omega) (by omega)),fun a ha=>by have:=hr.w a ha;unfold L6 at this;show a<=18446744073709551615;omega⟩
  n:=zG (is 10 (by omega) (by omega)) r.1
  f:=u6 (is 11 (by omega) (by omega)) r.2.1
  t:=vD (is 12 (by omega) (by omega)) r.2.2.1
  e:=uZ (is 13 (by omega) (by omega)) r.2.2.2.1
  b:=uY (is 14 (by omega) (by omega)) r.2.2.2.2.1
  g:=u7 (is 15 (by omega) (by omega)) r.2.2.2.2.2.1
  m:=vC (is 16 (by omega) (by omega)) r.2.2.2.2.2.2.1
  r:=zH (is 17 (by omega) (by omega)) r.2.2.2.2.2.2.2
 }
theorem ARL(k:Nat):hasB k 0=false:=by
 have h:∀k:Fin 47,hasB k.1 0=false:=by decide
 by_cases hk:k<47
 ·exact h ⟨k,hk⟩
 ·unfold hasB;rw[decide_eq_false hk];rfl
theorem AAf{x:A9}{t:Nat}(h:t=0∨17<t):J5 x t=[]:=by
 unfold J5
 split<;>first|rfl|omega
theorem APt{x:A9}(h:allM x=true)(t:Nat)(hb:hasB x.a0 t=false):J5 x t=[]:=by
 by_cases ht:1<=t/\t<=17
 ·have:=U6.1 h t ht.1 ht.2
  unfold goM at this
  rw[hb,Bool.or_false,Bool.and_eq_true]at this
  simpa using this.2
 ·exact AAf (by omega)
theorem AGI{last:Nat}:∀ {l:List At},JB last l=0->∀a∈l,a.len<=65535:=by
 intro l
 induction l generalizing last with
 |nil=>intro _ a ha;cases ha
 |cons b l ih=>
  intro h a ha
  simp only[JB]at h
  split at h
  ·cases h
  ·split at h
   ·cases h
   ·rcases List.mem_cons.1 ha with rfl|ha
    ·omega
    ·exact ih h a ha
theorem jF{f:Nat->List UInt8}{k:Nat}(hk:f k≠[]):∀(n j:Nat),j<k->k<=j+n->(⟨k,bytesOf (f k)⟩:At)∈CR f n j
 | 0,j,h1,h2=>by omega
 |n+1,j,h1,h2=>by
  rw[CR,List.mem_append]
  by_cases e:k=j+1
  ·left;rw[←e];unfold QW;rw[if_neg hk];exact List.mem_singleton.2 rfl
  ·right;exact jF hk n (j+1) (by omega) (by omega)
theorem AHc{x:A9}(h:allM x=true)(hr:rgP x)(he:JB 0 (JV x)=0):zF x.a0 x.a1 x where
 k:=rfl
 q:=rfl
 f:=AHb h hr
 no:=APt h
 len:=fun t=>by
  by_cases e:J5 x t=[]
  ·rw[e];exact Nat.zero_le _
  ·have ht:1<=t/\t<=17:=by
    refine Classical.byContradiction fun hc=>e (AAf (by omega))
   exact AGI he _ (jF e 17 0 (by omega) (by omega))
def AJo(x:A9):List UInt8:=[UInt8.ofNat x.a0,UInt8.ofNat (x.a1 / 16777216 % 256),UInt8.ofNat (x.a1 / 65536 % 256),UInt8.ofNat (x.a1 / 256 % 256),UInt8.ofNat (x.a1 % 256)]
def P9(x:A9):Nat:=if QF x=true then(if JB 0 (JV x)=0 then(if 16379<(encS (JV x)).length then 5 else 0)else 5)else 3
def J7(x:A9):List UInt8:=if P9 x=0 then AJo x++encS (JV x)else[]
theorem AL4{x:A9}:P9 x=3↔QF x=false:=by
 unfold P9
 cases h:QF x with
 |false=>simp
 |true=>
  rw[if_pos rfl]
  split
  ·split<;>simp
  ·simp
theorem xD{x:A9}(h:P9 x=0):QF x=true/\JB 0 (JV x)=0/\(encS (JV x)).length<=16379:=by
 unfold P9 at h
 split at h
 ·rename_i h1
  split at h
  ·rename_i h2
   split at h
   ·cases h
   ·exact⟨h1,h2,by omega⟩
  ·cases h
 ·cases h
theorem AHI{x:A9}(h:QF x=true):allM x=true:=by
 unfold QF at h;simp only[Bool.and_eq_true]at h;exact h.2
theorem AJ5{x:A9}(h:P9 x=0)(hr:rgP x):zF x.a0 x.a1 x:=let ⟨h1,h2,_⟩:=xD h;AHc (AHI h1) hr h2
structure lnP(x:A9):Prop where
 w:x.a10.length<=140737488355328
 n:x.n.arms.length<=140737488355328
 t:x.t.keys.length<=140737488355328
 e:x.e.args.length<=140737488355328
 b:x.b.code.length<=140737488355328
 g:x.g.bks.length<=140737488355328
end Go.Tlv
namespace Go.Proofs.Ob
open Go Go.Abs Go.Tlv
noncomputable section
abbrev MAs:=Value->(Lv->Prop)->Prop->Prop
def sAs(M:MAs):Lv->(Value->Prop)->Prop
 | [a],K=>M a (fun rs=>K (.tuple ⟨[dsl rs,.bool true]⟩)) (K noV)
 |_,_=>False
abbrev MEn:=Lv->(ByteArray->Int->Prop)->Prop
def ANf(M:MEn):Lv->(Value->Prop)->Prop
 | [.iface t (.agg ⟨rs⟩)],K=>match Nat.beq t mkD with
  |true=>M rs fun s e=>K (.tuple ⟨[.string s,.int .i64 e]⟩)
  |false=>False
 |_,_=>False
def ABd(s:ByteArray)(e:Int):Value := .tuple ⟨[.string s,.int .i64 e]⟩
def AOO(N:Nd)(M:MAs)(ME:MEn)(x:A9)(K:Value->Prop):Prop:=wpe Tryz.prog N (AP Z0 Zp [] [] [(35,sAs M),(36,ANf ME)] []) 300 (.call 16 [F8 x] h0) (J6 K)
theorem AJS(N:Nd)(M:MAs)(ME:MEn)(x:A9)(K:Value->Prop):AOO N M ME x K=M (F8 x) (fun rs=>ME rs fun s e=>N.cmp .neq .i64 e .i64 0 (K (ABd (bytesOf []) 5)) (N.slen s fun n=>N.ari .add .i64 5 .i64 n fun z=>N.cmp .gtr .i64 z .i64 16384 (K (ABd (bytesOf []) 5))
 (N.ari .shr .u32 (x.a1:Int) .u64 24 fun z1=>N.conv 27 5 .u32 z1 .u8 fun b1=>N.ari .shr .u32 (x.a1:Int) .u64 16 fun z2=>N.conv 27 5 .u32 z2 .u8 fun b2=>N.ari .shr .u32 (x.a1:Int) .u64 8 fun z3=>N.conv 27 5 .u32 z3 .u8 fun b3=>N.conv 27 5 .u32 (x.a1:Int) .u8 fun b4=>N.str [(x.a0:Int),b1,b2,b3,b4] fun h=>N.cat h s fun r=>K (ABd r 0)))) (K (ABd (bytesOf []) 3)):=by kernel_rfl
def ANJ:MAs:=fun a A E=>∃x:A9,a=F8 x/\okP x/\(QF x=true->A ((JV x).map AAs))/\(QF x=false->E)
theorem AQP:FY Tryz.prog 100 35 (sAs ANJ):=by
 intro args K h
 unfold sAs at h
 split at h<;>try exact h.elim
 obtain⟨x,rfl,hx,hA,hE⟩:=h
 refine⟨_,ARb hx,?_⟩
 unfold sK
 cases hm:QF x with
 |true=>rw[if_pos rfl];exact hA hm
 |false=>rw[if_neg (by simp)];exact hE hm
def AOc:MEn:=fun rs K=>∃l:List At,rs=l.map AAs/\(∀a∈l,a.t<256)/\K (bytesOf (encS l)) (JB 0 l:Int)
theorem ASs:FY Tryz.prog 100 36 (ANf AOc):=by
 intro args K h
 unfold ANf at h
 split at h<;>try exact h.elim
 rename_i t rs
 split at h<;>try exact h.elim
 rename_i ht
 obtain rfl:=Nat.eq_of_beq_eq_true ht
 obtain⟨l,rfl,hl,hK⟩:=h
 exact⟨_,tN l hl,hK⟩
theorem ABY{m t:Nat}{K:Int->Prop}(hk:K ((m / 2 ^ (min t 32):Nat):Int)):(real Tryz.prog).ari .shr .u32 (m:Int) .u64 (t:Int) K:=by
 refine⟨((m / 2 ^ (min t 32):Nat):Int),?_,hk⟩
 have e:((m:Int)).fdiv (2 ^ (min (t:Int).toNat IntKind.u32.bits))=((m / 2 ^ (min t 32):Nat):Int):=by
  rw[Int.toNat_natCast,Int.fdiv_eq_ediv_of_nonneg _ (Int.pow_nonneg (by omega))]
  show(m:Int) / 2 ^ (min t 32)=_
  rw[Int.natCast_ediv,Int.natCast_pow];rfl
 have h0:(0:Int)<=(t:Int):=by omega
 simp only[H8,e,decide_eq_true h0]
theorem t27:Tryz.prog.underlying 27=some (.int .u32):=by kernel_rfl
theorem ACS(x:A9):∀a∈JV x,a.t<256:=fun a ha=>by have:=aG 17 0 a ha;omega
theorem ARv{x:A9}(hx:okP x):Is (AOO (real Tryz.prog) ANJ AOc x (fun v=>v=ABd (bytesOf (J7 x)) (P9 x))):=by
 refine⟨?_⟩
 rw[AJS]
 refine⟨x,rfl,hx,fun hm=>⟨JV x,rfl,ACS x,MH (d:=0) (fun h=>?_) (fun h=>FC (YN (by omega) ?_ (dB (fun h2=>?_) (fun h2=>?_))))⟩,fun hm=>?_⟩
 ·have e:P9 x=5:=by unfold P9;rw[if_pos hm,if_neg h]
  unfold J7;rw[e];rfl
 ·have hb:(encS (JV x)).length<=20000000:=by
   unfold encS
   rw[if_pos h]
   have:=jG (JV x) 0 (ACS x) h
   omega
  rw[AV];omega
 ·rw[AV]at h2
  have e:P9 x=5:=by unfold P9;rw[if_pos hm,if_pos h,if_pos (by omega)]
  unfold J7;rw[e];rfl
 ·rw[AV]at h2
  have e:P9 x=0:=by unfold P9;rw[if_pos hm,if_pos h,if_neg (by omega)]
  refine ABY (t:=24) (UV t27 t5 (ABY (t:=16) (UV t27 t5 (ABY (t:=8) (UV t27 t5 (UV t27 t5 (VP (AAS ?_ ?_))))))))
  ·simp only[AV,List.length_map,List.length_cons,List.length_nil];omega
  ·have hb:J7 x=AJo x++encS (JV x):=by unfold J7;rw[if_pos e]
   rw[e,hb]
   simp only[AV,List.map_cons,List.map_nil,Int.toNat_natCast]
   rfl
 ·have e:P9 x=3:=AL4.2 hm
  unfold J7;rw[e];rfl
theorem ARw{x:A9}(hx:okP x)(B:Base)(H:Heap):BM Tryz.prog 100 B 16 [F8 x] H (.returned (ABd (bytesOf (J7 x)) (P9 x))) H:=
 kQ okp (EY (ZF AQP ASs)) AZ rfl (ARv hx) B H
def ALm(N:Nd)(x:A9)(K:Value->Prop):Prop:=wpe Tryz.prog N (AP Z0 Zp [] [] [] []) 300 (.call 23 [F8 x] h0) (J6 K)
theorem AG1(N:Nd)(x:A9)(K:Value->Prop):ALm N x K=N.slen x.a9 fun z=>N.minI .min ⟨[3,3]⟩ 3 .i64 20000 z fun z0=>N.dlen (rowsOf D7 x.n.arms) fun z1=>N.ari .add .i64 z0 .i64 z1 fun y1=>N.dlen (rowsOf EM x.t.keys) fun z2=>N.ari .add .i64 y1 .i64 z2 fun y2=>N.dlen (rowsOf DJ x.e.args) fun z3=>N.ari .add .i64 y2 .i64 z3 fun y3=>N.dlen (rowsOf BN x.b.code) fun z4=>N.ari .add .i64 y3 .i64 z4 fun y4=>N.dlen (rowsOf BB x.g.bks) fun z5=>N.ari .add .i64 y4 .i64 z5 fun y5=>N.dlen (rowsOf DJ x.a10) fun z6=>N.ari .add .i64 y5 .i64 z6 fun n=>N.cmp .geq .i64 n .i64 20000 (K (.bool true)) (N.slen x.e.key fun k=>N.cmp .gtr .i64 k .i64 2000 (K (.bool true)) (N.slen x.e.oth fun o=>N.cmp .gtr .i64 o .i64 2000 (K (.bool true)) (K (.bool false)))):=by kernel_rfl
def AI0(x:A9):Nat:=min 20000 x.a9.data.toList.length+x.n.arms.length+x.t.keys.length+x.e.args.length+x.b.code.length+x.g.bks.length+x.a10.length
def WC(x:A9):Bool:=decide (20000<=AI0 x)||(decide (2000<x.e.key.data.toList.length)||decide (2000<x.e.oth.data.toList.length))
theorem APm{x:A9}(hx:lnP x):Is (ALm (real Tryz.prog) x (fun v=>v = .bool (WC x))):=by
 refine⟨?_⟩
 rw[AG1]
 obtain⟨h1,h2,h3,h4,h5,h6⟩:=hx
 refine FC (AMI ?_)
 have e:(if (x.a9.data.toList.length:Int)<20000 then(x.a9.data.toList.length:Int)else 20000)=((min 20000 x.a9.data.toList.length:Nat):Int):=by
  split<;>omega
 rw[e]
 have hm:min 20000 x.a9.data.toList.length<=20000:=Nat.min_le_left _ _
 have hs:AI0 x=min 20000 x.a9.data.toList.length+x.n.arms.length+x.t.keys.length+x.e.args.length+x.b.code.length+x.g.bks.length+x.a10.length:=rfl
 generalize min 20000 x.a9.data.toList.length=q at hm hs
 refine BI _ (AQ _ _) (YN (by omega) (by omega) (BI _ (AQ _ _) (YN (by omega) (by omega) (BI _ (AQ _ _) (YN (by omega) (by omega) (BI _ (AQ _ _) (YN (by omega) (by omega) (BI _ (AQ _ _) (YN (by omega) (by omega) (BI _ (AQ _ _) (YN (by omega) (by omega) ?_)))))))))))
 refine N7 (fun h=>?_) (fun h=>FC (dB (fun h2=>?_) (fun h2=>FC (dB (fun h3=>?_) (fun h3=>?_)))))
 ·unfold WC;rw[decide_eq_true (show 20000<=AI0 x by omega)];rfl
 ·unfold WC;rw[decide_eq_true (show 2000<x.e.key.data.toList.length by omega)];simp
 ·unfold WC;rw[decide_eq_true (show 2000<x.e.oth.data.toList.length by omega)];simp
 ·unfold WC;rw[decide_eq_false (show ¬20000<=AI0 x by omega),decide_eq_false (show ¬2000<x.e.key.data.toList.length by omega),decide_eq_false (show ¬2000<x.e.oth.data.toList.length by omega)];rfl
abbrev ML1:=Value->Prop->Prop->Prop
def sL1(M:ML1):Lv->(Value->Prop)->Prop
 | [a],K=>M a (K (.bool true)) (K (.bool false))
 |_,_=>False
def sAw:Lv->(Value->Prop)->Prop
 | [],K=>K (.bool true)
 |_,_=>False
theorem ASo:FY Tryz.prog 100 11 sAw:=by
 intro args K h
 unfold sAw at h
 split at h<;>try exact h.elim
 exact⟨_,ALX,h⟩
def ALT:ML1:=fun a A E=>∃x:A9,a=F8 x/\lnP x/\(WC x=true->A)/\(WC x=false->E)
theorem ASt:FY Tryz.prog 100 23 (sL1 ALT):=by
 intro args K h
 unfold sL1 at h
 split at h<;>try exact h.elim
 obtain⟨x,rfl,hx,hA,hE⟩:=h
 refine⟨.bool (WC x),fun B H=>kQ okp DC AZ rfl (APm hx) B H,?_⟩
 cases hb:WC x with
 |true=>exact hA hb
 |false=>exact hE hb
abbrev ME1:=Value->(ByteArray->Int->Prop)->Prop
def sE1(M:ME1):Lv->(Value->Prop)->Prop
 | [a],K=>M a fun s e=>K (ABd s e)
 |_,_=>False
def AK8:ME1:=fun a K=>∃x:A9,a=F8 x/\okP x/\K (bytesOf (J7 x)) (P9 x:Int)
theorem ASr:FY Tryz.prog 100 16 (sE1 AK8):=by
 intro args K h
 unfold sE1 at h
 split at h<;>try exact h.elim
 obtain⟨x,rfl,hx,hK⟩:=h
 exact⟨_,ARw hx,hK⟩
theorem ANG{x:A9}(h:WC x=false)(hr:rgP x):okP x:=by
 unfold WC at h
 simp only[Bool.or_eq_false_iff,decide_eq_false_iff_not]at h
 have h1:=h.1
 unfold AI0 at h1
 obtain⟨rn,rf,rt,re,rb,rg,rm,rr⟩:=hr.m
 exact⟨hr.a0,hr.a1,hr.a7,hr.a8,by omega,hr.w,⟨by unfold KQ;omega,trivial⟩,⟨trivial,trivial⟩,⟨by unfold JF;omega,trivial⟩,⟨by unfold JD;omega,re.1,re.2.1⟩,
  ⟨by unfold JC;omega,fun y hy=>⟨(rb y hy).2.2.1,(rb y hy).2.2.2.2⟩⟩,⟨by unfold JE;omega,rg.2⟩,⟨trivial,trivial⟩,⟨trivial,trivial⟩⟩
def hdB(k z:Nat):List UInt8:=[UInt8.ofNat k,UInt8.ofNat (z / 16777216 % 256),UInt8.ofNat (z / 65536 % 256),UInt8.ofNat (z / 256 % 256),UInt8.ofNat (z % 256)]
theorem AAN{x:A9}(h:P9 x=0):(J7 x).length=5+(encS (JV x)).length:=by
 unfold J7;rw[if_pos h,List.length_append];rfl
end
end Go.Proofs.Ob
