/- Messages: what is read of them, what is put, and that the one undoes the other. -/
import Derived.Test.YtblbaohcelldpaaGreatDoorQ2
import Derived.Test.YtblbaohcelldpaaGreatDoorQ4
set_option linter.all false
namespace Go.Tlv
open Go Go.Abs
structure Cd{β:Type}(get:List UInt8->Option β)(put:β->List UInt8)(good:β->Prop):Prop where
 back:∀a,good a->get (put a)=some a
 ok:∀s a,get s=some a->good a/\put a=s
theorem Cd.inj{β:Type}{get:List UInt8->Option β}{put:β->List UInt8}{good:β->Prop}(C:Cd get put good){a b:β}(ha:good a)(hb:good b)(h:put a=put b):a=b:=by
 have h1:=C.back a ha
 rw[h,C.back b hb]at h1
 exact(Option.some.inj h1).symm
theorem cdI:Cd (getI 2147483647) putI (gdI 2147483647):=⟨(codI 2147483647 (by decide)).back,(codI 2147483647 (by decide)).ok⟩
theorem cdN:Cd (getN 18446744073709551615) putN (gdN 18446744073709551615):=⟨(codN 18446744073709551615 (by decide)).back,(codN 18446744073709551615 (by decide)).ok⟩
def getD(s:List UInt8):Option ByteArray:=some (bytesOf s)
theorem cdD:Cd getD putT (fun _=>True):=⟨fun a _=>by unfold getD putT;rw[bytes_eta],fun s a h=>by
 simp only[getD,Option.some.injEq]at h;subst h;exact⟨trivial,rfl⟩⟩
theorem cdW:Cd (getL rdNat 128) (putL oneNat) (gdL goodNat 128) where
  back:=fun l ⟨h1,h2⟩=>by
    have hs:∀s∈l.map oneNat,s.data.toList.length<=65535:=fun s hs=>by
      obtain⟨a,ha,rfl⟩:=List.mem_map.1 hs
      exact Nat.le_trans (itNat.len a (h2 a ha)) (by omega)
    unfold getL putL listS
    rw[if_pos (listE_of hs),show listBB (l.map oneNat)=itsB (l.map oneNat)from rfl,lstE_itsB _ 128 0 hs (by simp;exact h1),if_pos rfl]
    exact mapO_map fun b hb=>itNat.back b (h2 b hb)
  ok := fun s l hs=>by
    unfold getL at hs
    split at hs
    · rename_i h0
      have hd:lstE 128 0 s=(0,(lstE 128 0 s).2):=Prod.ext h0 rfl
      obtain⟨k1,k2,k3⟩:=lstE_ok s.length s 128 0 _ (Nat.le_refl _) hd
      obtain⟨g1,g2⟩:=mapO_ok hs
      have g3:=g2 oneNat fun a b hab=>bytes_ext (itNat.ok _ _ hab).2
      refine⟨⟨?_,mapO_all (fun a b hab=>(itNat.ok _ _ hab).1) hs⟩,?_⟩
      · rw[g1]
        rcases k2 with k2|k2
        · omega
        · rw[k2];simp
      · unfold putL listS
        rw[g3,if_pos (listE_of k3)];exact k1
    · cases hs
theorem cdO{α:Type}{step:α->At->Option α}{zero:α}{may:α->Bool}{atts:α->List At}{good:α->Prop}(hm:∀x,good x->may x=true)(hb:∀x,good x->rdE step zero (encS (atts x))=(0,x))(ho:∀s x,rdE step zero s=(0,x)->good x/\encS (atts x)=s):
  Cd (rdO step zero) (fun x=>if may x=true then encS (atts x)else[]) good where
 back:=fun a ha=>by unfold rdO;rw[if_pos (hm a ha),hb a ha];rfl
 ok:=fun s a h=>by
  unfold rdO at h
  split at h
  ·rename_i h0
   simp only[Option.some.injEq]at h
   obtain⟨h1,h2⟩:=ho s a (Prod.ext h0 h)
   exact⟨h1,by rw[if_pos (hm a h1)];exact h2⟩
  ·cases h
theorem cdNode:Cd (rdO stepNode zNode) (fun x=>if mayNode x=true then encS (attsNode x)else[]) goodNode:=cdO (fun _ h=>goodNode_may h) (fun _ h=>putNode_back h) (fun _ _ h=>rdNode_ok h)
theorem cdField:Cd (rdO stepField zField) (fun x=>if mayField x=true then encS (attsField x)else[]) goodField:=cdO (fun _ h=>goodField_may h) (fun _ h=>putField_back h) (fun _ _ h=>rdField_ok h)
theorem cdTable:Cd (rdO stepTable zTable) (fun x=>if mayTable x=true then encS (attsTable x)else[]) goodTable:=cdO (fun _ h=>goodTable_may h) (fun _ h=>putTable_back h) (fun _ _ h=>rdTable_ok h)
theorem cdEntry:Cd (rdO stepEntry zEntry) (fun x=>if mayEntry x=true then encS (attsEntry x)else[]) goodEntry:=cdO (fun _ h=>goodEntry_may h) (fun _ h=>putEntry_back h) (fun _ _ h=>rdEntry_ok h)
theorem cdBlock:Cd (rdO stepBlock zBlock) (fun x=>if mayBlock x=true then encS (attsBlock x)else[]) goodBlock:=cdO (fun _ h=>goodBlock_may h) (fun _ h=>putBlock_back h) (fun _ _ h=>rdBlock_ok h)
theorem cdGroup:Cd (rdO stepGroup zGroup) (fun x=>if mayGroup x=true then encS (attsGroup x)else[]) goodGroup:=cdO (fun _ h=>goodGroup_may h) (fun _ h=>putGroup_back h) (fun _ _ h=>rdGroup_ok h)
theorem cdMeter:Cd (rdO stepMeter zMeter) (fun x=>if mayMeter x=true then encS (attsMeter x)else[]) goodMeter:=cdO (fun _ h=>goodMeter_may h) (fun _ h=>putMeter_back h) (fun _ _ h=>rdMeter_ok h)
theorem cdRegs:Cd (rdO stepRegs zRegs) (fun x=>if mayRegs x=true then encS (attsRegs x)else[]) goodRegs:=cdO (fun _ h=>goodRegs_may h) (fun _ h=>putRegs_back h) (fun _ _ h=>rdRegs_ok h)
def fld(x:OMsg)(t:Nat)(s:List UInt8):Option OMsg:=match t with
 | 1=>(getI 2147483647 s).map fun v=>{x with a2:=v}
 | 2=>(getI 2147483647 s).map fun v=>{x with a3:=v}
 | 3=>(getI 2147483647 s).map fun v=>{x with a4:=v}
 | 4=>(getI 2147483647 s).map fun v=>{x with a5:=v}
 | 5=>(getI 2147483647 s).map fun v=>{x with a6:=v}
 | 6=>(getN 18446744073709551615 s).map fun v=>{x with a7:=v}
 | 7=>(getN 18446744073709551615 s).map fun v=>{x with a8:=v}
 | 8=>(getD s).map fun v=>{x with a9:=v}
 | 9=>(getL rdNat 128 s).map fun v=>{x with a10:=v}
 | 10=>(rdO stepNode zNode s).map fun v=>{x with n:=v}
 | 11=>(rdO stepField zField s).map fun v=>{x with f:=v}
 | 12=>(rdO stepTable zTable s).map fun v=>{x with t:=v}
 | 13=>(rdO stepEntry zEntry s).map fun v=>{x with e:=v}
 | 14=>(rdO stepBlock zBlock s).map fun v=>{x with b:=v}
 | 15=>(rdO stepGroup zGroup s).map fun v=>{x with g:=v}
 | 16=>(rdO stepMeter zMeter s).map fun v=>{x with m:=v}
 | 17=>(rdO stepRegs zRegs s).map fun v=>{x with r:=v}
 |_=>none
structure goodF(x:OMsg):Prop where
 a2:(gdI 2147483647) x.a2
 a3:(gdI 2147483647) x.a3
 a4:(gdI 2147483647) x.a4
 a5:(gdI 2147483647) x.a5
 a6:(gdI 2147483647) x.a6
 a7:(gdN 18446744073709551615) x.a7
 a8:(gdN 18446744073709551615) x.a8
 a9:(fun _=>True) x.a9
 a10:(gdL goodNat 128) x.a10
 n:(goodNode) x.n
 f:(goodField) x.f
 t:(goodTable) x.t
 e:(goodEntry) x.e
 b:(goodBlock) x.b
 g:(goodGroup) x.g
 m:(goodMeter) x.m
 r:(goodRegs) x.r
theorem put_inj{x y:OMsg}(hx:goodF x)(hy:goodF y)(h0:x.a0=y.a0)(h1:x.a1=y.a1)(h:∀k,1<=k->k<=17->putM x k=putM y k):x=y:=by
 have e1:x.a2=y.a2:=cdI.inj hx.a2 hy.a2 (h 1 (by omega) (by omega))
 have e2:x.a3=y.a3:=cdI.inj hx.a3 hy.a3 (h 2 (by omega) (by omega))
 have e3:x.a4=y.a4:=cdI.inj hx.a4 hy.a4 (h 3 (by omega) (by omega))
 have e4:x.a5=y.a5:=cdI.inj hx.a5 hy.a5 (h 4 (by omega) (by omega))
 have e5:x.a6=y.a6:=cdI.inj hx.a6 hy.a6 (h 5 (by omega) (by omega))
 have e6:x.a7=y.a7:=cdN.inj hx.a7 hy.a7 (h 6 (by omega) (by omega))
 have e7:x.a8=y.a8:=cdN.inj hx.a8 hy.a8 (h 7 (by omega) (by omega))
 have e8:x.a9=y.a9:=cdD.inj hx.a9 hy.a9 (h 8 (by omega) (by omega))
 have e9:x.a10=y.a10:=cdW.inj hx.a10 hy.a10 (h 9 (by omega) (by omega))
 have e10:x.n=y.n:=cdNode.inj hx.n hy.n (h 10 (by omega) (by omega))
 have e11:x.f=y.f:=cdField.inj hx.f hy.f (h 11 (by omega) (by omega))
 have e12:x.t=y.t:=cdTable.inj hx.t hy.t (h 12 (by omega) (by omega))
 have e13:x.e=y.e:=cdEntry.inj hx.e hy.e (h 13 (by omega) (by omega))
 have e14:x.b=y.b:=cdBlock.inj hx.b hy.b (h 14 (by omega) (by omega))
 have e15:x.g=y.g:=cdGroup.inj hx.g hy.g (h 15 (by omega) (by omega))
 have e16:x.m=y.m:=cdMeter.inj hx.m hy.m (h 16 (by omega) (by omega))
 have e17:x.r=y.r:=cdRegs.inj hx.r hy.r (h 17 (by omega) (by omega))
 cases x;cases y
 simp_all
structure rgP(x:OMsg):Prop where
 a0:x.a0<256
 a1:x.a1<4294967296
 a7:x.a7<18446744073709551616
 a8:x.a8<18446744073709551616
 i2 : -9223372036854775808<=x.a2/\x.a2<=9223372036854775807
 i3 : -9223372036854775808<=x.a3/\x.a3<=9223372036854775807
 i4 : -9223372036854775808<=x.a4/\x.a4<=9223372036854775807
 i5 : -9223372036854775808<=x.a5/\x.a5<=9223372036854775807
 i6 : -9223372036854775808<=x.a6/\x.a6<=9223372036854775807
 w:∀y∈x.a10,wfNat y
 m:rgMsg x
theorem u64N_gd{n:Int}(h1 : -9223372036854775808<=n/\n<=9223372036854775807)(h:u64N n<=2147483647):gdI 2147483647 n:=by
 unfold u64N at h
 unfold gdI
 omega
theorem goodF_of{x:OMsg}(h:allM x=true)(hr:rgP x):goodF x:=by
 have is:∀t,1<=t->t<=17->isM x t=true:=fun t h1 h2=>by
  have:=allM_iff.1 h t h1 h2
  unfold goM at this
  simp only[Bool.and_eq_true]at this
  exact this.1
 have r:=hr.m
 exact {
  a2:=u64N_gd hr.i2 (of_decide_eq_true (is 1 (by omega) (by omega)))
  a3:=u64N_gd hr.i3 (of_decide_eq_true (is 2 (by omega) (by omega)))
  a4:=u64N_gd hr.i4 (of_decide_eq_true (is 3 (by omega) (by omega)))
  a5:=u64N_gd hr.i5 (of_decide_eq_true (is 4 (by omega) (by omega)))
  a6:=u64N_gd hr.i6 (of_decide_eq_true (is 5 (by omega) (by omega)))
  a7:=by have:=hr.a7;show x.a7<=18446744073709551615;omega
  a8:=by have:=hr.a8;show x.a8<=18446744073709551615;omega
  a9:=trivial
  a10:=⟨of_decide_eq_true (is 9 (by omega) (by omega)),fun a ha=>by have:=hr.w a ha;unfold wfNat at this;show a<=18446744073709551615;omega⟩
  n:=goodNode_of (is 10 (by omega) (by omega)) r.1
  f:=goodField_of (is 11 (by omega) (by omega)) r.2.1
  t:=goodTable_of (is 12 (by omega) (by omega)) r.2.2.1
  e:=goodEntry_of (is 13 (by omega) (by omega)) r.2.2.2.1
  b:=goodBlock_of (is 14 (by omega) (by omega)) r.2.2.2.2.1
  g:=goodGroup_of (is 15 (by omega) (by omega)) r.2.2.2.2.2.1
  m:=goodMeter_of (is 16 (by omega) (by omega)) r.2.2.2.2.2.2.1
  r:=goodRegs_of (is 17 (by omega) (by omega)) r.2.2.2.2.2.2.2
 }
theorem putM_out{x:OMsg}{t:Nat}(h:t=0∨17<t):putM x t=[]:=by
 unfold putM
 split<;>first|rfl|omega
theorem no_of{x:OMsg}(h:allM x=true)(t:Nat)(hb:hasB x.a0 t=false):putM x t=[]:=by
 by_cases ht:1<=t/\t<=17
 ·have:=allM_iff.1 h t ht.1 ht.2
  unfold goM at this
  rw[hb,Bool.or_false,Bool.and_eq_true]at this
  simpa using this.2
 ·exact putM_out (by omega)
def headB(x:OMsg):List UInt8:=[UInt8.ofNat x.a0,UInt8.ofNat (x.a1 / 16777216 % 256),UInt8.ofNat (x.a1 / 65536 % 256),UInt8.ofNat (x.a1 / 256 % 256),UInt8.ofNat (x.a1 % 256)]
def errM(x:OMsg):Nat:=if mayM x=true then(if encE 0 (attsM x)=0 then(if 16379<(encS (attsM x)).length then 5 else 0)else 5)else 3
def bodyM(x:OMsg):List UInt8:=if errM x=0 then headB x++encS (attsM x)else[]
theorem errM_3{x:OMsg}:errM x=3↔mayM x=false:=by
 unfold errM
 cases h:mayM x with
 |false=>simp
 |true=>
  rw[if_pos rfl]
  split
  ·split<;>simp
  ·simp
theorem mayM_all{x:OMsg}(h:mayM x=true):allM x=true:=by
 unfold mayM at h;simp only[Bool.and_eq_true]at h;exact h.2
structure lnP(x:OMsg):Prop where
 w:x.a10.length<=140737488355328
 n:x.n.arms.length<=140737488355328
 t:x.t.keys.length<=140737488355328
 e:x.e.args.length<=140737488355328
 b:x.b.code.length<=140737488355328
 g:x.g.bks.length<=140737488355328
end Go.Tlv
namespace Go.Proofs.YtblbaohcelldpaaGreatDoor.Ob
open Go Go.Abs Go.Tlv
set_option maxRecDepth 100000
noncomputable section
abbrev MAs:=Value->(List Value->Prop)->Prop->Prop
def sAs(M:MAs):List Value->(Value->Prop)->Prop
 | [a],K=>M a (fun rs=>K (.tuple ⟨[dsl rs,.bool true]⟩)) (K noV)
 |_,_=>False
abbrev MEn:=List Value->(ByteArray->Int->Prop)->Prop
def sEnA(M:MEn):List Value->(Value->Prop)->Prop
 | [.iface t (.agg ⟨rs⟩)],K=>match Nat.beq t mkD with
  |true=>M rs fun s e=>K (.tuple ⟨[.string s,.int .i64 e]⟩)
  |false=>False
 |_,_=>False
def gMay(N:Nd)(M:MAs)(x:OMsg)(K:Value->Prop):Prop:=wpe Tryz.prog N (howOf Z0 Zp [] [] [(35,sAs M)] []) 300 (.call 18 [vMsg x] h0) (retV K)
theorem gMay_eq(N:Nd)(M:MAs)(x:OMsg)(K:Value->Prop):gMay N M x K=M (vMsg x) (fun _=>K (.bool true)) (K (.bool false)):=by kernel_rfl
def encT(s:ByteArray)(e:Int):Value := .tuple ⟨[.string s,.int .i64 e]⟩
def gEnc(N:Nd)(M:MAs)(ME:MEn)(x:OMsg)(K:Value->Prop):Prop:=wpe Tryz.prog N (howOf Z0 Zp [] [] [(35,sAs M),(36,sEnA ME)] []) 300 (.call 16 [vMsg x] h0) (retV K)
theorem gEnc_eq(N:Nd)(M:MAs)(ME:MEn)(x:OMsg)(K:Value->Prop):gEnc N M ME x K=M (vMsg x) (fun rs=>ME rs fun s e=>N.cmp .neq .i64 e .i64 0 (K (encT (bytesOf []) 5)) (N.slen s fun n=>N.ari .add .i64 5 .i64 n fun z=>N.cmp .gtr .i64 z .i64 16384 (K (encT (bytesOf []) 5))
 (N.ari .shr .u32 (x.a1:Int) .u64 24 fun z1=>N.conv 27 5 .u32 z1 .u8 fun b1=>N.ari .shr .u32 (x.a1:Int) .u64 16 fun z2=>N.conv 27 5 .u32 z2 .u8 fun b2=>N.ari .shr .u32 (x.a1:Int) .u64 8 fun z3=>N.conv 27 5 .u32 z3 .u8 fun b3=>N.conv 27 5 .u32 (x.a1:Int) .u8 fun b4=>N.str [(x.a0:Int),b1,b2,b3,b4] fun h=>N.cat h s fun r=>K (encT r 0)))) (K (encT (bytesOf []) 3)):=by kernel_rfl
def MAsr:MAs:=fun a A E=>∃x:OMsg,a=vMsg x/\okP x/\(mayM x=true->A ((attsM x).map rowA))/\(mayM x=false->E)
theorem puAs:PuOk Tryz.prog 100 35 (sAs MAsr):=by
 intro args K h
 unfold sAs at h
 split at h<;>try exact h.elim
 obtain⟨x,rfl,hx,hA,hE⟩:=h
 refine⟨_,attH hx,?_⟩
 unfold attV
 cases hm:mayM x with
 |true=>rw[if_pos rfl];exact hA hm
 |false=>rw[if_neg (by simp)];exact hE hm
def MEnr:MEn:=fun rs K=>∃l:List At,rs=l.map rowA/\(∀a∈l,a.t<256)/\K (bytesOf (encS l)) (encE 0 l:Int)
theorem puEn:PuOk Tryz.prog 100 36 (sEnA MEnr):=by
 intro args K h
 unfold sEnA at h
 split at h<;>try exact h.elim
 rename_i t rs
 split at h<;>try exact h.elim
 rename_i ht
 obtain rfl:=Nat.eq_of_beq_eq_true ht
 obtain⟨l,rfl,hl,hK⟩:=h
 exact⟨_,encodeH l hl,hK⟩
theorem mayC{x:OMsg}(hx:okP x):Is (gMay (real Tryz.prog) MAsr x (fun v=>v = .bool (mayM x))):=by
 refine⟨?_⟩
 rw[gMay_eq]
 exact⟨x,rfl,hx,fun h=>by rw[h],fun h=>by rw[h]⟩
theorem mayH{x:OMsg}(hx:okP x)(B:Base)(H:Heap):CallH Tryz.prog 100 B 18 [vMsg x] H (.returned (.bool (mayM x))) H:=
 pu_mkV okp (kn_pu (pu1 puAs)) lp_none rfl (mayC hx) B H
theorem n_shrU{m t:Nat}{K:Int->Prop}(hk:K ((m / 2 ^ (min t 32):Nat):Int)):(real Tryz.prog).ari .shr .u32 (m:Int) .u64 (t:Int) K:=by
 refine⟨((m / 2 ^ (min t 32):Nat):Int),?_,hk⟩
 have e:((m:Int)).fdiv (2 ^ (min (t:Int).toNat IntKind.u32.bits))=((m / 2 ^ (min t 32):Nat):Int):=by
  rw[Int.toNat_natCast,Int.fdiv_eq_ediv_of_nonneg _ (Int.pow_nonneg (by omega))]
  show(m:Int) / 2 ^ (min t 32)=_
  rw[Int.natCast_ediv,Int.natCast_pow];rfl
 have h0:(0:Int)<=(t:Int):=by omega
 simp only[intBin,e,decide_eq_true h0]
theorem t27:Tryz.prog.underlying 27=some (.int .u32):=by kernel_rfl
theorem attsM_t(x:OMsg):∀a∈attsM x,a.t<256:=fun a ha=>by have:=atFrom_t 17 0 a ha;omega
theorem encC{x:OMsg}(hx:okP x):Is (gEnc (real Tryz.prog) MAsr MEnr x (fun v=>v=encT (bytesOf (bodyM x)) (errM x))):=by
 refine⟨?_⟩
 rw[gEnc_eq]
 refine⟨x,rfl,hx,fun hm=>⟨attsM x,rfl,attsM_t x,n_neN (d:=0) (fun h=>?_) (fun h=>n_slen (n_add (by omega) ?_ (n_gtr (fun h2=>?_) (fun h2=>?_))))⟩,fun hm=>?_⟩
 ·have e:errM x=5:=by unfold errM;rw[if_pos hm,if_neg h]
  unfold bodyM;rw[e];rfl
 ·have hb:(encS (attsM x)).length<=20000000:=by
   unfold encS
   rw[if_pos h]
   have:=atts_bound (attsM x) 0 (attsM_t x) h
   omega
  rw[bytes_toList];omega
 ·rw[bytes_toList]at h2
  have e:errM x=5:=by unfold errM;rw[if_pos hm,if_pos h,if_pos (by omega)]
  unfold bodyM;rw[e];rfl
 ·rw[bytes_toList]at h2
  have e:errM x=0:=by unfold errM;rw[if_pos hm,if_pos h,if_neg (by omega)]
  refine n_shrU (t:=24) (n_toU8 t27 t5 (n_shrU (t:=16) (n_toU8 t27 t5 (n_shrU (t:=8) (n_toU8 t27 t5 (n_toU8 t27 t5 (n_str (n_cat ?_ ?_))))))))
  ·simp only[bytes_toList,List.length_map,List.length_cons,List.length_nil];omega
  ·have hb:bodyM x=headB x++encS (attsM x):=by unfold bodyM;rw[if_pos e]
   rw[e,hb]
   simp only[bytes_toList,List.map_cons,List.map_nil,Int.toNat_natCast]
   rfl
 ·have e:errM x=3:=errM_3.2 hm
  unfold bodyM;rw[e];rfl
theorem encH{x:OMsg}(hx:okP x)(B:Base)(H:Heap):CallH Tryz.prog 100 B 16 [vMsg x] H (.returned (encT (bytesOf (bodyM x)) (errM x))) H:=
 pu_mkV okp (kn_pu (pu_two puAs puEn)) lp_none rfl (encC hx) B H
def gLong(N:Nd)(x:OMsg)(K:Value->Prop):Prop:=wpe Tryz.prog N (howOf Z0 Zp [] [] [] []) 300 (.call 23 [vMsg x] h0) (retV K)
theorem gLong_eq(N:Nd)(x:OMsg)(K:Value->Prop):gLong N x K=N.slen x.a9 fun z=>N.minI .min ⟨[3,3]⟩ 3 .i64 20000 z fun z0=>N.dlen (rowsOf cArm x.n.arms) fun z1=>N.ari .add .i64 z0 .i64 z1 fun y1=>N.dlen (rowsOf cInt x.t.keys) fun z2=>N.ari .add .i64 y1 .i64 z2 fun y2=>N.dlen (rowsOf cNat x.e.args) fun z3=>N.ari .add .i64 y2 .i64 z3 fun y3=>N.dlen (rowsOf cInstr x.b.code) fun z4=>N.ari .add .i64 y3 .i64 z4 fun y4=>N.dlen (rowsOf cBucket x.g.bks) fun z5=>N.ari .add .i64 y4 .i64 z5 fun y5=>N.dlen (rowsOf cNat x.a10) fun z6=>N.ari .add .i64 y5 .i64 z6 fun n=>N.cmp .geq .i64 n .i64 20000 (K (.bool true)) (N.slen x.e.key fun k=>N.cmp .gtr .i64 k .i64 2000 (K (.bool true)) (N.slen x.e.oth fun o=>N.cmp .gtr .i64 o .i64 2000 (K (.bool true)) (K (.bool false)))):=by kernel_rfl
end
end Go.Proofs.YtblbaohcelldpaaGreatDoor.Ob
namespace Go.Proofs.YtblbaohcelldpaaGreatDoor.Ob
open Go Go.Abs Go.Tlv
set_option maxRecDepth 100000
noncomputable section
def sumL(x:OMsg):Nat:=min 20000 x.a9.data.toList.length+x.n.arms.length+x.t.keys.length+x.e.args.length+x.b.code.length+x.g.bks.length+x.a10.length
def longB(x:OMsg):Bool:=decide (20000<=sumL x)||(decide (2000<x.e.key.data.toList.length)||decide (2000<x.e.oth.data.toList.length))
theorem longC{x:OMsg}(hx:lnP x):Is (gLong (real Tryz.prog) x (fun v=>v = .bool (longB x))):=by
 refine⟨?_⟩
 rw[gLong_eq]
 obtain⟨h1,h2,h3,h4,h5,h6⟩:=hx
 refine n_slen (n_minI ?_)
 have e:(if (x.a9.data.toList.length:Int)<20000 then(x.a9.data.toList.length:Int)else 20000)=((min 20000 x.a9.data.toList.length:Nat):Int):=by
  split<;>omega
 rw[e]
 have hm:min 20000 x.a9.data.toList.length<=20000:=Nat.min_le_left _ _
 have hs:sumL x=min 20000 x.a9.data.toList.length+x.n.arms.length+x.t.keys.length+x.e.args.length+x.b.code.length+x.g.bks.length+x.a10.length:=rfl
 generalize min 20000 x.a9.data.toList.length=q at hm hs
 refine n_dlen _ (rowsOf_len _ _) (n_add (by omega) (by omega) (n_dlen _ (rowsOf_len _ _) (n_add (by omega) (by omega) (n_dlen _ (rowsOf_len _ _) (n_add (by omega) (by omega) (n_dlen _ (rowsOf_len _ _) (n_add (by omega) (by omega) (n_dlen _ (rowsOf_len _ _) (n_add (by omega) (by omega) (n_dlen _ (rowsOf_len _ _) (n_add (by omega) (by omega) ?_)))))))))))
 refine n_geq (fun h=>?_) (fun h=>n_slen (n_gtr (fun h2=>?_) (fun h2=>n_slen (n_gtr (fun h3=>?_) (fun h3=>?_)))))
 ·unfold longB;rw[decide_eq_true (show 20000<=sumL x by omega)];rfl
 ·unfold longB;rw[decide_eq_true (show 2000<x.e.key.data.toList.length by omega)];simp
 ·unfold longB;rw[decide_eq_true (show 2000<x.e.oth.data.toList.length by omega)];simp
 ·unfold longB;rw[decide_eq_false (show ¬20000<=sumL x by omega),decide_eq_false (show ¬2000<x.e.key.data.toList.length by omega),decide_eq_false (show ¬2000<x.e.oth.data.toList.length by omega)];rfl
abbrev ML1:=Value->Prop->Prop->Prop
def sL1(M:ML1):List Value->(Value->Prop)->Prop
 | [a],K=>M a (K (.bool true)) (K (.bool false))
 |_,_=>False
def sAw:List Value->(Value->Prop)->Prop
 | [],K=>K (.bool true)
 |_,_=>False
theorem puAw:PuOk Tryz.prog 100 11 sAw:=by
 intro args K h
 unfold sAw at h
 split at h<;>try exact h.elim
 exact⟨_,awakeH,h⟩
def MLr1:ML1:=fun a A E=>∃x:OMsg,a=vMsg x/\lnP x/\(longB x=true->A)/\(longB x=false->E)
theorem puL1:PuOk Tryz.prog 100 23 (sL1 MLr1):=by
 intro args K h
 unfold sL1 at h
 split at h<;>try exact h.elim
 obtain⟨x,rfl,hx,hA,hE⟩:=h
 refine⟨.bool (longB x),fun B H=>pu_mkV okp kn_none lp_none rfl (longC hx) B H,?_⟩
 cases hb:longB x with
 |true=>exact hA hb
 |false=>exact hE hb
abbrev ME1:=Value->(ByteArray->Int->Prop)->Prop
def sE1(M:ME1):List Value->(Value->Prop)->Prop
 | [a],K=>M a fun s e=>K (encT s e)
 |_,_=>False
def MEr1:ME1:=fun a K=>∃x:OMsg,a=vMsg x/\okP x/\K (bytesOf (bodyM x)) (errM x:Int)
theorem puE1:PuOk Tryz.prog 100 16 (sE1 MEr1):=by
 intro args K h
 unfold sE1 at h
 split at h<;>try exact h.elim
 obtain⟨x,rfl,hx,hK⟩:=h
 exact⟨_,encH hx,hK⟩
def MMr1:ML1:=fun a A E=>∃x:OMsg,a=vMsg x/\okP x/\(mayM x=true->A)/\(mayM x=false->E)
theorem puM1:PuOk Tryz.prog 100 18 (sL1 MMr1):=by
 intro args K h
 unfold sL1 at h
 split at h<;>try exact h.elim
 obtain⟨x,rfl,hx,hA,hE⟩:=h
 refine⟨.bool (mayM x),mayH hx,?_⟩
 cases hb:mayM x with
 |true=>exact hA hb
 |false=>exact hE hb
theorem ok_of{x:OMsg}(h:longB x=false)(hr:rgP x):okP x:=by
 unfold longB at h
 simp only[Bool.or_eq_false_iff,decide_eq_false_iff_not]at h
 have h1:=h.1
 unfold sumL at h1
 obtain⟨rn,rf,rt,re,rb,rg,rm,rr⟩:=hr.m
 exact⟨hr.a0,hr.a1,hr.a7,hr.a8,by omega,hr.w,⟨by unfold fitNode;omega,trivial⟩,⟨trivial,trivial⟩,⟨by unfold fitTable;omega,trivial⟩,⟨by unfold fitEntry;omega,re.1,re.2.1⟩,
  ⟨by unfold fitBlock;omega,fun y hy=>⟨(rb y hy).2.2.1,(rb y hy).2.2.2.2⟩⟩,⟨by unfold fitGroup;omega,rg.2⟩,⟨trivial,trivial⟩,⟨trivial,trivial⟩⟩
theorem pu4{a b c d:FuncId×(List Value->(Value->Prop)->Prop)}(h1:PuOk Tryz.prog 100 a.1 a.2)(h2:PuOk Tryz.prog 100 b.1 b.2)(h3:PuOk Tryz.prog 100 c.1 c.2)(h4:PuOk Tryz.prog 100 d.1 d.2):∀x∈[a,b,c,d],PuOk Tryz.prog 100 x.1 x.2:=fun x hx=>by
 simp only[List.mem_cons,List.not_mem_nil,or_false]at hx
 rcases hx with rfl|rfl|rfl|rfl
 ·exact h1
 ·exact h2
 ·exact h3
 ·exact h4
end
end Go.Proofs.YtblbaohcelldpaaGreatDoor.Ob
