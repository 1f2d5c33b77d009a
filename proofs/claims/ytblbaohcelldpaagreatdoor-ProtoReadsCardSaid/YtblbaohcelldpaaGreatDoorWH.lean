/- . -/
import Derived.Test.YtblbaohcelldpaaGreatDoorS6
import Derived.Test.YtblbaohcelldpaaGreatDoorS4
import Derived.Test.YtblbaohcelldpaaGreatDoorS5
set_option linter.all false
set_option maxRecDepth 100000
namespace Go.Abs
open Go
noncomputable section
section
variable {P:Program} {G:Nat} {B:Base}
mutual
def zfree:Value->Bool
 | .pointer (some _) | .slice (some _) _ _ | .map (some _)=>false
 | .func _ x y=>zfreeA x&&zfreeA y
 | .iface t v=>match KI t with
  |true=>Nat.beq t mkD&&(match v with
   | .agg ⟨[]⟩=>true
   |_=>false)
  |false=>zfree v
 | .agg c=>zfreeA c
 | .tuple c=>zfreeA c
 |_=>true
def zfreeA:Array Value->Bool
 |⟨l⟩=>zfreeL l
def zfreeL:List Value->Bool
 | []=>true
 |v::l=>zfree v&&zfreeL l
end
theorem IR.nilD{z z':Nat->Nat->Option Value}{x v':Value}(hx:x = .agg ⟨[]⟩)(h:IR z mkD x v'):IR z' mkD x v':=by
 unfold IR at h ⊢
 simp only[show KI mkD=true from rfl]at h ⊢
 rcases h with⟨_,A7,e,h⟩ | ⟨e,_⟩ | ⟨e,_⟩
 ·subst hx
  simp only[Value.agg.injEq,Array.mk.injEq]at e;subst e
  refine .inl ⟨trivial,[],rfl,?_⟩
  rcases h with h|⟨a,c,sz,e3,e3',e4,e5,h2⟩
  ·exact .inl h
  ·exact .inl ⟨rfl,some a,c,e3⟩
 ·cases e
 ·cases e
mutual
theorem VR.zfree{F F':Nm}:∀(v v':Value),zfree v=true->VR F v v'->VR F' v v'
 | .bool b,v',_,hv=>by simpa [VR]using hv
 | .int k n,v',_,hv=>by simpa [VR]using hv
 | .float k n,v',_,hv=>by simpa [VR]using hv
 | .complex k n m,v',_,hv=>by simpa [VR]using hv
 | .string s,v',_,hv=>by simpa [VR]using hv
 | .pointer none,v',_,hv=>by simpa [VR]using hv
 | .pointer (some a),v',h,hv=>by simp[Abs.zfree]at h
 | .slice none l c,v',_,hv=>by simpa [VR]using hv
 | .slice (some a) l c,v',h,hv=>by simp[Abs.zfree]at h
 | .map none,v',_,hv=>by simpa [VR]using hv
 | .map (some r),v',h,hv=>by simp[Abs.zfree]at h
 | .chan none,v',_,hv=>by simpa [VR]using hv
 | .chan (some r),v',_,hv=>by simp[VR]
 | .func fn first captured,v',h,hv=>by
  simp only[Abs.zfree,Bool.and_eq_true]at h
  simp only[VR]at hv ⊢;obtain⟨f',c',h1,h2,e⟩:=hv
  exact⟨f',c',VRA.zfree _ _ h.1 h1,VRA.zfree _ _ h.2 h2,e⟩
 | .nilFunc,v',_,hv=>by simpa [VR]using hv
 | .iface t v,v',h,hv=>by
  simp only[Abs.zfree]at h
  simp only[VR]at hv ⊢
  split at h
  ·rename_i hm
   simp only[Bool.and_eq_true]at h
   have ht:=Nat.eq_of_beq_eq_true h.1
   subst ht
   have h2:=h.2
   split at h2
   ·rcases hv with⟨x',h1,e⟩ | hv
    ·simp only[VR,VRA,VRL]at h1
     obtain⟨cs',h3,e3⟩:=h1
     subst e3
     have:cs'=⟨[]⟩:=by cases cs';subst h3;rfl
     subst this
     exact .inl ⟨_,by simp only[VR,VRA,VRL];exact⟨#[],rfl,rfl⟩,e.nilD rfl⟩
    ·exact .inr hv
   ·cases h2
  ·rename_i hm
   rcases hv with⟨x',h1,e⟩ | ⟨e,_⟩
   ·refine .inl ⟨x',?_,?_⟩
    ·rw[Nm.on_real hm]at h1 ⊢
     exact VR.zfree _ _ h h1
    ·unfold IR at e ⊢;rw[hm]at e ⊢;exact e
   ·subst e;cases hm
 | .nilIface,v',_,hv=>by simpa [VR]using hv
 | .agg cs,v',h,hv=>by
  simp only[Abs.zfree]at h
  simp only[VR]at hv ⊢;obtain⟨x',h1,e⟩:=hv;exact⟨x',VRA.zfree _ _ h h1,e⟩
 | .tuple cs,v',h,hv=>by
  simp only[Abs.zfree]at h
  simp only[VR]at hv ⊢;obtain⟨x',h1,e⟩:=hv;exact⟨x',VRA.zfree _ _ h h1,e⟩
theorem VRA.zfree{F F':Nm}:∀(c c':Array Value),zfreeA c=true->VRA F c c'->VRA F' c c'
 |⟨l⟩,c',h,hv=>by simp only[Abs.zfreeA]at h;simp only[VRA]at hv ⊢;exact VRL.zfree _ _ h hv
theorem VRL.zfree{F F':Nm}:∀(l l':List Value),zfreeL l=true->VRL F l l'->VRL F' l l'
 | [],l',_,hv=>by simpa [VRL]using hv
 |v::l,l',h,hv=>by
  simp only[Abs.zfreeL,Bool.and_eq_true]at h
  simp only[VRL]at hv ⊢;obtain⟨v',r',h1,h2,e⟩:=hv
  exact⟨v',r',VR.zfree _ _ h.1 h1,VRL.zfree _ _ h.2 h2,e⟩
end
def uF(p:Value->Value):Prop:=∀(F:Nm) a x,VR F (p a) x->∃y,VR F a y/\∀F' u,VR F' u y->VR F' (p u) x
theorem AFi:uF fun a=>a:=fun F a x h=>⟨x,h,fun F' u hu=>hu⟩
theorem jI{p:Value->Value}(hp:uF p){pre post:List Value}(h1:zfreeL pre=true)(h2:zfreeL post=true){F:Nm}{a:Value}{l:List Value}(h:VRL F (pre++p a::post) l):
  ∃y,VR F a y/\∀F' u,VR F' u y->VRL F' (pre++p u::post) l:=by
 obtain⟨q,r,e,hq,hr⟩:=VRL.split h
 simp only[VRL]at hr
 obtain⟨v',r',g1,g2,e2⟩:=hr
 obtain⟨y,k1,k2⟩:=hp F a v' g1
 refine⟨y,k1,fun F' u hu=>?_⟩
 rw[e,e2]
 refine VRL.app (VRL.zfree _ _ h1 hq) ?_
 simp only[VRL]
 exact⟨v',r',k2 F' u hu,VRL.zfree _ _ h2 g2,rfl⟩
theorem ACA{p:Value->Value}(hp:uF p){pre post:List Value}(h1:zfreeL pre=true)(h2:zfreeL post=true):uF fun a => .agg ⟨pre++p a::post⟩:=by
 intro F a x h
 simp only[VR,VRA]at h
 obtain⟨cs',h3,e⟩:=h
 obtain⟨y,k1,k2⟩:=jI hp h1 h2 h3
 exact⟨y,k1,fun F' u hu=>by simp only[VR,VRA];exact⟨cs',k2 F' u hu,e⟩⟩
theorem ACB{p:Value->Value}(hp:uF p){pre post:List Value}(h1:zfreeL pre=true)(h2:zfreeL post=true):uF fun a => .tuple ⟨pre++p a::post⟩:=by
 intro F a x h
 simp only[VR,VRA]at h
 obtain⟨cs',h3,e⟩:=h
 obtain⟨y,k1,k2⟩:=jI hp h1 h2 h3
 exact⟨y,k1,fun F' u hu=>by simp only[VR,VRA];exact⟨cs',k2 F' u hu,e⟩⟩
def oH(p:Value->Value):Prop:=∀(F:Nm) a x,VR F (p a) x->∃y,VR F a y/\∀F' u,Agree 0 F F'->VR F' u y->VR F' (p u) x
theorem ACz:oH fun a=>a:=fun F a x h=>⟨x,h,fun F' u _ hu=>hu⟩
theorem vL{p:Value->Value}(hp:oH p){pre post:List Value}(h1:A8 0 pre=true)(h2:A8 0 post=true){F:Nm}{a:Value}{l:List Value}(h:VRL F (pre++p a::post) l):
  ∃y,VR F a y/\∀F' u,Agree 0 F F'->VR F' u y->VRL F' (pre++p u::post) l:=by
 obtain⟨q,r,e,hq,hr⟩:=VRL.split h
 simp only[VRL]at hr
 obtain⟨v',r',g1,g2,e2⟩:=hr
 obtain⟨y,k1,k2⟩:=hp F a v' g1
 refine⟨y,k1,fun F' u hA hu=>?_⟩
 rw[e,e2]
 refine VRL.app (VRL.below hA _ _ h1 hq) ?_
 simp only[VRL]
 exact⟨v',r',k2 F' u hA hu,VRL.below hA _ _ h2 g2,rfl⟩
theorem AAW{p:Value->Value}(hp:oH p){pre post:List Value}(h1:A8 0 pre=true)(h2:A8 0 post=true):oH fun a => .agg ⟨pre++p a::post⟩:=by
 intro F a x h
 simp only[VR,VRA]at h
 obtain⟨cs',h3,e⟩:=h
 obtain⟨y,k1,k2⟩:=vL hp h1 h2 h3
 exact⟨y,k1,fun F' u hA hu=>by simp only[VR,VRA];exact⟨cs',k2 F' u hA hu,e⟩⟩
theorem YO{size:Nat}{r:Value}{A7 vs:List Value}(h:BU size (r::A7)=some vs):∃cs l:List Value,r = .agg ⟨cs⟩/\cs.length=size/\BU size A7=some l/\vs=cs++l:=by
 cases r<;>simp only[BU]at h<;>try(cases h;done)
 rename_i c
 obtain⟨cs⟩:=c
 simp only at h
 split at h<;>(try(cases h;done))
 rename_i l2 hsz hl2
 simp only[Option.some.injEq]at h
 exact⟨cs,l2,rfl,Nat.eq_of_beq_eq_true hsz,hl2,h.symm⟩
theorem dG{F F':Nm}{z:Nat->Nat->Option Value}{b size:Nat}{cc:List Value}(hz:∀i v,z b i=some v->cc[i]?=some v):∀(A7 vs rows':List Value) (off:Nat),BU size A7=some vs->zfreeL vs=true->VRL F A7 rows'->
  (∀i r,rows'[i]?=some r->∃cs:List Value,r = .agg ⟨cs⟩/\ZU z b (off+i*size) cs)->VRL F' vs ((cc.drop off).take vs.length)
 | [],vs,rows',off,hf,_,hv,_=>by
  simp only[BU,Option.some.injEq]at hf;subst hf;simp[VRL]
 |r::A7,vs,rows',off,hf,hb,hv,hr=>by
  obtain⟨cs,l,rfl,hn,hl,rfl⟩:=YO hf
  simp only[VRL]at hv
  obtain⟨x,rr,h1,h2,e⟩:=hv
  subst e
  simp only[VR,VRA]at h1
  obtain⟨cs',h3,e⟩:=h1
  subst e
  obtain⟨c2,g1,g2⟩:=hr 0 _ rfl
  simp only[Value.agg.injEq]at g1
  have g1:cs'.toList=c2:=by rw[g1]
  have hn':cs'.toList.length=size:=by rw[←hn];exact VRL.length h3
  have hzf:zfreeL cs=true/\zfreeL l=true:=by
   have:∀a b:List Value,zfreeL (a++b)=true->zfreeL a=true/\zfreeL b=true:=by
    intro a
    induction a with
    |nil=>intro b h;exact⟨rfl,h⟩
    |cons v a ih=>
     intro b h
     simp only[List.cons_append,zfreeL,Bool.and_eq_true]at h ⊢
     obtain⟨k1,k2⟩:=ih b h.2
     exact⟨⟨h.1,k1⟩,k2⟩
   exact this _ _ hb
  have ih:=dG (F':=F') hz A7 l rr (off+size) hl hzf.2 h2 (fun i r hi=>by
   obtain⟨c3,g3,g4⟩:=hr (i+1) r hi
   refine⟨c3,g3,?_⟩
   rw[show off+size+i*size=off+(i+1)*size by rw[Nat.succ_mul];omega];exact g4)
  rw[List.length_append,List.take_add]
  have e1:(cc.drop off).take cs.length=cs'.toList:=by
   apply List.ext_getElem?
   intro j
   rw[List.getElem?_take]
   split
   ·rename_i hj
    rw[List.getElem?_drop]
    have hj2:j<cs'.toList.length:=by omega
    have:=hz (off+j) cs'.toList[j] (by have:=g2 j cs'.toList[j] (by rw[←g1];exact List.getElem?_eq_getElem hj2);simpa using this)
    rw[this,List.getElem?_eq_getElem hj2]
   ·rename_i hj
    rw[List.getElem?_eq_none (by omega)]
  rw[e1,List.drop_drop,hn]
  exact VRL.app (VRL.zfree _ _ hzf.1 h3) ih
theorem thaw {f:FuncId} {args:List Value} {p:Value->Value} (hp:uF p) {A7 vs:List Value} {elem size:Nat} (hS:∀B H,BP P G B f args H (.returned (p (dsl A7))) H)
    (ha:DT args=true) (hf:BU size A7=some vs) (hne:A7≠[]) (hv:zfreeL vs=true) (B:Base) (H:Heap):
    BP P G B f args H (.returned (p (.slice (some ⟨H.next,0,none⟩) A7.length A7.length))) (H.push (.cells vs elem 0 true true)):=by
  intro F w args' R hargs
  have hargs':args'.toList=args:=(VRL.plain_eq _ _ ha).1 hargs
  have hGn:=R.next_le
  let F0:Nm:=⟨fun m=>if m<G then F m else none,fun _ _=>none⟩
  let B2:Base:=⟨w,fun i=>i<w.heap.size,fun i h=>h,fun _ _=>none,fun g vs hg=>by
    obtain⟨t,fz,h2⟩:=R.tabW g vs hg
    exact⟨(Array.getElem?_eq_some_iff.1 h2).1,t,fz,h2⟩⟩
  have hno:∀m o',(hOf G [] []).get m≠some o':=by
    intro m o' h
    obtain⟨_,h2,_⟩:=S9 h
    simp only[List.length_nil]at h2;omega
  have R2:Rel G F0 (hOf G [] []) B2 w:=by
    constructor
    · intro m o' h;exact absurd h (hno m o')
    · intro m m' o' o2 h;exact absurd h (hno m o')
    · intro m h
      have h:G+0<=m:=h
      show(if m<G then F m else none)=none
      rw[if_neg (by omega)]
    · intro g hg
      show(if g<G then F g else none)=_
      rw[if_pos hg];exact R.glob g hg
    · exact Nat.le_refl _
    · intro i _;rfl
    · intro b' i v hz;cases hz
    · intro b' i v hz;cases hz
    · rfl
    · rfl
    · rfl
  refine(hS B2 (hOf G [] []) F0 w args' R2 (by rw[hargs'];exact(VRL.plain_eq _ _ ha).2 rfl)).mono fun e1 w' ⟨F3,hle,he,R3⟩=>?_
  simp only[EnR]at he
  obtain⟨v',h3,h4⟩:=he
  -- the list
  obtain⟨y,hy,hpl⟩:=hp F3 (dsl A7) v' h3
  have hy2:=hy
  simp only[dsl,VR]at hy2
  obtain ⟨rows',a,c,sz,q1,q2,q3,q4,q5,q6⟩:∃(rows':List Value) (a:Addr) (c sz:Nat),VRL F3.bare A7 rows'/\y = .slice (some a) rows'.length c/\rows'.length<=c/\a.spot=none/\0<sz/\∀i r,rows'[i]?=some r->∃cs:List Value,r = .agg ⟨cs⟩/\cs.length=sz/\ZU F3.z a.block (a.off+i*sz) cs:=by
    rcases hy2 with⟨x',h1,h2⟩ | ⟨e,_⟩
    · rw[Nm.on_D]at h1
      simp only[VRA]at h1
      obtain⟨cs',h5,e5⟩:=h1
      unfold IR at h2
      simp only[show KI mkD=true from rfl]at h2
      rcases h2 with⟨_,rows',e6,h6⟩ | ⟨e,_⟩ | ⟨e,_⟩
      · subst e5
        simp only[Value.agg.injEq]at e6
        subst e6
        rcases h6 with⟨e7,_⟩ | ⟨a,c,sz,k1,k2,k3,k4,k5⟩
        · exfalso
          have:=VRL.length h5
          rw[e7]at this
          exact hne (List.length_eq_zero_iff.1 this.symm)
        · exact⟨rows',a,c,sz,h5,k1,k2,k3,k4,k5⟩
      · cases e
      · cases e
    · cases e
  have hrl:rows'.length=A7.length:=VRL.length q1
  -- the rows' length
  have hszE:sz=size:=by
    cases A7 with
    |nil=>exact absurd rfl hne
    |cons r rs=>
      obtain⟨cs,l,rfl,hn,_,_⟩:=YO hf
      simp only[VRL]at q1
      obtain⟨x,rr,h1,h2,e⟩:=q1
      subst e
      simp only[VR,VRA]at h1
      obtain⟨cs',h5,e⟩:=h1
      subst e
      obtain⟨c2,g1,g2,g3⟩:=q6 0 _ rfl
      simp only[Value.agg.injEq]at g1
      have g1:cs'.toList=c2:=by rw[g1]
      have:=VRL.length h5
      rw[g1]at this;omega
  subst hszE
  -- its block
  obtain⟨r0,hr0⟩:∃r,rows'[0]?=some r:=by
    cases rows' with
    |nil=>exact absurd (List.length_eq_zero_iff.1 hrl.symm) hne
    |cons r _=>exact⟨r,rfl⟩
  obtain⟨cs0,g1,g2,g3⟩:=q6 0 r0 hr0
  have hz0:∃v,F3.z a.block (a.off+0*sz)=some v:=by
    cases cs0 with
    |nil=>simp only[List.length_nil]at g2;omega
    |cons v0 _=>exact⟨v0,by have:=g3 0 v0 rfl;simpa using this⟩
  obtain⟨v0,hz0⟩:=hz0
  have hnew:¬B2.prot a.block:=fun h=>by
    have:B2.z a.block (a.off+0*sz)=some v0:=R3.zprot _ _ _ hz0 h
    cases this
  have hge:w.heap.size<=a.block:=Nat.le_of_not_lt hnew
  obtain⟨⟨cc,t,fz,hw,_,hun⟩,_⟩:=R3.froz _ _ _ hz0
  have hun:=hun hnew
  have hcell:∀i v,F3.z a.block i=some v->cc.toList[i]?=some v:=by
    intro i v hz
    obtain⟨⟨c2,t2,fz2,k1,k2,_⟩,_⟩:=R3.froz _ _ _ hz
    rw[hw]at k1;simp only[Option.some.injEq,Obj.cells.injEq]at k1
    rw[k1.1];simpa using k2
  let F4:Nm:=⟨fun m=>if m=H.next then some (a.block,c-A7.length,a.off)else F m,F.z⟩
  have hF4:Nm.le F F4:=by
    refine⟨fun n x h=>?_,ND _⟩
    show(if n=H.next then _ else F n)=some x
    rw[if_neg]
    · exact h
    · intro e;subst e;rw[R.fresh _ (Nat.le_refl _)]at h;cases h
  have hold:∀m o',H.get m=some o'->m<H.next/\∀b',blk F m=some b'->b' < w.heap.size/\w'.heap[b']?=w.heap[b']?:=by
    intro m o' h
    refine⟨R.live_lt h,fun b' hb'=>?_⟩
    obtain⟨b2,g1,g2,_⟩:=R.blk_lt h
    rw[hb']at g1;simp only[Option.some.injEq]at g1;subst g1
    exact⟨g2,R3.frame b' g2⟩
  have hvs:VRL F4 vs ((cc.toList.drop a.off).take vs.length):=dG (F:=F3.bare) (z:=F3.z) (b:=a.block) hcell A7 vs rows' a.off hf hv q1 fun i r hr=>by
    obtain⟨cs,k1,_,k3⟩:=q6 i r hr
    exact⟨cs,k1,k3⟩
  have hlen:a.off+vs.length<=cc.size:=by
    have:=VRL.length hvs
    have hcc:cc.toList.length=cc.size:=Array.length_toList
    have h6:min vs.length (cc.size-a.off)=vs.length:=by
      rw[←hcc,←List.length_drop,←List.length_take];exact this
    clear this
    have h5:0<vs.length:=by
      cases A7 with
      |nil=>exact absurd rfl hne
      |cons r rs=>
        obtain⟨cs,l,_,hn,_,rfl⟩:=YO hf
        rw[List.length_append];omega
    omega
  have hb4:∀n,n≠H.next->F4 n=F n:=fun n h=>by
    show(if n=H.next then _ else F n)=F n
    rw[if_neg h]
  have hb4n:blk F4 H.next=some a.block:=by
    show Option.map _ (if H.next=H.next then _ else _)=_
    rw[if_pos rfl];rfl
  refine⟨F4,hF4,?_,?_⟩
  · simp only[EnR]
    refine⟨v',hpl F4 _ ?_,h4⟩
    simp only[VR]
    refine⟨a,c-A7.length,a.off,?_,?_,?_,?_⟩
    · show(if H.next=H.next then _ else _)=_
      rw[if_pos rfl]
    · show a.off=0+a.off
      omega
    · exact q4
    · rw[q2,hrl]
      congr 1;omega
  · constructor
    · intro n o h
      rw[Heap.get_push]at h
      split at h
      · rename_i hn
        simp only[Option.some.injEq]at h;subst h;subst hn
        refine⟨a.block,c-A7.length,a.off,cc,fz,?_,⟨t,hw,fun _=>rfl⟩,hvs,by omega,(fun h=>by cases h),fun _=>⟨fun hp=>?_,hun⟩⟩
        · show(if H.next=H.next then _ else _)=_
          rw[if_pos rfl]
        · have:=B.lt _ hp;have:=R.base;omega
      · exact JH hF4 (IQ (R.obj n o h) fun b' hb'=>((hold n o h).2 b' hb').2)
    · intro n m o o' hn hm hne how
      rw[Heap.get_push]at hn hm
      split at hn<;>split at hm
      · omega
      · rename_i h5 h6
        obtain⟨k1,k2⟩:=hold m o' hm
        subst h5
        rw[hb4n]
        intro e
        have e2:blk F m=some a.block:=by rw[e];show _=Option.map _ (F4 m);rw[hb4 m h6];rfl
        have:=(k2 _ e2).1;omega
      · rename_i h5 h6
        obtain⟨k1,k2⟩:=hold n o hn
        subst h6
        rw[hb4n]
        intro e
        have e2:blk F n=some a.block:=by rw[←e];show _=Option.map _ (F4 n);rw[hb4 n h5];rfl
        have:=(k2 _ e2).1;omega
      · rename_i h5 h6
        have:=R.inj n m o o' hn hm hne how
        show Option.map _ (F4 n)≠Option.map _ (F4 m)
        rw[hb4 n h5,hb4 m h6];exact this
    · intro n hn
      have hn:H.next+1<=n:=hn
      rw[hb4 n (by omega)];exact R.fresh n (by omega)
    · intro g hg
      rw[hb4 g (by omega)];exact R.glob g hg
    · have:=R.base;have:=R3.base
      have e:B2.w.heap.size=w.heap.size:=rfl
      omega
    · intro i hi
      have h1:=B.lt i hi
      have h2:=R.base
      rw[R3.frame i (show i<w.heap.size by omega)];exact R.frame i hi
    · intro b' i v hz
      obtain⟨⟨c2,t2,fz2,k1,k2,k3⟩,k4⟩:=R.froz b' i v hz
      have hlt:b' < w.heap.size:=(Array.getElem?_eq_some_iff.1 k1).1
      refine⟨⟨c2,t2,fz2,by rw[R3.frame b' hlt];exact k1,k2,k3⟩,fun n o hn how=>?_⟩
      rw[Heap.get_push]at hn
      split at hn
      · rename_i h5
        subst h5
        rw[hb4n];intro e
        simp only[Option.some.injEq]at e;omega
      · rename_i h5
        have:=k4 n o hn how
        show Option.map _ (F4 n)≠_
        rw[hb4 n h5];exact this
    · exact R.zprot
    · rw[R3.os];exact R.os
    · rw[R3.out];exact R.out
    · rw[R3.tape];exact R.tape
theorem AKI{f:FuncId}{p:Value->Value}(hp:oH p){pre post:List Value}{A7 vs:List Value}{v:Value}{H:Heap}{n k c elem size sz0:Nat}{lo:Bool}
  (hS:∀B H,BP P G B f (pre++p (.iface mkD (.agg ⟨A7⟩))::post) H (.returned v) H) (hget:H.get n=some (.cells vs elem sz0 lo true)) (hf:BU size A7=some vs) (hb:A8 0 vs=true) (hs:0<size) (hk:k=A7.length) (hc:k<=c)
  (hpre:A8 0 pre=true) (hpost:A8 0 post=true) (hv:plain v=true) (B:Base):BP P G B f (pre++p (.slice (some ⟨n,0,none⟩) k c)::post) H (.returned v) H:=by
 subst hk
 intro F w args' R ha
 have hGn:=R.next_le
 obtain⟨b,d,o,cc,fz,hF,⟨t,hw,ht⟩,hvl,hsz,hex,hown⟩:=R.obj _ _ hget
 have hnz:∀j,F.z b j=none:=by
  intro j
  cases hz:F.z b j with
  |none=>rfl
  |some v=>exact absurd (by simp[blk,hF]) ((R.froz b j v hz).2 _ _ hget rfl)
 let zz:Nat->Nat->Option Value:=fun b' j=>if b'=b/\o<=j/\j<o+vs.length then cc[j]? else F.z b' j
 have hzz:zle F.z zz:=by
  intro b' j v hz
  show(if b'=b/\o<=j/\j<o+vs.length then cc[j]? else F.z b' j)=some v
  rw[if_neg]
  ·exact hz
  ·intro hc;rw[hc.1,hnz]at hz;cases hz
 let F1:Nm:=⟨F.f,zz⟩
 let F2:Nm:=⟨fun m=>if m<G then F m else none,zz⟩
 have hFG:∀m,m<G->F m=some (m,0,0):=R.glob
 let B2:Base:=⟨w,fun i=>i<w.heap.size,fun i h=>h,zz,fun g vs hg=>by
  obtain⟨t,fz,h2⟩:=R.tabW g vs hg
  exact⟨(Array.getElem?_eq_some_iff.1 h2).1,t,fz,h2⟩⟩
 have hfz:∀b' i v,zz b' i=some v->∃c t fz,w.heap[b']?=some (.cells c t fz)/\c[i]?=some v:=by
  intro b' i v hz
  have hz:(if b'=b/\o<=i/\i<o+vs.length then cc[i]? else F.z b' i)=some v:=hz
  split at hz
  ·rename_i hcc;exact⟨cc,t,fz,by rw[hcc.1];exact hw,hz⟩
  ·obtain⟨⟨c,t,fz,g1,g2,_⟩,_⟩:=R.froz b' i v hz
   exact⟨c,t,fz,g1,g2⟩
 have hno:∀m o',(hOf G [] []).get m≠some o':=by
  intro m o' h
  obtain⟨_,h2,_⟩:=S9 h
  simp only[List.length_nil]at h2;omega
 have R2:Rel G F2 (hOf G [] []) B2 w:=by
  constructor
  ·intro m o' h;exact absurd h (hno m o')
  ·intro m m' o' o2 h;exact absurd h (hno m o')
  ·intro m h
   have h:G+0<=m:=h
   show(if m<G then F m else none)=none
   rw[if_neg (by omega)]
  ·intro g hg
   show(if g<G then F g else none)=_
   rw[if_pos hg];exact R.glob g hg
  ·exact Nat.le_refl _
  ·intro i _;rfl
  ·intro b' i v hz
   obtain⟨c2,t2,fz2,g1,g2⟩:=hfz b' i v hz
   exact⟨⟨c2,t2,fz2,g1,g2,fun hn=>absurd (Array.getElem?_eq_some_iff.1 g1).1 hn⟩,fun m o' h=>absurd h (hno m o')⟩
  ·intro b' i v hz _;exact hz
  ·rfl
  ·rfl
  ·rfl
 obtain⟨a,x,e,hx,hy⟩:=VRL.split ha
 have hag:Agree 0 F F2:=⟨fun n hn=>absurd hn (Nat.not_lt_zero n),hzz⟩
 simp only[VRL]at hy
 obtain⟨y,q',hy,hq,e2⟩:=hy
 subst e2
 obtain⟨y0,hy,hpl⟩:=hp F _ y hy
 have hy2:VR F2 (p (.iface mkD (.agg ⟨A7⟩))) y:=by
  refine hpl F2 _ hag ?_
  simp only[VR]at hy
  obtain⟨a',d',o',q1,q2,q3,q4⟩:=hy
  rw[hF]at q1;simp only[Option.some.injEq,Prod.mk.injEq]at q1
  obtain⟨e1,e2,e3⟩:=q1
  subst q4
  obtain⟨rows',k1,k2⟩:=dI (F:=F2) A7 vs _ hf hb (VRL.below hag _ _ hb hvl)
  refine VR.D_mk (rows':=rows') (sz:=size) k1 (by omega) q3 hs fun r rr hr=>?_
  obtain⟨cs,g1,g2,g3⟩:=k2 r rr hr
  refine⟨cs,g1,g2,fun j y hj=>?_⟩
  have:=g3 j y hj
  rw[List.getElem?_take]at this
  split at this
  ·rename_i hlt
   rw[List.getElem?_drop]at this
   show(if a'.block=b/\o<=a'.off+r*size+j/\a'.off+r*size+j<o+vs.length then cc[a'.off+r*size+j]? else F.z a'.block (a'.off+r*size+j))=some y
   rw[if_pos ⟨e1.symm,by omega,by omega⟩]
   have e5:a'.off+r*size+j=o+(r*size+j):=by omega
   rw[e5,←this];simp
  ·cases this
 have ha2:VRL F2 (pre++p (.iface mkD (.agg ⟨A7⟩))::post) args'.toList:=by
  rw[e]
  refine VRL.app (VRL.below hag _ _ hpre hx) ?_
  simp only[VRL]
  exact⟨y,q',hy2,VRL.below hag _ _ hpost hq,rfl⟩
 refine(hS B2 (hOf G [] []) F2 w args' R2 ha2).mono fun e1 w' ⟨F3,hle,he,R3⟩=>?_
 let F4:Nm:=⟨F.f,fun b' j=>if b'=b then F.z b' j else F3.z b' j⟩
 have hF4:Nm.le F F4:=by
  refine⟨fun n x h=>h,fun b' j v hz=>?_⟩
  show(if b'=b then F.z b' j else F3.z b' j)=some v
  split
  ·exact hz
  ·exact hle.zs b' j v (hzz b' j v hz)
 have hwb:b<w.heap.size:=by
  rcases Nat.lt_or_ge b w.heap.size with h|h
  ·exact h
  ·rw[Array.getElem?_eq_none h]at hw;cases hw
 have hold:∀m o',H.get m=some o'->∀b',blk F m=some b'->w'.heap[b']?=w.heap[b']?:=by
  intro m o' h b' hb'
  obtain⟨b2,g1,g2,_⟩:=R.blk_lt h
  rw[hb']at g1;simp only[Option.some.injEq]at g1;subst g1
  exact R3.frame b' g2
 refine⟨F4,hF4,?_,?_⟩
 ·simp only[EnR]at he ⊢
  obtain⟨v2,h3,h4⟩:=he
  exact⟨v2,(VR.plain_eq _ _ hv).2 ((VR.plain_eq _ _ hv).1 h3),h4⟩
 ·constructor
  ·intro m o' h;exact JH hF4 (IQ (R.obj m o' h) (hold m o' h))
  ·exact R.inj
  ·exact R.fresh
  ·exact R.glob
  ·have:=R.base;have:=R3.base
   have e:B2.w.heap.size=w.heap.size:=rfl
   omega
  ·intro i hi
   have h1:=B.lt i hi
   have h2:=R.base
   rw[R3.frame i (show i<w.heap.size by omega)];exact R.frame i hi
  ·intro b' i v hz
   have hz:(if b'=b then F.z b' i else F3.z b' i)=some v:=hz
   split at hz
   ·rename_i hbb;rw[hbb,hnz]at hz;cases hz
   ·rename_i hbb
    refine⟨R3.frozB hz fun hn hp c2 t2 fz2 hw2=>by
     have hz2:zz b' i=some v:=R3.zprot b' i v hz hp
     have hz2:(if b'=b/\o<=i/\i<o+vs.length then cc[i]? else F.z b' i)=some v:=hz2
     rw[if_neg (fun hc=>hbb hc.1)]at hz2
     exact R.un b' i v hz2 hn c2 t2 fz2 (by rw[←R3.frame b' hp];exact hw2),fun m o' h how hblk=>?_⟩
    obtain⟨b2,g1,g2,_⟩:=R.blk_lt h
    have hblk:blk F m=some b':=hblk
    rw[hblk]at g1;simp only[Option.some.injEq]at g1;subst g1
    have hz2:zz b' i=some v:=R3.zprot b' i v hz g2
    have hz2:(if b'=b/\o<=i/\i<o+vs.length then cc[i]? else F.z b' i)=some v:=hz2
    rw[if_neg (fun hc=>hbb hc.1)]at hz2
    exact(R.froz b' i v hz2).2 m o' h how hblk
  ·intro b' i v hz hp
   have hz:(if b'=b then F.z b' i else F3.z b' i)=some v:=hz
   have h1:=B.lt b' hp
   have h2:=R.base
   split at hz
   ·exact R.zprot b' i v hz hp
   ·rename_i hbb
    have hz2:zz b' i=some v:=R3.zprot b' i v hz (show b' < w.heap.size by omega)
    have hz2:(if b'=b/\o<=i/\i<o+vs.length then cc[i]? else F.z b' i)=some v:=hz2
    rw[if_neg (fun hc=>hbb hc.1)]at hz2
    exact R.zprot b' i v hz2 hp
  ·rw[R3.os];exact R.os
  ·rw[R3.out];exact R.out
  ·rw[R3.tape];exact R.tape
theorem Rel.withTab{F:Nm}{w:World}(R:Rel G F (hOf G [] []) B w){g:Nat}{vs:List Value}(hg:QL g=some vs)(hG:g<G)(hp:DT vs=true)(e sz:Nat):Rel G F (hOf G [(g,.cells vs e sz true false)] []) B w:=by
 obtain⟨t,fz,hw⟩:=R.tabW g vs hg
 have hget:∀n o,(hOf G [(g,.cells vs e sz true false)] []).get n=some o->n=g/\o = .cells vs e sz true false:=by
  intro n o h
  rw[H6]at h
  split at h
  ·rename_i h2;simp only[List.length_nil]at h2;omega
  ·have:=dM _ _ _ h
   simp only[List.mem_cons,Prod.mk.injEq,List.not_mem_nil,or_false]at this
   exact this
 constructor
 ·intro n o h
  obtain⟨rfl,rfl⟩:=hget n o h
  refine⟨n,0,0,vs.toArray,fz,R.glob n hG,⟨t,hw,fun h=>by cases h⟩,?_,by simp,(fun h=>by cases h),(fun h=>by cases h)⟩
  rw[List.drop_zero,List.toList_toArray,List.take_length]
  exact(VRL.plain_eq _ _ hp).2 rfl
 ·intro n m o o' h _ _ how
  obtain⟨rfl,rfl⟩:=hget n o h
  cases how
 ·exact R.fresh
 ·exact R.glob
 ·exact R.base
 ·exact R.frame
 ·intro b i v hz
  refine⟨(R.froz b i v hz).1,fun n o h how=>?_⟩
  obtain⟨rfl,rfl⟩:=hget n o h
  cases how
 ·exact R.zprot
 ·exact R.os
 ·exact R.out
 ·exact R.tape
theorem tQ{f:FuncId}{args:List Value}{en:Ending}{H':Heap}{g:Nat}{vs:List Value}{e sz:Nat}(hg:QL g=some vs)(hG:g<G)(hp:DT vs=true)
  (h:∀B,BP P G B f args (hOf G [(g,.cells vs e sz true false)] []) en H') (B:Base):BP P G B f args (hOf G [] []) en H':=by
 intro F w args' R ha
 exact h B F w args' (R.withTab hg hG hp e sz) ha
theorem AHX(hP:CV P 100=true){W:How}(hkn:QP P 100 W)(hlp:QQ P 100 W){f:FuncId}{args:List Value}{v:Value}{n:Nat}{g:Nat}{vs:List Value}{e sz:Nat}(hg:QL g=some vs)(hp:DT vs=true)(ha:A8 100 args=true)
  (h:Is (wpe P (real P) W n (.call f args (hOf 100 [(g,.cells vs e sz true false)] [])) (II fun v'=>v'=v))) (B:Base) (H:Heap):BP P 100 B f args H (.returned v) H:=by
 obtain⟨r,h1,h2⟩:=UD hP hkn hlp n _ _ h.out
 unfold II at h2
 split at h2
 ·rename_i v' u h'
  split at h2
  ·rename_i hc
   simp only[Bool.and_eq_true]at hc
   subst h2
   exact NQ (fun B=>GZ (ins:=[]) (P8 (Nat.le_of_ble_eq_true hc.1) (tQ hg (UA hg) hp h1 B)) (F5 (by simp only[A8,hc.2];rfl))) ha hc.2 B H
  ·exact h2.elim
 ·exact h2.elim
theorem uS{f:FuncId}{args:List Value}{H H':Heap}{e:Ending}(h:BP P G B f args H e H'):BP P G B f args H e (hOf G [] (CY G H')):=by
 intro F w args' R ha
 refine(h F w args' R ha).mono fun e' w' ⟨F',h1,h2,R'⟩=>⟨F',h1,h2,R'.part (fun n o hn=>?_) ?_⟩
 ·rw[H6]at hn
  split at hn
  ·rename_i hr
   rw[K6]at hn
   split at hn
   ·simp only[Option.getD_some]at hn
    rw[←hn];congr 1;omega
   ·cases hn
  ·simp only[YP,Tr.get_lf]at hn;cases hn
 ·have:=R'.next_le
  simp only[hOf,RL];omega
theorem AFW(hP:CV P 100=true){f n g:Nat}{vs:List Value}{e sz:Nat}(hg:QL g=some vs)(hp:DT vs=true)(h:nT (ev P (fun _=>none) n (.call f [] (hOf 100 [(g,.cells vs e sz true false)] [])))=true)(B:Base)(H:Heap):
  BP P 100 B f [] H (.returned (.bool true)) H:=by
 unfold nT at h
 split at h
 ·rename_i u h' h2
  exact NQ (fun B=>GZ (ins:=[]) (uS (tQ hg (UA hg) hp (fun B=>iO hP AC9 n B _ _ h2) B)) (F5 rfl)) rfl rfl B H
 ·cases h
end
end
end Go.Abs
namespace Go.Proofs.Ob
open Go Go.Abs Go.Tlv
noncomputable section
def syB(a:Nat):Sy:=fun b=>match Nat.beq b a with|true=>some true|false=>none
def tRd(s:ByteArray):AJ := .cells [.string s] 124 1 false true
def eC:AJ := .cells [.int .i64 0] 53 1 false true
def dsC:List Deferred:=[{target := .fn (.func 135) ⟨[]⟩,args:=⟨[pA 101]⟩}]
def pan(e:Int):Exit := .panic [{v := .iface 53 (.int .i64 e),recovered:=false}]
abbrev LAt:=Code->Nat->List Value->List Deferred->List (Option AJ)->(Nat->Option AJ->Prop)->(Int->Prop)->Prop
def ADE(L:LAt):LpS:=AA0 [2,3] fun c n AB ds obs K=>L c n AB ds obs (fun k ob=>K (.exit 0) [mkS 102 k,pA 101] [none,some eC,ob]) (fun e=>K (pan e) [top,pA 101] [none,some eC])
def WD(L:LAt):How:=AU (syB 102) (fun _=>false) [] [(3,(37,([0,2,3,4],ADE L)))] [] []
def WS2:How:=AU (syB 102) (fun _=>false) [] [] [] []
def AJa(N:Nd)(L:LAt)(s:ByteArray)(K:RK):Prop:=wpe Tryz.prog N (WD L) 300 (.call 37 [(.string s)] h0) (PT 100 K)
def AGq(N:Nd)(s:ByteArray)(k:Nat)(ob:Option AJ)(last:Int)(back:List Value->List (Option AJ)->Prop)(out:Exit->List Value->List (Option AJ)->Prop):Prop:=
 wpe Tryz.prog N WS2 300 (.code false (AO Tryz.prog 73 3) (C9 100 37 [0,2,3,4] dsC ([pA 100,mkS 102 k,pA 101,.int .u8 last],[some (tRd s),some eC,ob]))) (BM 100 [0,2,3,4] [2,3] 37 dsC back out)
theorem AEO(N:Nd)(L:LAt)(s:ByteArray)(K:RK):AJa N L s K=(L (AO Tryz.prog 73 3) 37 [pA 100,.slice none 0 0,pA 101,.int .u8 0] [(Deferred.mk (Target.fn (Fn.func 135) ⟨[]⟩) (Array.mk [pA 101]))] [Y3 s,TM] (fun o0 l1=>N.cmp .neq .i64 0 .i64 0 (K (.tuple (Array.mk [.slice none 0 0,.int .i64 0])) [none,TM,l1]) (K (.tuple (Array.mk [(.iface 1000000021 (.slice (some ⟨102,0,none⟩) o0 o0)),.int .i64 0])) [none,TM,l1])) (fun z0=>N.cmp .neq .i64 z0 .i64 0 (K (.tuple (Array.mk [.slice none 0 0,.int .i64 z0])) [none,(some (AJ.cells [.int .i64 z0] 53 1 false true))]) (K (.tuple (Array.mk [(.chan (some 0)),.int .i64 0])) [none,(some (AJ.cells [.int .i64 z0] 53 1 false true))]))):=by kernel_rfl
theorem ACj(N:Nd)(s:ByteArray)(k:Nat)(ob:Option AJ)(last:Int)(back:Bk)(out:Ot):AGq N s k ob last back out=(N.scmp .neq s (bytesOf []) (N.slen s (fun z0=>N.cmp .lss .i64 z0 .i64 3 ((([(Deferred.mk (Target.fn (Fn.func 135) ⟨[]⟩) (Array.mk [pA 101]))]:List Deferred)=[(Deferred.mk (Target.fn (Fn.func 135) ⟨[]⟩) (Array.mk [pA 101]))])/\((true=true)/\(out (Exit.panic [(PanicEntry.mk (.iface 53 (.int .i64 4)) false false)]) [(.iface 1000000021 (.slice (some ⟨102,0,none⟩) k k)),pA 101] [Y3 s,TM,ob]))) (N.ssl s none (some 3) (fun s1=>N.ssl s (some 3) none (fun s2=>N.ssl s1 (some 1) none (fun s3=>N.sat s3 0 (fun z4=>N.conv 5 3 .u8 z4 .i64 (fun z5=>N.ari .shl .i64 z5 .u64 8 (fun z6=>N.sat s3 1 (fun z7=>N.conv 5 3 .u8 z7 .i64 (fun z8=>N.ari .or .i64 z6 .i64 z8 (fun z9=>N.sat s1 0 (fun z10=>N.cmp .gtr .u8 z10 .u8 last (N.cmp .gtr .i64 z9 .i64 0 (N.sat s1 0 (fun z11=>N.slen s2 (fun z12=>N.cmp .lss .i64 z12 .i64 z9 ((([(Deferred.mk (Target.fn (Fn.func 135) ⟨[]⟩) (Array.mk [pA 101]))]:List Deferred)=[(Deferred.mk (Target.fn (Fn.func 135) ⟨[]⟩) (Array.mk [pA 101]))])/\((true=true)/\(out (Exit.panic [(PanicEntry.mk (.iface 53 (.int .i64 4)) false false)]) [(.iface 1000000021 (.slice (some ⟨102,0,none⟩) k k)),pA 101] [Y3 s2,TM,ob]))) (N.ssl s2 none (some z9) (fun s13=>N.ssl s2 (some z9) none (fun s14=>N.base true k k ob 94 2 (fun l15=>N.appX k l15 1 [.int .u8 z11,.string s13] 2 24 (fun l16 o17=>(([(Deferred.mk (Target.fn (Fn.func 135) ⟨[]⟩) (Array.mk [pA 101]))]:List Deferred)=[(Deferred.mk (Target.fn (Fn.func 135) ⟨[]⟩) (Array.mk [pA 101]))])/\(back [pA 100,(.slice (some ⟨104,0,none⟩) o17 o17),pA 101,.int .u8 z11] [Y3 s14,TM,none,qq0 z11 s13,(some (AJ.cells l16 94 2 true true))]))))))))) ((([(Deferred.mk (Target.fn (Fn.func 135) ⟨[]⟩) (Array.mk [pA 101]))]:List Deferred)=[(Deferred.mk (Target.fn (Fn.func 135) ⟨[]⟩) (Array.mk [pA 101]))])/\((true=true)/\(out (Exit.panic [(PanicEntry.mk (.iface 53 (.int .i64 3)) false false)]) [(.iface 1000000021 (.slice (some ⟨102,0,none⟩) k k)),pA 101] [Y3 s2,TM,ob])))) ((([(Deferred.mk (Target.fn (Fn.func 135) ⟨[]⟩) (Array.mk [pA 101]))]:List Deferred)=[(Deferred.mk (Target.fn (Fn.func 135) ⟨[]⟩) (Array.mk [pA 101]))])/\((true=true)/\(out (Exit.panic [(PanicEntry.mk (.iface 53 (.int .i64 3)) false false)]) [(.iface 1000000021 (.slice (some ⟨102,0,none⟩) k k)),pA 101] [Y3 s2,TM,ob])))))))))))))))) ((([(Deferred.mk (Target.fn (Fn.func 135) ⟨[]⟩) (Array.mk [pA 101]))]:List Deferred)=[(Deferred.mk (Target.fn (Fn.func 135) ⟨[]⟩) (Array.mk [pA 101]))])/\(out (Exit.exit 0) [(.iface 1000000021 (.slice (some ⟨102,0,none⟩) k k)),pA 101] [Y3 s,TM,ob]))):=by kernel_rfl
def AAf(L:LAt):LpS:=AA0 [4,5] fun c n AB ds obs K=>L c n AB ds obs (fun k ob=>K (.exit 0) [mkS 102 k,pA 101] [none,some eC,ob]) (fun e=>K (pan e) [top,pA 101] [none,some eC])
def WI2(L:LAt):How:=AU (syB 102) (fun _=>false) [] [(2,(27,([0,1,4,5],AAf L)))] [] []
def gRL(N:Nd)(L:LAt)(s:ByteArray)(t:Int)(K:RK):Prop:=wpe Tryz.prog N (WI2 L) 300 (.call 150 [(.string s),(.int .i64 t)] h0) (PT 100 K)
def AJg(N:Nd)(s:ByteArray)(t:Int)(k:Nat)(ob:Option AJ)(back:List Value->List (Option AJ)->Prop)(out:Exit->List Value->List (Option AJ)->Prop):Prop:=
 wpe Tryz.prog N WS2 300 (.code false (AO Tryz.prog 226 2) (C9 100 27 [0,1,4,5] dsC ([pA 100,.int .i64 t,mkS 102 k,pA 101],[some (tRd s),some eC,ob]))) (BM 100 [0,1,4,5] [4,5] 27 dsC back out)
theorem AHq(N:Nd)(L:LAt)(s:ByteArray)(t:Int)(K:RK):gRL N L s t K=(L (AO Tryz.prog 226 2) 27 [pA 100,.int .i64 t,.slice none 0 0,pA 101] [(Deferred.mk (Target.fn (Fn.func 135) ⟨[]⟩) (Array.mk [pA 101]))] [Y3 s,TM] (fun o0 l1=>N.cmp .neq .i64 0 .i64 0 (K (.tuple (Array.mk [.slice none 0 0,.int .i64 0])) [none,TM,l1]) (K (.tuple (Array.mk [(.iface 1000000021 (.slice (some ⟨102,0,none⟩) o0 o0)),.int .i64 0])) [none,TM,l1])) (fun z0=>N.cmp .neq .i64 z0 .i64 0 (K (.tuple (Array.mk [.slice none 0 0,.int .i64 z0])) [none,(some (AJ.cells [.int .i64 z0] 53 1 false true))]) (K (.tuple (Array.mk [(.chan (some 0)),.int .i64 0])) [none,(some (AJ.cells [.int .i64 z0] 53 1 false true))]))):=by kernel_rfl
theorem AE3(N:Nd)(s:ByteArray)(t:Int)(k:Nat)(ob:Option AJ)(back:Bk)(out:Ot):AJg N s t k ob back out=(N.scmp .neq s (bytesOf []) (N.slen s (fun z0=>N.cmp .lss .i64 z0 .i64 2 ((([(Deferred.mk (Target.fn (Fn.func 135) ⟨[]⟩) (Array.mk [pA 101]))]:List Deferred)=[(Deferred.mk (Target.fn (Fn.func 135) ⟨[]⟩) (Array.mk [pA 101]))])/\((true=true)/\(out (Exit.panic [(PanicEntry.mk (.iface 53 (.int .i64 4)) false false)]) [(.iface 1000000021 (.slice (some ⟨102,0,none⟩) k k)),pA 101] [Y3 s,TM,ob]))) (N.ssl s none (some 2) (fun s1=>N.ssl s (some 2) none (fun s2=>N.sat s1 0 (fun z3=>N.conv 5 3 .u8 z3 .i64 (fun z4=>N.ari .shl .i64 z4 .u64 8 (fun z5=>N.sat s1 1 (fun z6=>N.conv 5 3 .u8 z6 .i64 (fun z7=>N.ari .or .i64 z5 .i64 z7 (fun z8=>N.cmp .lss .i64 (Int.ofNat k) .i64 t (N.slen s2 (fun z9=>N.cmp .lss .i64 z9 .i64 z8 ((([(Deferred.mk (Target.fn (Fn.func 135) ⟨[]⟩) (Array.mk [pA 101]))]:List Deferred)=[(Deferred.mk (Target.fn (Fn.func 135) ⟨[]⟩) (Array.mk [pA 101]))])/\((true=true)/\(out (Exit.panic [(PanicEntry.mk (.iface 53 (.int .i64 4)) false false)]) [(.iface 1000000021 (.slice (some ⟨102,0,none⟩) k k)),pA 101] [Y3 s2,TM,ob]))) (N.ssl s2 none (some z8) (fun s10=>N.ssl s2 (some z8) none (fun s11=>N.base true k k ob 9 1 (fun l12=>N.appX k l12 1 [.string s10] 1 16 (fun l13 o14=>(([(Deferred.mk (Target.fn (Fn.func 135) ⟨[]⟩) (Array.mk [pA 101]))]:List Deferred)=[(Deferred.mk (Target.fn (Fn.func 135) ⟨[]⟩) (Array.mk [pA 101]))])/\(back [pA 100,.int .i64 t,(.slice (some ⟨104,0,none⟩) o14 o14),pA 101] [Y3 s11,TM,none,(some (AJ.cells [.string s10] 9 1 false true)),(some (AJ.cells l13 9 1 true true))])))))))) ((([(Deferred.mk (Target.fn (Fn.func 135) ⟨[]⟩) (Array.mk [pA 101]))]:List Deferred)=[(Deferred.mk (Target.fn (Fn.func 135) ⟨[]⟩) (Array.mk [pA 101]))])/\((true=true)/\(out (Exit.panic [(PanicEntry.mk (.iface 53 (.int .i64 3)) false false)]) [(.iface 1000000021 (.slice (some ⟨102,0,none⟩) k k)),pA 101] [Y3 s2,TM,ob])))))))))))))) ((([(Deferred.mk (Target.fn (Fn.func 135) ⟨[]⟩) (Array.mk [pA 101]))]:List Deferred)=[(Deferred.mk (Target.fn (Fn.func 135) ⟨[]⟩) (Array.mk [pA 101]))])/\(out (Exit.exit 0) [(.iface 1000000021 (.slice (some ⟨102,0,none⟩) k k)),pA 101] [Y3 s,TM,ob]))):=by kernel_rfl
abbrev LNt:=Code->Nat->List Value->List (Option AJ)->(Int->Prop)->Prop
def ADF(L:LNt):LpS:=lpS [1,6] fun c n AB obs K=>match AB with
 |_::t::_=>L c n AB obs (fun z=>K (.exit 0) [t,.int .u64 z] [])
 |_=>False
def WN2(L:LNt):How:=AU (fun _=>none) (fun _=>false) [] [(5,(37,([0,1,6,21,22],ADF L)))] [] []
def AJi(N:Nd)(L:LNt)(s:ByteArray)(t:Int)(K:Value->Prop):Prop:=wpe Tryz.prog N (WN2 L) 300 (.call 142 [(.string s),(.int .u64 t)] h0) (II K)
def AJh(N:Nd)(s:ByteArray)(t z n i:Int)(back:List Value->List (Option AJ)->Prop)(out:Exit->List Value->List (Option AJ)->Prop):Prop:=
 wpe Tryz.prog N (AU (fun _=>none) (fun _=>false) [] [] [] []) 300 (.code false (AO Tryz.prog 142 5) (C9 100 37 [0,1,6,21,22] [] ([.string s,.int .u64 t,.int .u64 z,.int .i64 n,.int .i64 i],[]))) (BM 100 [0,1,6,21,22] [1,6] 37 [] back out)
theorem AE5(N:Nd)(L:LNt)(s:ByteArray)(t:Int)(K:Value->Prop):AJi N L s t K=(N.slen s (fun z0=>N.cmp .gtr .i64 z0 .i64 8 (K (.tuple (Array.mk [.int .u64 0,.int .i64 3]))) (N.scmp .neq s (bytesOf []) (N.sat s 0 (fun z1=>N.cmp .eql .u8 z1 .u8 0 (K (.tuple (Array.mk [.int .u64 0,.int .i64 3]))) (N.slen s (fun z2=>L (AO Tryz.prog 142 5) 37 [.string s,.int .u64 t,.int .u64 0,.int .i64 z2,.int .i64 0] [] (fun z3=>N.cmp .gtr .u64 z3 .u64 t (K (.tuple (Array.mk [.int .u64 0,.int .i64 3]))) (K (.tuple (Array.mk [.int .u64 z3,.int .i64 0])))))))) (N.slen s (fun z1=>L (AO Tryz.prog 142 5) 37 [.string s,.int .u64 t,.int .u64 0,.int .i64 z1,.int .i64 0] [] (fun z2=>N.cmp .gtr .u64 z2 .u64 t (K (.tuple (Array.mk [.int .u64 0,.int .i64 3]))) (K (.tuple (Array.mk [.int .u64 z2,.int .i64 0]))))))))):=by kernel_rfl
theorem AE4(N:Nd)(s:ByteArray)(t z n i:Int)(back:Bk)(out:Ot):AJh N s t z n i back out=(N.cmp .lss .i64 i .i64 n (N.ari .shl .u64 z .u64 8 (fun z0=>N.sat s i (fun z1=>N.conv 5 28 .u8 z1 .u64 (fun z2=>N.ari .or .u64 z0 .u64 z2 (fun z3=>N.ari .add .i64 i .i64 1 (fun z4=>nD/\(back [.string s,.int .u64 t,.int .u64 z3,.int .i64 n,.int .i64 z4] []))))))) (nD/\(out (Exit.exit 0) [.int .u64 t,.int .u64 z] []))):=by kernel_rfl
end
end Go.Proofs.Ob
