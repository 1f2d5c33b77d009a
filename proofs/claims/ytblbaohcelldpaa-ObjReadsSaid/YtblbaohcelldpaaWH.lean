/- Lists that a call makes: owned by its caller; lists of one's own, lent to calls that only look at them; tables. -/
import Derived.Test.YtblbaohcelldpaaU8
import Derived.Test.YtblbaohcelldpaaR3
set_option linter.all false
namespace Go.Abs
open Go
noncomputable section
section
variable {P:Program} {G:Nat} {B:Base}
mutual
def zfree:Value->Bool
 | .pointer (some _) | .slice (some _) _ _ | .map (some _)=>false
 | .func _ x y=>zfreeA x&&zfreeA y
 | .iface t v=>match isMk t with
  |true=>Nat.beq t mkD&&(match v with
   | .agg ⟨[]⟩=>true
   |_=>false)
  |false=>zfree v
 | .agg c=>zfreeA c
 | .tuple c=>zfreeA c
 |_=>true
def zfreeA:Array Value->Bool
 |⟨l⟩=>zfreeL l
def zfreeL:List Value->Bool
 | []=>true
 |v::l=>zfree v&&zfreeL l
end
theorem IR.nilD{z z':Nat->Nat->Option Value}{x v':Value}(hx:x = .agg ⟨[]⟩)(h:IR z mkD x v'):IR z' mkD x v':=by
 unfold IR at h ⊢
 simp only[show isMk mkD=true from rfl]at h ⊢
 rcases h with⟨_,rows,e,h⟩ | ⟨e,_⟩ | ⟨e,_⟩
 ·subst hx
  simp only[Value.agg.injEq,Array.mk.injEq]at e;subst e
  refine .inl ⟨trivial,[],rfl,?_⟩
  rcases h with h|⟨a,c,sz,e3,e3',e4,e5,h2⟩
  ·exact .inl h
  ·exact .inl ⟨rfl,some a,c,e3⟩
 ·cases e
 ·cases e
mutual
theorem VR.zfree{F F':Nm}:∀(v v':Value),zfree v=true->VR F v v'->VR F' v v'
 | .bool b,v',_,hv=>by simpa [VR]using hv
 | .int k n,v',_,hv=>by simpa [VR]using hv
 | .float k n,v',_,hv=>by simpa [VR]using hv
 | .complex k n m,v',_,hv=>by simpa [VR]using hv
 | .string s,v',_,hv=>by simpa [VR]using hv
 | .pointer none,v',_,hv=>by simpa [VR]using hv
 | .pointer (some a),v',h,hv=>by simp[Abs.zfree]at h
 | .slice none l c,v',_,hv=>by simpa [VR]using hv
 | .slice (some a) l c,v',h,hv=>by simp[Abs.zfree]at h
 | .map none,v',_,hv=>by simpa [VR]using hv
 | .map (some r),v',h,hv=>by simp[Abs.zfree]at h
 | .chan none,v',_,hv=>by simpa [VR]using hv
 | .chan (some r),v',_,hv=>by simp[VR]
 | .func fn first captured,v',h,hv=>by
  simp only[Abs.zfree,Bool.and_eq_true]at h
  simp only[VR]at hv ⊢;obtain⟨f',c',h1,h2,e⟩:=hv
  exact⟨f',c',VRA.zfree _ _ h.1 h1,VRA.zfree _ _ h.2 h2,e⟩
 | .nilFunc,v',_,hv=>by simpa [VR]using hv
 | .iface t v,v',h,hv=>by
  simp only[Abs.zfree]at h
  simp only[VR]at hv ⊢
  split at h
  ·rename_i hm
   simp only[Bool.and_eq_true]at h
   have ht:=Nat.eq_of_beq_eq_true h.1
   subst ht
   have h2:=h.2
   split at h2
   ·rcases hv with⟨x',h1,e⟩ | hv
    ·simp only[VR,VRA,VRL]at h1
     obtain⟨cs',h3,e3⟩:=h1
     subst e3
     have:cs'=⟨[]⟩:=by cases cs';subst h3;rfl
     subst this
     exact .inl ⟨_,by simp only[VR,VRA,VRL];exact⟨#[],rfl,rfl⟩,e.nilD rfl⟩
    ·exact .inr hv
   ·cases h2
  ·rename_i hm
   rcases hv with⟨x',h1,e⟩ | ⟨e,_⟩
   ·refine .inl ⟨x',?_,?_⟩
    ·rw[Nm.on_real hm]at h1 ⊢
     exact VR.zfree _ _ h h1
    ·unfold IR at e ⊢;rw[hm]at e ⊢;exact e
   ·subst e;cases hm
 | .nilIface,v',_,hv=>by simpa [VR]using hv
 | .agg cs,v',h,hv=>by
  simp only[Abs.zfree]at h
  simp only[VR]at hv ⊢;obtain⟨x',h1,e⟩:=hv;exact⟨x',VRA.zfree _ _ h h1,e⟩
 | .tuple cs,v',h,hv=>by
  simp only[Abs.zfree]at h
  simp only[VR]at hv ⊢;obtain⟨x',h1,e⟩:=hv;exact⟨x',VRA.zfree _ _ h h1,e⟩
theorem VRA.zfree{F F':Nm}:∀(c c':Array Value),zfreeA c=true->VRA F c c'->VRA F' c c'
 |⟨l⟩,c',h,hv=>by simp only[Abs.zfreeA]at h;simp only[VRA]at hv ⊢;exact VRL.zfree _ _ h hv
theorem VRL.zfree{F F':Nm}:∀(l l':List Value),zfreeL l=true->VRL F l l'->VRL F' l l'
 | [],l',_,hv=>by simpa [VRL]using hv
 |v::l,l',h,hv=>by
  simp only[Abs.zfreeL,Bool.and_eq_true]at h
  simp only[VRL]at hv ⊢;obtain⟨v',r',h1,h2,e⟩:=hv
  exact⟨v',r',VR.zfree _ _ h.1 h1,VRL.zfree _ _ h.2 h2,e⟩
end
def Hole(p:Value->Value):Prop:=∀(F:Nm) a x,VR F (p a) x->∃y,VR F a y/\∀F' u,VR F' u y->VR F' (p u) x
theorem hole_id:Hole fun a=>a:=fun F a x h=>⟨x,h,fun F' u hu=>hu⟩
theorem hole_list{p:Value->Value}(hp:Hole p){pre post:List Value}(h1:zfreeL pre=true)(h2:zfreeL post=true){F:Nm}{a:Value}{l:List Value}(h:VRL F (pre++p a::post) l):
  ∃y,VR F a y/\∀F' u,VR F' u y->VRL F' (pre++p u::post) l:=by
 obtain⟨q,r,e,hq,hr⟩:=VRL.split h
 simp only[VRL]at hr
 obtain⟨v',r',g1,g2,e2⟩:=hr
 obtain⟨y,k1,k2⟩:=hp F a v' g1
 refine⟨y,k1,fun F' u hu=>?_⟩
 rw[e,e2]
 refine VRL.app (VRL.zfree _ _ h1 hq) ?_
 simp only[VRL]
 exact⟨v',r',k2 F' u hu,VRL.zfree _ _ h2 g2,rfl⟩
theorem hole_agg{p:Value->Value}(hp:Hole p){pre post:List Value}(h1:zfreeL pre=true)(h2:zfreeL post=true):Hole fun a => .agg ⟨pre++p a::post⟩:=by
 intro F a x h
 simp only[VR,VRA]at h
 obtain⟨cs',h3,e⟩:=h
 obtain⟨y,k1,k2⟩:=hole_list hp h1 h2 h3
 exact⟨y,k1,fun F' u hu=>by simp only[VR,VRA];exact⟨cs',k2 F' u hu,e⟩⟩
theorem hole_tup{p:Value->Value}(hp:Hole p){pre post:List Value}(h1:zfreeL pre=true)(h2:zfreeL post=true):Hole fun a => .tuple ⟨pre++p a::post⟩:=by
 intro F a x h
 simp only[VR,VRA]at h
 obtain⟨cs',h3,e⟩:=h
 obtain⟨y,k1,k2⟩:=hole_list hp h1 h2 h3
 exact⟨y,k1,fun F' u hu=>by simp only[VR,VRA];exact⟨cs',k2 F' u hu,e⟩⟩
def HoleB(p:Value->Value):Prop:=∀(F:Nm) a x,VR F (p a) x->∃y,VR F a y/\∀F' u,Agree 0 F F'->VR F' u y->VR F' (p u) x
theorem holeB_id:HoleB fun a=>a:=fun F a x h=>⟨x,h,fun F' u _ hu=>hu⟩
theorem holeB_list{p:Value->Value}(hp:HoleB p){pre post:List Value}(h1:belowL 0 pre=true)(h2:belowL 0 post=true){F:Nm}{a:Value}{l:List Value}(h:VRL F (pre++p a::post) l):
  ∃y,VR F a y/\∀F' u,Agree 0 F F'->VR F' u y->VRL F' (pre++p u::post) l:=by
 obtain⟨q,r,e,hq,hr⟩:=VRL.split h
 simp only[VRL]at hr
 obtain⟨v',r',g1,g2,e2⟩:=hr
 obtain⟨y,k1,k2⟩:=hp F a v' g1
 refine⟨y,k1,fun F' u hA hu=>?_⟩
 rw[e,e2]
 refine VRL.app (VRL.below hA _ _ h1 hq) ?_
 simp only[VRL]
 exact⟨v',r',k2 F' u hA hu,VRL.below hA _ _ h2 g2,rfl⟩
theorem holeB_agg{p:Value->Value}(hp:HoleB p){pre post:List Value}(h1:belowL 0 pre=true)(h2:belowL 0 post=true):HoleB fun a => .agg ⟨pre++p a::post⟩:=by
 intro F a x h
 simp only[VR,VRA]at h
 obtain⟨cs',h3,e⟩:=h
 obtain⟨y,k1,k2⟩:=holeB_list hp h1 h2 h3
 exact⟨y,k1,fun F' u hA hu=>by simp only[VR,VRA];exact⟨cs',k2 F' u hA hu,e⟩⟩
theorem flat_cons{size:Nat}{r:Value}{rows vs:List Value}(h:flatRows size (r::rows)=some vs):∃cs l:List Value,r = .agg ⟨cs⟩/\cs.length=size/\flatRows size rows=some l/\vs=cs++l:=by
 cases r<;>simp only[flatRows]at h<;>try(cases h;done)
 rename_i c
 obtain⟨cs⟩:=c
 simp only at h
 split at h<;>(try(cases h;done))
 rename_i l2 hsz hl2
 simp only[Option.some.injEq]at h
 exact⟨cs,l2,rfl,Nat.eq_of_beq_eq_true hsz,hl2,h.symm⟩
theorem flat_cells{F F':Nm}{z:Nat->Nat->Option Value}{b size:Nat}{cc:List Value}(hz:∀i v,z b i=some v->cc[i]?=some v):∀(rows vs rows':List Value) (off:Nat),flatRows size rows=some vs->zfreeL vs=true->VRL F rows rows'->
  (∀i r,rows'[i]?=some r->∃cs:List Value,r = .agg ⟨cs⟩/\zRow z b (off+i*size) cs)->VRL F' vs ((cc.drop off).take vs.length)
 | [],vs,rows',off,hf,_,hv,_=>by
  simp only[flatRows,Option.some.injEq]at hf;subst hf;simp[VRL]
 |r::rows,vs,rows',off,hf,hb,hv,hr=>by
  obtain⟨cs,l,rfl,hn,hl,rfl⟩:=flat_cons hf
  simp only[VRL]at hv
  obtain⟨x,rr,h1,h2,e⟩:=hv
  subst e
  simp only[VR,VRA]at h1
  obtain⟨cs',h3,e⟩:=h1
  subst e
  obtain⟨c2,g1,g2⟩:=hr 0 _ rfl
  simp only[Value.agg.injEq]at g1
  have g1:cs'.toList=c2:=by rw[g1]
  have hn':cs'.toList.length=size:=by rw[←hn];exact VRL.length h3
  have hzf:zfreeL cs=true/\zfreeL l=true:=by
   have:∀a b:List Value,zfreeL (a++b)=true->zfreeL a=true/\zfreeL b=true:=by
    intro a
    induction a with
    |nil=>intro b h;exact⟨rfl,h⟩
    |cons v a ih=>
     intro b h
     simp only[List.cons_append,zfreeL,Bool.and_eq_true]at h ⊢
     obtain⟨k1,k2⟩:=ih b h.2
     exact⟨⟨h.1,k1⟩,k2⟩
   exact this _ _ hb
  have ih:=flat_cells (F':=F') hz rows l rr (off+size) hl hzf.2 h2 (fun i r hi=>by
   obtain⟨c3,g3,g4⟩:=hr (i+1) r hi
   refine⟨c3,g3,?_⟩
   rw[show off+size+i*size=off+(i+1)*size by rw[Nat.succ_mul];omega];exact g4)
  rw[List.length_append,List.take_add]
  have e1:(cc.drop off).take cs.length=cs'.toList:=by
   apply List.ext_getElem?
   intro j
   rw[List.getElem?_take]
   split
   ·rename_i hj
    rw[List.getElem?_drop]
    have hj2:j<cs'.toList.length:=by omega
    have:=hz (off+j) cs'.toList[j] (by have:=g2 j cs'.toList[j] (by rw[←g1];exact List.getElem?_eq_getElem hj2);simpa using this)
    rw[this,List.getElem?_eq_getElem hj2]
   ·rename_i hj
    rw[List.getElem?_eq_none (by omega)]
  rw[e1,List.drop_drop,hn]
  exact VRL.app (VRL.zfree _ _ hzf.1 h3) ih
theorem thaw {f:FuncId} {args:List Value} {p:Value->Value} (hp:Hole p) {rows vs:List Value} {elem size:Nat} (hS:∀B H,CallH P G B f args H (.returned (p (dsl rows))) H)
    (ha:plainL args=true) (hf:flatRows size rows=some vs) (hne:rows≠[]) (hv:zfreeL vs=true) (B:Base) (H:Heap):
    CallH P G B f args H (.returned (p (.slice (some ⟨H.next,0,none⟩) rows.length rows.length))) (H.push (.cells vs elem 0 true true)):=by
  intro F w args' R hargs
  have hargs':args'.toList=args:=(VRL.plain_eq _ _ ha).1 hargs
  have hGn:=R.next_le
  let F0:Nm:=⟨fun m=>if m<G then F m else none,fun _ _=>none⟩
  let B2:Base:=⟨w,fun i=>i<w.heap.size,fun i h=>h,fun _ _=>none,fun g vs hg=>by
    obtain⟨t,fz,h2⟩:=R.tabW g vs hg
    exact⟨(Array.getElem?_eq_some_iff.1 h2).1,t,fz,h2⟩⟩
  have hno:∀m o',(hOf G [] []).get m≠some o':=by
    intro m o' h
    obtain⟨_,h2,_⟩:=hOf_at h
    simp only[List.length_nil]at h2;omega
  have R2:Rel G F0 (hOf G [] []) B2 w:=by
    constructor
    · intro m o' h;exact absurd h (hno m o')
    · intro m m' o' o2 h;exact absurd h (hno m o')
    · intro m h
      have h:G+0<=m:=h
      show(if m<G then F m else none)=none
      rw[if_neg (by omega)]
    · intro g hg
      show(if g<G then F g else none)=_
      rw[if_pos hg];exact R.glob g hg
    · exact Nat.le_refl _
    · intro i _;rfl
    · intro b' i v hz;cases hz
    · intro b' i v hz;cases hz
    · rfl
    · rfl
    · rfl
  refine(hS B2 (hOf G [] []) F0 w args' R2 (by rw[hargs'];exact(VRL.plain_eq _ _ ha).2 rfl)).mono fun e1 w' ⟨F3,hle,he,R3⟩=>?_
  simp only[EnR]at he
  obtain⟨v',h3,h4⟩:=he
  -- the list
  obtain⟨y,hy,hpl⟩:=hp F3 (dsl rows) v' h3
  have hy2:=hy
  simp only[dsl,VR]at hy2
  obtain ⟨rows',a,c,sz,q1,q2,q3,q4,q5,q6⟩:∃(rows':List Value) (a:Addr) (c sz:Nat),VRL F3.bare rows rows'/\y = .slice (some a) rows'.length c/\rows'.length<=c/\a.spot=none/\0<sz/\∀i r,rows'[i]?=some r->∃cs:List Value,r = .agg ⟨cs⟩/\cs.length=sz/\zRow F3.z a.block (a.off+i*sz) cs:=by
    rcases hy2 with⟨x',h1,h2⟩ | ⟨e,_⟩
    · rw[Nm.on_D]at h1
      simp only[VRA]at h1
      obtain⟨cs',h5,e5⟩:=h1
      unfold IR at h2
      simp only[show isMk mkD=true from rfl]at h2
      rcases h2 with⟨_,rows',e6,h6⟩ | ⟨e,_⟩ | ⟨e,_⟩
      · subst e5
        simp only[Value.agg.injEq]at e6
        subst e6
        rcases h6 with⟨e7,_⟩ | ⟨a,c,sz,k1,k2,k3,k4,k5⟩
        · exfalso
          have:=VRL.length h5
          rw[e7]at this
          exact hne (List.length_eq_zero_iff.1 this.symm)
        · exact⟨rows',a,c,sz,h5,k1,k2,k3,k4,k5⟩
      · cases e
      · cases e
    · cases e
  have hrl:rows'.length=rows.length:=VRL.length q1
  -- the rows' length
  have hszE:sz=size:=by
    cases rows with
    |nil=>exact absurd rfl hne
    |cons r rs=>
      obtain⟨cs,l,rfl,hn,_,_⟩:=flat_cons hf
      simp only[VRL]at q1
      obtain⟨x,rr,h1,h2,e⟩:=q1
      subst e
      simp only[VR,VRA]at h1
      obtain⟨cs',h5,e⟩:=h1
      subst e
      obtain⟨c2,g1,g2,g3⟩:=q6 0 _ rfl
      simp only[Value.agg.injEq]at g1
      have g1:cs'.toList=c2:=by rw[g1]
      have:=VRL.length h5
      rw[g1]at this;omega
  subst hszE
  -- its block
  obtain⟨r0,hr0⟩:∃r,rows'[0]?=some r:=by
    cases rows' with
    |nil=>exact absurd (List.length_eq_zero_iff.1 hrl.symm) hne
    |cons r _=>exact⟨r,rfl⟩
  obtain⟨cs0,g1,g2,g3⟩:=q6 0 r0 hr0
  have hz0:∃v,F3.z a.block (a.off+0*sz)=some v:=by
    cases cs0 with
    |nil=>simp only[List.length_nil]at g2;omega
    |cons v0 _=>exact⟨v0,by have:=g3 0 v0 rfl;simpa using this⟩
  obtain⟨v0,hz0⟩:=hz0
  have hnew:¬B2.prot a.block:=fun h=>by
    have:B2.z a.block (a.off+0*sz)=some v0:=R3.zprot _ _ _ hz0 h
    cases this
  have hge:w.heap.size<=a.block:=Nat.le_of_not_lt hnew
  obtain⟨⟨cc,t,fz,hw,_,hun⟩,_⟩:=R3.froz _ _ _ hz0
  have hun:=hun hnew
  have hcell:∀i v,F3.z a.block i=some v->cc.toList[i]?=some v:=by
    intro i v hz
    obtain⟨⟨c2,t2,fz2,k1,k2,_⟩,_⟩:=R3.froz _ _ _ hz
    rw[hw]at k1;simp only[Option.some.injEq,Obj.cells.injEq]at k1
    rw[k1.1];simpa using k2
  let F4:Nm:=⟨fun m=>if m=H.next then some (a.block,c-rows.length,a.off)else F m,F.z⟩
  have hF4:Nm.le F F4:=by
    refine⟨fun n x h=>?_,zle_refl _⟩
    show(if n=H.next then _ else F n)=some x
    rw[if_neg]
    · exact h
    · intro e;subst e;rw[R.fresh _ (Nat.le_refl _)]at h;cases h
  have hold:∀m o',H.get m=some o'->m<H.next/\∀b',blk F m=some b'->b' < w.heap.size/\w'.heap[b']?=w.heap[b']?:=by
    intro m o' h
    refine⟨R.live_lt h,fun b' hb'=>?_⟩
    obtain⟨b2,g1,g2,_⟩:=R.blk_lt h
    rw[hb']at g1;simp only[Option.some.injEq]at g1;subst g1
    exact⟨g2,R3.frame b' g2⟩
  have hvs:VRL F4 vs ((cc.toList.drop a.off).take vs.length):=flat_cells (F:=F3.bare) (z:=F3.z) (b:=a.block) hcell rows vs rows' a.off hf hv q1 fun i r hr=>by
    obtain⟨cs,k1,_,k3⟩:=q6 i r hr
    exact⟨cs,k1,k3⟩
  have hlen:a.off+vs.length<=cc.size:=by
    have:=VRL.length hvs
    have hcc:cc.toList.length=cc.size:=Array.length_toList
    have h6:min vs.length (cc.size-a.off)=vs.length:=by
      rw[←hcc,←List.length_drop,←List.length_take];exact this
    clear this
    have h5:0<vs.length:=by
      cases rows with
      |nil=>exact absurd rfl hne
      |cons r rs=>
        obtain⟨cs,l,_,hn,_,rfl⟩:=flat_cons hf
        rw[List.length_append];omega
    omega
  have hb4:∀n,n≠H.next->F4 n=F n:=fun n h=>by
    show(if n=H.next then _ else F n)=F n
    rw[if_neg h]
  have hb4n:blk F4 H.next=some a.block:=by
    show Option.map _ (if H.next=H.next then _ else _)=_
    rw[if_pos rfl];rfl
  refine⟨F4,hF4,?_,?_⟩
  · simp only[EnR]
    refine⟨v',hpl F4 _ ?_,h4⟩
    simp only[VR]
    refine⟨a,c-rows.length,a.off,?_,?_,?_,?_⟩
    · show(if H.next=H.next then _ else _)=_
      rw[if_pos rfl]
    · show a.off=0+a.off
      omega
    · exact q4
    · rw[q2,hrl]
      congr 1;omega
  · constructor
    · intro n o h
      rw[Heap.get_push]at h
      split at h
      · rename_i hn
        simp only[Option.some.injEq]at h;subst h;subst hn
        refine⟨a.block,c-rows.length,a.off,cc,fz,?_,⟨t,hw,fun _=>rfl⟩,hvs,by omega,(fun h=>by cases h),fun _=>⟨fun hp=>?_,hun⟩⟩
        · show(if H.next=H.next then _ else _)=_
          rw[if_pos rfl]
        · have:=B.lt _ hp;have:=R.base;omega
      · exact objR_mono hF4 (objR_other (R.obj n o h) fun b' hb'=>((hold n o h).2 b' hb').2)
    · intro n m o o' hn hm hne how
      rw[Heap.get_push]at hn hm
      split at hn<;>split at hm
      · omega
      · rename_i h5 h6
        obtain⟨k1,k2⟩:=hold m o' hm
        subst h5
        rw[hb4n]
        intro e
        have e2:blk F m=some a.block:=by rw[e];show _=Option.map _ (F4 m);rw[hb4 m h6];rfl
        have:=(k2 _ e2).1;omega
      · rename_i h5 h6
        obtain⟨k1,k2⟩:=hold n o hn
        subst h6
        rw[hb4n]
        intro e
        have e2:blk F n=some a.block:=by rw[←e];show _=Option.map _ (F4 n);rw[hb4 n h5];rfl
        have:=(k2 _ e2).1;omega
      · rename_i h5 h6
        have:=R.inj n m o o' hn hm hne how
        show Option.map _ (F4 n)≠Option.map _ (F4 m)
        rw[hb4 n h5,hb4 m h6];exact this
    · intro n hn
      have hn:H.next+1<=n:=hn
      rw[hb4 n (by omega)];exact R.fresh n (by omega)
    · intro g hg
      rw[hb4 g (by omega)];exact R.glob g hg
    · have:=R.base;have:=R3.base
      have e:B2.w.heap.size=w.heap.size:=rfl
      omega
    · intro i hi
      have h1:=B.lt i hi
      have h2:=R.base
      rw[R3.frame i (show i<w.heap.size by omega)];exact R.frame i hi
    · intro b' i v hz
      obtain⟨⟨c2,t2,fz2,k1,k2,k3⟩,k4⟩:=R.froz b' i v hz
      have hlt:b' < w.heap.size:=(Array.getElem?_eq_some_iff.1 k1).1
      refine⟨⟨c2,t2,fz2,by rw[R3.frame b' hlt];exact k1,k2,k3⟩,fun n o hn how=>?_⟩
      rw[Heap.get_push]at hn
      split at hn
      · rename_i h5
        subst h5
        rw[hb4n];intro e
        simp only[Option.some.injEq]at e;omega
      · rename_i h5
        have:=k4 n o hn how
        show Option.map _ (F4 n)≠_
        rw[hb4 n h5];exact this
    · exact R.zprot
    · rw[R3.os];exact R.os
    · rw[R3.out];exact R.out
    · rw[R3.tape];exact R.tape
theorem lend{f:FuncId}{p:Value->Value}(hp:HoleB p){pre post:List Value}{rows vs:List Value}{v:Value}{H:Heap}{n k c elem size sz0:Nat}{lo:Bool}
  (hS:∀B H,CallH P G B f (pre++p (.iface mkD (.agg ⟨rows⟩))::post) H (.returned v) H) (hget:H.get n=some (.cells vs elem sz0 lo true)) (hf:flatRows size rows=some vs) (hb:belowL 0 vs=true) (hs:0<size) (hk:k=rows.length) (hc:k<=c)
  (hpre:belowL 0 pre=true) (hpost:belowL 0 post=true) (hv:plain v=true) (B:Base):CallH P G B f (pre++p (.slice (some ⟨n,0,none⟩) k c)::post) H (.returned v) H:=by
 subst hk
 intro F w args' R ha
 have hGn:=R.next_le
 obtain⟨b,d,o,cc,fz,hF,⟨t,hw,ht⟩,hvl,hsz,hex,hown⟩:=R.obj _ _ hget
 have hnz:∀j,F.z b j=none:=by
  intro j
  cases hz:F.z b j with
  |none=>rfl
  |some v=>exact absurd (by simp[blk,hF]) ((R.froz b j v hz).2 _ _ hget rfl)
 let zz:Nat->Nat->Option Value:=fun b' j=>if b'=b/\o<=j/\j<o+vs.length then cc[j]? else F.z b' j
 have hzz:zle F.z zz:=by
  intro b' j v hz
  show(if b'=b/\o<=j/\j<o+vs.length then cc[j]? else F.z b' j)=some v
  rw[if_neg]
  ·exact hz
  ·intro hc;rw[hc.1,hnz]at hz;cases hz
 let F1:Nm:=⟨F.f,zz⟩
 let F2:Nm:=⟨fun m=>if m<G then F m else none,zz⟩
 have hFG:∀m,m<G->F m=some (m,0,0):=R.glob
 let B2:Base:=⟨w,fun i=>i<w.heap.size,fun i h=>h,zz,fun g vs hg=>by
  obtain⟨t,fz,h2⟩:=R.tabW g vs hg
  exact⟨(Array.getElem?_eq_some_iff.1 h2).1,t,fz,h2⟩⟩
 have hfz:∀b' i v,zz b' i=some v->∃c t fz,w.heap[b']?=some (.cells c t fz)/\c[i]?=some v:=by
  intro b' i v hz
  have hz:(if b'=b/\o<=i/\i<o+vs.length then cc[i]? else F.z b' i)=some v:=hz
  split at hz
  ·rename_i hcc;exact⟨cc,t,fz,by rw[hcc.1];exact hw,hz⟩
  ·obtain⟨⟨c,t,fz,g1,g2,_⟩,_⟩:=R.froz b' i v hz
   exact⟨c,t,fz,g1,g2⟩
 have hno:∀m o',(hOf G [] []).get m≠some o':=by
  intro m o' h
  obtain⟨_,h2,_⟩:=hOf_at h
  simp only[List.length_nil]at h2;omega
 have R2:Rel G F2 (hOf G [] []) B2 w:=by
  constructor
  ·intro m o' h;exact absurd h (hno m o')
  ·intro m m' o' o2 h;exact absurd h (hno m o')
  ·intro m h
   have h:G+0<=m:=h
   show(if m<G then F m else none)=none
   rw[if_neg (by omega)]
  ·intro g hg
   show(if g<G then F g else none)=_
   rw[if_pos hg];exact R.glob g hg
  ·exact Nat.le_refl _
  ·intro i _;rfl
  ·intro b' i v hz
   obtain⟨c2,t2,fz2,g1,g2⟩:=hfz b' i v hz
   exact⟨⟨c2,t2,fz2,g1,g2,fun hn=>absurd (Array.getElem?_eq_some_iff.1 g1).1 hn⟩,fun m o' h=>absurd h (hno m o')⟩
  ·intro b' i v hz _;exact hz
  ·rfl
  ·rfl
  ·rfl
 obtain⟨a,x,e,hx,hy⟩:=VRL.split ha
 have hag:Agree 0 F F2:=⟨fun n hn=>absurd hn (Nat.not_lt_zero n),hzz⟩
 simp only[VRL]at hy
 obtain⟨y,q',hy,hq,e2⟩:=hy
 subst e2
 obtain⟨y0,hy,hpl⟩:=hp F _ y hy
 have hy2:VR F2 (p (.iface mkD (.agg ⟨rows⟩))) y:=by
  refine hpl F2 _ hag ?_
  simp only[VR]at hy
  obtain⟨a',d',o',q1,q2,q3,q4⟩:=hy
  rw[hF]at q1;simp only[Option.some.injEq,Prod.mk.injEq]at q1
  obtain⟨e1,e2,e3⟩:=q1
  subst q4
  obtain⟨rows',k1,k2⟩:=flat_inv (F:=F2) rows vs _ hf hb (VRL.below hag _ _ hb hvl)
  refine VR.D_mk (rows':=rows') (sz:=size) k1 (by omega) q3 hs fun r rr hr=>?_
  obtain⟨cs,g1,g2,g3⟩:=k2 r rr hr
  refine⟨cs,g1,g2,fun j y hj=>?_⟩
  have:=g3 j y hj
  rw[List.getElem?_take]at this
  split at this
  ·rename_i hlt
   rw[List.getElem?_drop]at this
   show(if a'.block=b/\o<=a'.off+r*size+j/\a'.off+r*size+j<o+vs.length then cc[a'.off+r*size+j]? else F.z a'.block (a'.off+r*size+j))=some y
   rw[if_pos ⟨e1.symm,by omega,by omega⟩]
   have e5:a'.off+r*size+j=o+(r*size+j):=by omega
   rw[e5,←this];simp
  ·cases this
 have ha2:VRL F2 (pre++p (.iface mkD (.agg ⟨rows⟩))::post) args'.toList:=by
  rw[e]
  refine VRL.app (VRL.below hag _ _ hpre hx) ?_
  simp only[VRL]
  exact⟨y,q',hy2,VRL.below hag _ _ hpost hq,rfl⟩
 refine(hS B2 (hOf G [] []) F2 w args' R2 ha2).mono fun e1 w' ⟨F3,hle,he,R3⟩=>?_
 let F4:Nm:=⟨F.f,fun b' j=>if b'=b then F.z b' j else F3.z b' j⟩
 have hF4:Nm.le F F4:=by
  refine⟨fun n x h=>h,fun b' j v hz=>?_⟩
  show(if b'=b then F.z b' j else F3.z b' j)=some v
  split
  ·exact hz
  ·exact hle.zs b' j v (hzz b' j v hz)
 have hwb:b<w.heap.size:=by
  rcases Nat.lt_or_ge b w.heap.size with h|h
  ·exact h
  ·rw[Array.getElem?_eq_none h]at hw;cases hw
 have hold:∀m o',H.get m=some o'->∀b',blk F m=some b'->w'.heap[b']?=w.heap[b']?:=by
  intro m o' h b' hb'
  obtain⟨b2,g1,g2,_⟩:=R.blk_lt h
  rw[hb']at g1;simp only[Option.some.injEq]at g1;subst g1
  exact R3.frame b' g2
 refine⟨F4,hF4,?_,?_⟩
 ·simp only[EnR]at he ⊢
  obtain⟨v2,h3,h4⟩:=he
  exact⟨v2,(VR.plain_eq _ _ hv).2 ((VR.plain_eq _ _ hv).1 h3),h4⟩
 ·constructor
  ·intro m o' h;exact objR_mono hF4 (objR_other (R.obj m o' h) (hold m o' h))
  ·exact R.inj
  ·exact R.fresh
  ·exact R.glob
  ·have:=R.base;have:=R3.base
   have e:B2.w.heap.size=w.heap.size:=rfl
   omega
  ·intro i hi
   have h1:=B.lt i hi
   have h2:=R.base
   rw[R3.frame i (show i<w.heap.size by omega)];exact R.frame i hi
  ·intro b' i v hz
   have hz:(if b'=b then F.z b' i else F3.z b' i)=some v:=hz
   split at hz
   ·rename_i hbb;rw[hbb,hnz]at hz;cases hz
   ·rename_i hbb
    refine⟨R3.frozB hz fun hn hp c2 t2 fz2 hw2=>by
     have hz2:zz b' i=some v:=R3.zprot b' i v hz hp
     have hz2:(if b'=b/\o<=i/\i<o+vs.length then cc[i]? else F.z b' i)=some v:=hz2
     rw[if_neg (fun hc=>hbb hc.1)]at hz2
     exact R.un b' i v hz2 hn c2 t2 fz2 (by rw[←R3.frame b' hp];exact hw2),fun m o' h how hblk=>?_⟩
    obtain⟨b2,g1,g2,_⟩:=R.blk_lt h
    have hblk:blk F m=some b':=hblk
    rw[hblk]at g1;simp only[Option.some.injEq]at g1;subst g1
    have hz2:zz b' i=some v:=R3.zprot b' i v hz g2
    have hz2:(if b'=b/\o<=i/\i<o+vs.length then cc[i]? else F.z b' i)=some v:=hz2
    rw[if_neg (fun hc=>hbb hc.1)]at hz2
    exact(R.froz b' i v hz2).2 m o' h how hblk
  ·intro b' i v hz hp
   have hz:(if b'=b then F.z b' i else F3.z b' i)=some v:=hz
   have h1:=B.lt b' hp
   have h2:=R.base
   split at hz
   ·exact R.zprot b' i v hz hp
   ·rename_i hbb
    have hz2:zz b' i=some v:=R3.zprot b' i v hz (show b' < w.heap.size by omega)
    have hz2:(if b'=b/\o<=i/\i<o+vs.length then cc[i]? else F.z b' i)=some v:=hz2
    rw[if_neg (fun hc=>hbb hc.1)]at hz2
    exact R.zprot b' i v hz2 hp
  ·rw[R3.os];exact R.os
  ·rw[R3.out];exact R.out
  ·rw[R3.tape];exact R.tape
end
end
end Go.Abs
namespace Go.Tlv
open Go Go.Abs Go.Tlv
def zMsg:OMsg:=⟨0,0,0,0,0,0,0,0,0,bytesOf [],[],zNode,zField,zTable,zEntry,zBlock,zGroup,zMeter,zRegs⟩
end Go.Tlv
namespace Go.Proofs.Ytblbaohcelldpaa.Ob
open Go Go.Abs Go.Tlv
set_option maxRecDepth 100000
noncomputable section
def lM(x:OMsg):List Value:=match vMsg x with
 | .agg ⟨l⟩=>l
 |_=>[]
def rZl:List Value:=(lM zMsg).map fun v=>match v with | .iface _ _ => .slice none 0 0|v=>v
abbrev MRo(α:Type):=ByteArray->(α->Int->Prop)->Prop
structure MOs where
 n:MRo ONode
 f:MRo OField
 t:MRo OTable
 e:MRo OEntry
 b:MRo OBlock
 g:MRo OGroup
 m:MRo OMeter
 r:MRo ORegs
def puO1(M:MOs):PuL:=[(37,sRd vNode M.n),(38,sRd vField M.f),(39,sRd vTable M.t),(40,sRd vEntry M.e),(41,sRd vBlock M.b),(42,sRd vGroup M.g),(43,sRd vMeter M.m),(44,sRd vRegs M.r)]
def puO2(M:MOs):PuL:=[(45,sRd vNode M.n),(46,sRd vField M.f),(47,sRd vTable M.t),(48,sRd vEntry M.e),(49,sRd vBlock M.b),(50,sRd vGroup M.g),(31,sRd vMeter M.m),(51,sRd vRegs M.r)]
def elif(N:Nd)(t:Int)(d:Prop):List (Int×Prop)->Prop
 | []=>d
 |(c,p)::r=>N.cmp .eql .i64 t .i64 c p (elif N t d r)
def zW(off n:Nat)(v:Value):List Value:=rZl.take off++(match v with
 | .agg ⟨l⟩=>l
 |_=>[])++rZl.drop (off+n)
def fiR(K:Value->Prop)(l:List Value)(e:Int):Prop:=K (.tuple ⟨[.agg ⟨l⟩,.int .i64 e]⟩)
def gRk(f:FuncId)(pu:MOs->PuL)(N:Nd)(M:MOs)(s:ByteArray)(k:Int)(K:Value->Prop):Prop:=wpe Try.prog N (howOf Z0 Zp [] [] (pu M) []) 300 (.call f [.string s,.int .i64 k] h0) (retV K)
def bRk(N:Nd)(M:MOs)(s:ByteArray)(k:Int)(K:Value->Prop):Prop:=
 elif N k (M.r s fun y e=>fiR K (zW 50 2 (vRegs y)) e) [(0,M.n s fun y e=>fiR K (zW 11 9 (vNode y)) e),(1,M.f s fun y e=>fiR K (zW 20 5 (vField y)) e),(2,M.t s fun y e=>fiR K (zW 25 5 (vTable y)) e),(3,M.e s fun y e=>fiR K (zW 30 11 (vEntry y)) e),
  (4,M.b s fun y e=>fiR K (zW 41 2 (vBlock y)) e),(5,M.g s fun y e=>fiR K (zW 43 4 (vGroup y)) e),(6,M.m s fun y e=>fiR K (zW 47 3 (vMeter y)) e)]
theorem gR24_eq(N:Nd)(M:MOs)(s:ByteArray)(k:Int)(K:Value->Prop):gRk 24 puO1 N M s k K=bRk N M s k K:=by kernel_rfl
theorem gR25_eq(N:Nd)(M:MOs)(s:ByteArray)(k:Int)(K:Value->Prop):gRk 25 puO2 N M s k K=bRk N M s k K:=by kernel_rfl
abbrev MSe:=Value->Value->Prop->Prop->Prop
def sSe(M:MSe):List Value->(Value->Prop)->Prop
 | [a,b],K=>M a b (K (.bool true)) (K (.bool false))
 |_,_=>False
structure MS8 where
 n:MSe
 f:MSe
 t:MSe
 e:MSe
 b:MSe
 g:MSe
 m:MSe
 r:MSe
def puS8(M:MS8):PuL:=[(9,sSe M.n),(11,sSe M.f),(13,sSe M.t),(15,sSe M.e),(17,sSe M.b),(19,sSe M.g),(21,sSe M.m),(23,sSe M.r)]
def gSe(N:Nd)(M:MS8)(x y:OMsg)(K:Value->Prop):Prop:=wpe Try.prog N (howOf Z0 Zp [] [] (puS8 M) []) 300 (.call 26 [vMsg x,vMsg y] h0) (retV K)
theorem gSe_eq(N:Nd)(M:MS8)(x y:OMsg)(K:Value->Prop):gSe N M x y K=M.n (vNode x.n) (vNode y.n) (M.f (vField x.f) (vField y.f) (M.t (vTable x.t) (vTable y.t) (M.e (vEntry x.e) (vEntry y.e) (M.b (vBlock x.b) (vBlock y.b) (M.g (vGroup x.g) (vGroup y.g) (M.m (vMeter x.m) (vMeter y.m) (M.r (vRegs x.r) (vRegs y.r) (K (.bool true)) (K (.bool false)))
 (K (.bool false))) (K (.bool false))) (K (.bool false))) (K (.bool false))) (K (.bool false))) (K (.bool false))) (K (.bool false)):=by kernel_rfl
def Hskip(H:Heap):Heap:={H with next:=H.next+1}
def mO(cs:List Value):Option AObj:=some (.cells cs 46 52 false true)
def cM(x:OMsg):AObj := .cells (lM x) 46 52 false true
def c5(x:OMsg)(a b c d e:Value):List Value:=(((((lM x).set 18 a).set 27 b).set 36 c).set 42 d).set 46 e
def nD0:Value:=dsl []
def sO(b k:Nat):Value := .slice (some ⟨b,0,none⟩) k k
abbrev KTh:=OMsg->Nat->List Value->Int->Prop
abbrev MTh:=ByteArray->Int->(OMsg->Int->Prop)->KTh->KTh->KTh->KTh->KTh->Prop
def sTh(M:MTh):List Value->Heap->VK->Prop
 | [.string s,.int .i64 k],H,K=>M s k (fun x e=>K (.tuple ⟨[.agg ⟨c5 x nD0 nD0 nD0 nD0 nD0⟩,.int .i64 e]⟩) (Hskip H))
  (fun x k vs e=>K (.tuple ⟨[.agg ⟨c5 x (sO H.next k) nD0 nD0 nD0 nD0⟩,.int .i64 e]⟩) (H.push (.cells vs 76 0 true true)))
  (fun x k vs e=>K (.tuple ⟨[.agg ⟨c5 x nD0 (sO H.next k) nD0 nD0 nD0⟩,.int .i64 e]⟩) (H.push (.cells vs 3 0 true true)))
  (fun x k vs e=>K (.tuple ⟨[.agg ⟨c5 x nD0 nD0 (sO H.next k) nD0 nD0⟩,.int .i64 e]⟩) (H.push (.cells vs 23 0 true true)))
  (fun x k vs e=>K (.tuple ⟨[.agg ⟨c5 x nD0 nD0 nD0 (sO H.next k) nD0⟩,.int .i64 e]⟩) (H.push (.cells vs 70 0 true true)))
  (fun x k vs e=>K (.tuple ⟨[.agg ⟨c5 x nD0 nD0 nD0 nD0 (sO H.next k)⟩,.int .i64 e]⟩) (H.push (.cells vs 82 0 true true)))
 |_,_,_=>False
abbrev MS2:=Value->Value->List (Option AObj)->Prop->Prop->Prop
def sS2(M:MS2):List Value->Heap->VK->Prop
 | [v1,v2],H,K=>M v1 v2 (objsOf 100 H) (K (.bool true) H) (K (.bool false) H)
 |_,_,_=>False
abbrev LSp:=Code->Nat->List Value->List (Option AObj)->Prop->Prop->Prop
def sLpSp(j:Nat)(L:LSp):LpS:=lpS [1] fun c n vals obs K=>match vals,obs with
 | [a,_],[w,o,m,q]=>L c n vals obs (K (.exit j) [a] [w,o,m,q]) (K (.exit j) [a] [w,none,m,q])
 |_,_=>False
structure LS5 where
 a:LSp
 b:LSp
 c:LSp
 d:LSp
 e:LSp
def wRd(MT:MTh)(MS:MS2)(L:LS5):How:=howOf Z0 Zp [(25,sTh MT),(26,sS2 MS)] [(2,(75,([1,2],sLpSp 0 L.a))),(6,(75,([1,3],sLpSp 2 L.b))),(10,(75,([1,4],sLpSp 4 L.c))),(14,(75,([1,5],sLpSp 6 L.d))),(18,(75,([1,6],sLpSp 8 L.e)))] [] []
def gRo(N:Nd)(MT:MTh)(MS:MS2)(L:LS5)(s:ByteArray)(y:OMsg)(k f i:Int)(back:List Value->List (Option AObj)->Prop)(out:Exit->List Value->Prop):Prop:=
 wpe Try.prog N (wRd MT MS L) 300 (.code false (loopIn Try.prog 4 8) (stOf 100 45 [0,3,4,5,6] [] ([.string s,.int .i64 k,pA 100,.int .i64 f,.int .i64 i],[some (cM y)]))) (roundK 1 [0,3,4,5,6] [0,2,3] 45 back out)
def inn(key:Nat)(L:LSp)(y:OMsg)(cs:List Value)(K:Option AObj->Prop)(ob:Option AObj):Prop:=L (loopIn Try.prog 27 key) 75 [pA 103,.int .i64 0] [some (cM y),ob,mO cs,mO cs] (K ob) (K none)
def noR(s:ByteArray)(k:Int)(out:Exit->List Value->Prop):Prop:=([]:List Deferred)=[]/\out .ret [.string s,.bool false,.int .i64 k]
def aft(N:Nd)(MS:MS2)(L:LS5)(s:ByteArray)(y:OMsg)(k f i:Int)(back:List Value->List (Option AObj)->Prop)(out:Exit->List Value->Prop)(cs:List Value)(ob:Option AObj)(e:Int):Prop:=
 N.cmp .neq .i64 e .i64 f (noR s k out) (MS (.agg ⟨cs⟩) (vMsg y) [some (cM y),ob,mO cs]
  (inn 2 L.a y cs (inn 6 L.b y cs (inn 10 L.c y cs (inn 14 L.d y cs (inn 18 L.e y cs fun _=>N.ari .add .i64 i .i64 1 fun j=>([]:List Deferred)=[]/\back [.string s,.int .i64 k,pA 100,.int .i64 f,.int .i64 j] [some (cM y)])))) ob)
  (noR s k out))
theorem gRo_eq(N:Nd)(MT:MTh)(MS:MS2)(L:LS5)(s:ByteArray)(y:OMsg)(k f i:Int)(back:Bk)(out:Ov):gRo N MT MS L s y k f i back out=N.cmp .lss .i64 i .i64 2 (MT s k (fun x e=>aft N MS L s y k f i back out (c5 x nD0 nD0 nD0 nD0 nD0) none e)
 (fun x n vs e=>aft N MS L s y k f i back out (c5 x (sO 101 n) nD0 nD0 nD0 nD0) (some (.cells vs 76 0 true true)) e) (fun x n vs e=>aft N MS L s y k f i back out (c5 x nD0 (sO 101 n) nD0 nD0 nD0) (some (.cells vs 3 0 true true)) e)
 (fun x n vs e=>aft N MS L s y k f i back out (c5 x nD0 nD0 (sO 101 n) nD0 nD0) (some (.cells vs 23 0 true true)) e) (fun x n vs e=>aft N MS L s y k f i back out (c5 x nD0 nD0 nD0 (sO 101 n) nD0) (some (.cells vs 70 0 true true)) e)
 (fun x n vs e=>aft N MS L s y k f i back out (c5 x nD0 nD0 nD0 nD0 (sO 101 n)) (some (.cells vs 82 0 true true)) e))
 (([]:List Deferred)=[]/\out (.exit 2) [.string s,top,.int .i64 k]):=by kernel_rfl
abbrev MR2:=ByteArray->Int->(OMsg->Int->Prop)->Prop
def sR2(M:MR2):List Value->(Value->Prop)->Prop
 | [.string s,.int .i64 k],K=>M s k fun x e=>K (.tuple ⟨[vMsg x,.int .i64 e]⟩)
 |_,_=>False
def sLpR2(L:LSp):LpS:=lpS [0,2,3] fun c n vals obs K=>match vals with
 | [a,k,_,_,_]=>L c n vals obs (K (.exit 2) [a,top,k] (obs.map fun _=>none)) (K .ret [a,.bool false,k] (obs.map fun _=>none))
 |_=>False
def gRw(N:Nd)(MR:MR2)(L:LSp)(s:ByteArray)(k:Int)(back:List Value->List (Option AObj)->Prop)(out:Exit->List Value->Prop):Prop:=
 wpe Try.prog N (howOf Z0 Zp [] [(8,(45,([0,3,4,5,6],sLpR2 L)))] [(24,sR2 MR)] []) 300 (.code false (loopIn Try.prog 4 4) (stOf 100 45 [0,3] [] ([.string s,.int .i64 k],[]))) (roundK 0 [0,3] [2] 45 back out)
theorem gRw_eq(N:Nd)(MR:MR2)(L:LSp)(s:ByteArray)(k:Int)(back:Bk)(out:Ov):gRw N MR L s k back out=N.cmp .lss .i64 k .i64 8 (MR s k fun y f=>L (loopIn Try.prog 4 8) 45 [.string s,.int .i64 k,pA 100,.int .i64 f,.int .i64 0] [some (cM y)] (N.ari .add .i64 k .i64 1 fun j=>([]:List Deferred)=[]/\back [.string s,.int .i64 j] []) (([]:List Deferred)=[]/\out .ret [.bool false]))
 (([]:List Deferred)=[]/\out (.exit 0) [top]):=by kernel_rfl
def sLpRx(L:LSp):LpS:=lpS [2] fun c n vals obs K=>L c n vals obs (K (.exit 0) [top] []) (K .ret [.bool false] [])
def sAwk:List Value->(Value->Prop)->Prop
 | [],K=>K (.bool true)
 |_,_=>False
def gOr(N:Nd)(L:LSp)(s:ByteArray)(K:Value->Prop):Prop:=wpe Try.prog N (howOf Z0 Zp [] [(4,(45,([0,3],sLpRx L)))] [(6,sAwk)] []) 300 (.call 4 [(.string s)] h0) (retV K)
theorem gOr_eq(N:Nd)(L:LSp)(s:ByteArray)(K:Value->Prop):gOr N L s K=N.slen s fun n=>N.cmp .gtr .i64 n .i64 5000 (K (.bool true)) (L (loopIn Try.prog 4 4) 45 [.string s,.int .i64 0] [] (K (.bool true)) (K (.bool false))):=by kernel_rfl
abbrev BKt:=List Value->List (Option AObj)->Prop
abbrev OTt:=Exit->List Value->List (Option AObj)->Prop
def sy1F:Sy:=fun b=>match Nat.beq b 101 with|true=>some false|false=>none
def gS(key ix:Nat)(cs:List Value)(ob:Option AObj)(N:Nd)(y:OMsg)(i:Int)(back:BKt)(out:OTt):Prop:=
 wpe Try.prog N (howOf sy1F Zp [] [] [] []) 300 (.code false (loopIn Try.prog 27 key) (stOf 100 75 [1,ix] [] ([pA 103,.int .i64 i],[some (cM y),ob,mO cs,mO cs]))) (roundQ 100 [1,ix] [1] 75 [] back out)
def ouS(cs:List Value)(ob:Option AObj)(j:Nat)(y:OMsg)(out:OTt):Prop:=([]:List Deferred)=[]/\out (.exit j) [pA 103] [some (cM y),ob,mO cs,mO cs]
def bO(cs:List Value)(ty:TypeId)(j n:Nat)(v:List Value)(k:Nat)(vs:List Value)(N:Nd)(y:OMsg)(i:Int)(back:BKt)(out:OTt):Prop:=
 N.cmp .lss .i64 i .i64 (k:Int) (N.idx k 0 n i fun o=>N.wr vs o n v fun vs'=>N.ari .add .i64 i .i64 1 fun i'=>([]:List Deferred)=[]/\back [pA 103,.int .i64 i'] [some (cM y),some (.cells vs' ty 0 true true),mO cs,mO cs]) (ouS cs (some (.cells vs ty 0 true true)) j y out)
def bE(cs:List Value)(ob:Option AObj)(j:Nat)(P:Nd->Int->Prop)(N:Nd)(y:OMsg)(i:Int)(out:OTt):Prop:=N.dlen [] fun n=>N.cmp .lss .i64 i .i64 (n:Int) (P N i) (ouS cs ob j y out)
theorem gA_eq(x:OMsg)(b c d e:Value)(k:Nat)(vs:List Value)(N:Nd)(y:OMsg)(i:Int)(back:BKt)(out:OTt):gS 2 2 (c5 x (sO 101 k) b c d e) (some (.cells vs 76 0 true true)) N y i back out=bO (c5 x (sO 101 k) b c d e) 76 0 2 [.int .u32 99,.int .i64 0] k vs N y i back out:=by kernel_rfl
theorem gB_eq(x:OMsg)(b c d e:Value)(k:Nat)(vs:List Value)(N:Nd)(y:OMsg)(i:Int)(back:BKt)(out:OTt):gS 6 3 (c5 x b (sO 101 k) c d e) (some (.cells vs 3 0 true true)) N y i back out=bO (c5 x b (sO 101 k) c d e) 3 2 1 [.int .i64 (-7)] k vs N y i back out:=by kernel_rfl
theorem gC_eq(x:OMsg)(b c d e:Value)(k:Nat)(vs:List Value)(N:Nd)(y:OMsg)(i:Int)(back:BKt)(out:OTt):gS 10 4 (c5 x b c (sO 101 k) d e) (some (.cells vs 23 0 true true)) N y i back out=bO (c5 x b c (sO 101 k) d e) 23 4 1 [.int .u64 99] k vs N y i back out:=by kernel_rfl
theorem gD_eq(x:OMsg)(b c d e:Value)(k:Nat)(vs:List Value)(N:Nd)(y:OMsg)(i:Int)(back:BKt)(out:OTt):gS 14 5 (c5 x b c d (sO 101 k) e) (some (.cells vs 70 0 true true)) N y i back out=bO (c5 x b c d (sO 101 k) e) 70 6 7 [.int .u8 99,.int .i64 0,.int .u8 0,.int .u64 0,.int .u8 0,.int .u64 0,.int .i64 0] k vs N y i back out:=by kernel_rfl
theorem gE_eq(x:OMsg)(b c d e:Value)(k:Nat)(vs:List Value)(N:Nd)(y:OMsg)(i:Int)(back:BKt)(out:OTt):gS 18 6 (c5 x b c d e (sO 101 k)) (some (.cells vs 82 0 true true)) N y i back out=bO (c5 x b c d e (sO 101 k)) 82 8 2 [.int .u64 0,.int .i64 (-7)] k vs N y i back out:=by kernel_rfl
def PA(N:Nd)(i:Int):Prop:=N.dget [] i 2 fun l=>N.rdI .u32 l 0 fun _=>N.rdI .i64 l 1 fun _=>False
def PB(N:Nd)(i:Int):Prop:=N.dget [] i 1 fun l=>N.rdI .i64 l 0 fun _=>False
def PC(N:Nd)(i:Int):Prop:=N.dget [] i 1 fun l=>N.rdI .u64 l 0 fun _=>False
def PD(N:Nd)(i:Int):Prop:=N.dget [] i 7 fun l=>N.rdI .u8 l 0 fun _=>N.rdI .i64 l 1 fun _=>N.rdI .u8 l 2 fun _=>N.rdI .u64 l 3 fun _=>N.rdI .u8 l 4 fun _=>N.rdI .u64 l 5 fun _=>N.rdI .i64 l 6 fun _=>False
def PE(N:Nd)(i:Int):Prop:=N.dget [] i 2 fun l=>N.rdI .u64 l 0 fun _=>N.rdI .i64 l 1 fun _=>False
theorem gAe_eq(x:OMsg)(b c d e:Value)(ob:Option AObj)(N:Nd)(y:OMsg)(i:Int)(back:BKt)(out:OTt):gS 2 2 (c5 x nD0 b c d e) ob N y i back out=bE (c5 x nD0 b c d e) ob 0 PA N y i out:=by kernel_rfl
theorem gBe_eq(x:OMsg)(b c d e:Value)(ob:Option AObj)(N:Nd)(y:OMsg)(i:Int)(back:BKt)(out:OTt):gS 6 3 (c5 x b nD0 c d e) ob N y i back out=bE (c5 x b nD0 c d e) ob 2 PB N y i out:=by kernel_rfl
theorem gCe_eq(x:OMsg)(b c d e:Value)(ob:Option AObj)(N:Nd)(y:OMsg)(i:Int)(back:BKt)(out:OTt):gS 10 4 (c5 x b c nD0 d e) ob N y i back out=bE (c5 x b c nD0 d e) ob 4 PC N y i out:=by kernel_rfl
theorem gDe_eq(x:OMsg)(b c d e:Value)(ob:Option AObj)(N:Nd)(y:OMsg)(i:Int)(back:BKt)(out:OTt):gS 14 5 (c5 x b c d nD0 e) ob N y i back out=bE (c5 x b c d nD0 e) ob 6 PD N y i out:=by kernel_rfl
theorem gEe_eq(x:OMsg)(b c d e:Value)(ob:Option AObj)(N:Nd)(y:OMsg)(i:Int)(back:BKt)(out:OTt):gS 18 6 (c5 x b c d e nD0) ob N y i back out=bE (c5 x b c d e nD0) ob 8 PE N y i out:=by kernel_rfl
end
end Go.Proofs.Ytblbaohcelldpaa.Ob
