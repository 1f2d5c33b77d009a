/- Other names, marks, and lists that stay from now on: how less is known of the same state. -/
import Derived.Test.YtblbaohcelldpaaW7
set_option linter.all false
namespace Go.Abs
open Go
noncomputable section
section
variable {P:Program} {G:Nat} {B:Base}
def Names(G k0:Nat)(l:List Nat)(next:Nat)(vals:List Value)(objs:List (Option AObj))(vals':List Value)(objs':List (Option AObj)):Prop:=
 vals=vals'.map (vren (tau (G+k0) l next))/\objs'.length=k0+l.length/\l.Nodup/\(∀x∈l,G+k0<=x/\x<next)/\G+k0<=next/\
  ∀i o,objs'[i]?=some (some o)->objs[tau (G+k0) l next (G+i)-G]?=some (some (oren (tau (G+k0) l next) o))
theorem tau_cases{n0:Nat}{l:List Nat}{next n:Nat}:(n<n0/\tau n0 l next n=n)∨(∃m,n0<=n/\n<n0+l.length/\l[n-n0]?=some m/\tau n0 l next n=m)∨(n0+l.length<=n/\tau n0 l next n=next+(n-n0-l.length)):=by
 rcases Nat.lt_or_ge n n0 with h|h
 ·exact .inl ⟨h,tau_lt h⟩
 ·rcases Nat.lt_or_ge n (n0+l.length)with h2|h2
  ·have h3:n-n0<l.length:=by omega
   exact .inr (.inl ⟨l[n-n0],h,h2,by simp[h3],tau_in h (by simp[h3])⟩)
  ·exact .inr (.inr ⟨h2,tau_new h2⟩)
theorem Rel.weaken{F:Nm}{H:Heap}{w:World}(R:Rel G F H B w){k0:Nat}{l:List Nat}{vals vals':List Value}{objs':List (Option AObj)}
  (hn:Names G k0 l H.next vals (objsOf G H) vals' objs'):Rel G (F.re (tau (G+k0) l H.next)) (hOf G [] objs') B w:=by
 obtain⟨_,hlen,hnd,hl,hle,hobj⟩:=hn
 have hget:∀n o,(hOf G [] objs').get n=some o->n<G+k0+l.length/\H.get (tau (G+k0) l H.next n)=some (oren (tau (G+k0) l H.next) o):=by
  intro n o h
  rw[hOf_get]at h
  split at h
  ·rename_i hr
   have h2:objs'[n-G]?=some (some o):=by
    rw[List.getElem?_eq_getElem (by omega)]at h ⊢
    simpa using h
   have h3:=hobj _ _ h2
   have e1:G+(n-G)=n:=by omega
   rw[e1,objsOf_get]at h3
   have hge:G<=tau (G+k0) l H.next n:=by
    rcases tau_cases (n0:=G+k0) (l:=l) (next:=H.next) (n:=n)with⟨a,b⟩ | ⟨m,a,b,c,d⟩ | ⟨a,b⟩
    ·rw[b];omega
    ·rw[d];have:=(hl m (List.mem_of_getElem? c)).1;omega
    ·omega
   split at h3
   ·simp only[Option.some.injEq]at h3
    have e2:G+(tau (G+k0) l H.next n-G)=tau (G+k0) l H.next n:=by omega
    rw[e2]at h3
    exact⟨by omega,h3⟩
   ·cases h3
  ·simp only[glTr,Tr.get_lf]at h;cases h
 have hinj:∀n m,n<G+k0+l.length->m<G+k0+l.length->tau (G+k0) l H.next n=tau (G+k0) l H.next m->n=m:=by
  intro n m h1 h2 e
  rcases tau_cases (n0:=G+k0) (l:=l) (next:=H.next) (n:=n)with⟨a,b⟩ | ⟨x,a,b,c,d⟩ | ⟨a,b⟩<;>
   rcases tau_cases (n0:=G+k0) (l:=l) (next:=H.next) (n:=m)with⟨a',b'⟩ | ⟨x',a',b',c',d'⟩ | ⟨a',b'⟩
  ·rw[b,b']at e;exact e
  ·rw[b,d']at e;subst e;have:=(hl _ (List.mem_of_getElem? c')).1;omega
  ·omega
  ·rw[d,b']at e;subst e;have:=(hl _ (List.mem_of_getElem? c)).1;omega
  ·rw[d,d']at e;subst e
   have h4:n-(G+k0)<l.length:=by omega
   have:=(List.getElem?_inj h4 hnd).1 (c.trans c'.symm)
   omega
  ·omega
  ·omega
  ·omega
  ·omega
 constructor
 ·intro n o h
  obtain⟨h1,h2⟩:=hget n o h
  exact objR_ren (R.obj _ _ h2)
 ·intro n m o o' h h' hne how
  obtain⟨h1,h2⟩:=hget n o h
  obtain⟨h1',h2'⟩:=hget m o' h'
  exact R.inj _ _ _ _ h2 h2' (fun e=>hne (hinj n m h1 h1' e)) (by rw[oren_own];exact how)
 ·intro n h
  simp only[hOf,hlen]at h
  show F (tau (G+k0) l H.next n)=none
  rw[tau_new (by omega)]
  exact R.fresh _ (by omega)
 ·intro g hg
  simp only[Nm.re,tau_lt (show g<G+k0 by omega)]
  exact R.glob g hg
 ·exact R.base
 ·exact R.frame
 ·intro b i v hz
  exact⟨(R.froz b i v hz).1,fun n o hn ho=>(R.froz b i v hz).2 _ _ (hget n o hn).2 (by rw[oren_own];exact ho)⟩
 ·exact R.zprot
 ·exact R.os
 ·exact R.out
 ·exact R.tape
theorem wk_names{k0:Nat}{l:List Nat}{vals vals':List Value}{objs objs':List (Option AObj)}(hn:Names G k0 l (G+objs.length) vals objs vals' objs'):Wk G (G+k0) vals objs vals' objs':=by
 have h0:=hn.1
 refine⟨by rw[h0,List.length_map],fun B F w R=>⟨F.re (tau (G+k0) l (G+objs.length)),⟨fun n hn => .inl ?_,zle_refl _⟩,?_,fun i v v' x h1 h2 hv=>?_⟩⟩
 ·simp only[Nm.re,tau_lt hn]
 ·have:=R.weaken (k0:=k0) (l:=l) (vals:=vals) (vals':=vals') (objs':=objs') (by rw[objsOf_hOf];exact hn)
  exact this
 ·rw[h0,List.getElem?_map,h2]at h1
  simp only[Option.map_some,Option.some.injEq]at h1
  rw[←h1]at hv
  exact(VR_ren _ _).1 hv
def Weak(v v':Value):Prop:=∀F x,VR F v x->VR F v' x
theorem Weak.refl(v:Value):Weak v v:=fun _ _ h=>h
theorem Weak.top(v:Value):Weak v top:=fun _ _ _=>by simp[Abs.top,VR]
theorem Weak.mark{a:Addr}{l c:Nat}(hl:l≠0):Weak (.slice (some a) l c) (.iface mkM (.slice (some a) l c)):=fun _ _ h=>VR.M_mk h hl
theorem Weak.nilM{a:Addr}{c:Nat}:Weak (.slice none 0 0) (.iface mkM (.slice (some a) 0 c)):=fun _ x h=>by
 simp only[VR]at h;subst h;exact VR.M_nil _ _ _
theorem Weak.nilD{c:Nat}:Weak (.slice none 0 c) (.iface mkD (.agg ⟨[]⟩)):=fun _ x h=>by
 simp only[VR]at h;subst h;exact VR.D_nil _ _
theorem Weak.emptyMD{a:Addr}{c:Nat}:Weak (.iface mkM (.slice (some a) 0 c)) (.iface mkD (.agg ⟨[]⟩)):=fun _ x h=>by
 rcases h.M_cases with⟨e,_⟩ | ⟨_,a',e⟩
 ·exact absurd rfl e
 ·subst e;exact VR.D_nil _ _
inductive WeakL:List Value->List Value->Prop
 |nil:WeakL [] []
 |cons {v v':Value} {l l':List Value} (h:Weak v v') (t:WeakL l l'):WeakL (v::l) (v'::l')
theorem WeakL.refl:∀l:List Value,WeakL l l
 | [] => .nil
 |v::l => .cons (.refl v) (WeakL.refl l)
theorem WeakL.ok{F:Nm}:∀ {l l' x:List Value},WeakL l l'->VRL F l x->VRL F l' x
 | [],_,x,.nil,hv=>hv
 |v::l,_,x,.cons h t,hv=>by
  simp only[VRL]at hv ⊢
  obtain⟨v',r',h1,h2,e⟩:=hv
  exact⟨v',r',h _ _ h1,t.ok h2,e⟩
theorem WeakL.len:∀ {l l':List Value},WeakL l l'->l'.length=l.length
 | [],_,.nil=>rfl
 |v::l,_,.cons h t=>by simp[t.len]
theorem WeakL.get:∀ {l l':List Value},WeakL l l'->∀(i:Nat) v v',l[i]?=some v->l'[i]?=some v'->Weak v v'
 | [],_,.nil,i,v,v',h,_=>by simp at h
 |x::l,_,.cons h t,0,v,v',h1,h2=>by simp at h1 h2;subst h1;subst h2;exact h
 |x::l,_,.cons h t,i+1,v,v',h1,h2=>t.get i v v' (by simpa using h1) (by simpa using h2)
theorem Weak.agg{l l':List Value}(h:WeakL l l'):Weak (.agg ⟨l⟩) (.agg ⟨l'⟩):=fun F x hx=>by
 obtain⟨cs',e,h1⟩:=hx.aggL;subst e;exact VR.ofAggL (h.ok h1)
theorem Weak.tup{l l':List Value}(h:WeakL l l'):Weak (.tuple ⟨l⟩) (.tuple ⟨l'⟩):=fun F x hx=>by
 simp only[VR,VRA]at hx ⊢
 obtain⟨⟨cs'⟩,h1,e⟩:=hx;exact⟨⟨cs'⟩,h.ok h1,e⟩
inductive WeakO:Option AObj->Option AObj->Prop
 |none (o:Option AObj):WeakO o none
 |refl (o:Option AObj):WeakO o o
 |cells {l l':List Value} {e sz:Nat} {lo ow:Bool} (h:WeakL l l'):WeakO (some (.cells l e sz lo ow)) (some (.cells l' e sz lo ow))
inductive WeakOs:List (Option AObj)->List (Option AObj)->Prop
 |nil:WeakOs [] []
 |cons {o o':Option AObj} {l l':List (Option AObj)} (h:WeakO o o') (t:WeakOs l l'):WeakOs (o::l) (o'::l')
theorem WeakOs.refl:∀l:List (Option AObj),WeakOs l l
 | [] => .nil
 |v::l => .cons (.refl v) (WeakOs.refl l)
theorem WeakOs.len:∀ {l l':List (Option AObj)},WeakOs l l'->l'.length=l.length
 | [],_,.nil=>rfl
 |v::l,_,.cons h t=>by simp[t.len]
theorem WeakOs.get:∀ {l l':List (Option AObj)},WeakOs l l'->∀(i:Nat) o',l'[i]?=some o'->∃o,l[i]?=some o/\WeakO o o'
 | [],_,.nil,i,o',h=>by simp at h
 |x::l,_,.cons h t,0,o',h1=>by simp at h1;subst h1;exact⟨x,rfl,h⟩
 |x::l,_,.cons h t,i+1,o',h1=>by
  obtain⟨o,g1,g2⟩:=t.get i o' (by simpa using h1)
  exact⟨o,by simpa using g1,g2⟩
theorem hOf_at{objs:List (Option AObj)}{n:Nat}{o:AObj}(h:(hOf G [] objs).get n=some o):G<=n/\n<G+objs.length/\objs[n-G]?=some (some o):=by
 rw[hOf_get]at h
 split at h
 ·rename_i hg
  refine⟨hg.1,hg.2,?_⟩
  rw[List.getElem?_eq_getElem (by omega)]at h ⊢
  simpa using h
 ·simp only[glTr,Tr.get_lf]at h;cases h
theorem hOf_of{objs:List (Option AObj)}{i:Nat}{o:AObj}(h:objs[i]?=some (some o)):(hOf G [] objs).get (G+i)=some o:=by
 rw[hOf_get,if_pos ⟨by omega,by have:=(List.getElem?_eq_some_iff.1 h).1;omega⟩,show G+i-G=i by omega,h];rfl
theorem wk_weak{n0:Nat}{vals vals':List Value}{objs objs':List (Option AObj)}(hv:WeakL vals vals')(ho:WeakOs objs objs'):Wk G n0 vals objs vals' objs':=by
 refine⟨hv.len,fun B F w R=>⟨F,Agree.refl _ _,?_,fun i v v' x h1 h2 h=>hv.get i v v' h1 h2 _ _ h⟩⟩
 have key:∀n o',(hOf G [] objs').get n=some o'->∃o,(hOf G [] objs).get n=some o/\o.own=o'.own/\(∀w,objR F B w n o->objR F B w n o'):=by
  intro n o' h
  obtain⟨h1,h2,h3⟩:=hOf_at h
  obtain⟨o,g1,g2⟩:=ho.get _ _ h3
  generalize he:some o'=eo at g2
  cases g2 with
  |none=>cases he
  |refl=>
   subst he
   have:=hOf_of (G:=G) g1
   rw[show G+(n-G)=n by omega]at this
   exact⟨o',this,rfl,fun w h=>h⟩
  |cells hl=>
   simp only[Option.some.injEq]at he;subst he
   have:=hOf_of (G:=G) g1
   rw[show G+(n-G)=n by omega]at this
   refine⟨_,this,rfl,fun w h=>?_⟩
   obtain⟨b,d,o,c,fz,q1,q2,q3,q4,q5,q6⟩:=h
   refine⟨b,d,o,c,fz,q1,q2,?_,by rw[hl.len];exact q4,by rw[hl.len];exact q5,q6⟩
   rw[hl.len];exact hl.ok q3
 have hnx:(hOf G [] objs').next=(hOf G [] objs).next:=by show G+objs'.length=G+objs.length;rw[ho.len]
 constructor
 ·intro n o' h
  obtain⟨o,g1,g2,g3⟩:=key n o' h
  exact g3 _ (R.obj n o g1)
 ·intro n m o o' h h' hne how
  obtain⟨x,g1,g2,_⟩:=key n o h
  obtain⟨y,k1,_,_⟩:=key m o' h'
  exact R.inj n m x y g1 k1 hne (by rw[g2];exact how)
 ·intro n h;exact R.fresh n (by rw[←hnx];exact h)
 ·exact R.glob
 ·exact R.base
 ·exact R.frame
 ·intro b i v hz
  refine⟨(R.froz b i v hz).1,fun n o h how=>?_⟩
  obtain⟨x,g1,g2,_⟩:=key n o h
  exact(R.froz b i v hz).2 n x g1 (by rw[g2];exact how)
 ·exact R.zprot
 ·exact R.os
 ·exact R.out
 ·exact R.tape
theorem VRL.nameless{F:Nm}{l l':List Value}(h:belowL 0 l=true)(hv:VRL F l l'):VRL F.bare l l':=VRL.below (F:=F) (F':=F.bare) ⟨fun n hn=>absurd hn (Nat.not_lt_zero n),zle_refl _⟩ l l' h hv
theorem flat_inv{F:Nm}{size:Nat}:∀(rows:List Value) (vs xs:List Value),flatRows size rows=some vs->belowL 0 vs=true->VRL F vs xs->∃rows',VRL F.bare rows rows'/\
  ∀i r,rows'[i]?=some r->∃cs:List Value,r = .agg ⟨cs⟩/\cs.length=size/\∀j x,cs[j]?=some x->xs[i*size+j]?=some x
 | [],vs,xs,h,hb,hv=>⟨[],by simp[VRL],fun i r hr=>by simp at hr⟩
 |r::rows,vs,xs,h,hb,hv=>by
  cases r<;>simp only[flatRows]at h<;>try(cases h;done)
  rename_i c
  obtain⟨cs⟩:=c
  simp only at h
  split at h<;>(try(cases h;done))
  rename_i l2 hsz hl2
  simp only[Option.some.injEq]at h;subst h
  have hsz:=Nat.eq_of_beq_eq_true hsz
  have hbl:belowL 0 cs=true/\belowL 0 l2=true:=by
   have:∀l:List Value,belowL 0 (l++l2)=true->belowL 0 l=true/\belowL 0 l2=true:=by
    intro l
    induction l with
    |nil=>intro h;exact⟨rfl,h⟩
    |cons v l ih=>
     intro h
     simp only[List.cons_append,belowL,Bool.and_eq_true]at h ⊢
     exact⟨⟨h.1,(ih h.2).1⟩,(ih h.2).2⟩
   exact this _ hb
  obtain⟨a,b,e,ha,hb2⟩:=VRL.split hv
  subst e
  obtain⟨rows',k1,k2⟩:=flat_inv rows l2 b hl2 hbl.2 hb2
  have hal:=ha.length
  refine⟨.agg ⟨a⟩::rows',?_,fun i r hr=>?_⟩
  ·simp only[VRL];exact⟨_,_,VR.ofAggL (ha.nameless hbl.1),k1,rfl⟩
  ·cases i with
   |zero=>
    simp only[List.getElem?_cons_zero,Option.some.injEq]at hr;subst hr
    refine⟨a,rfl,by omega,fun j x hj=>?_⟩
    rw[Nat.zero_mul,Nat.zero_add,List.getElem?_append_left (List.getElem?_eq_some_iff.1 hj).1];exact hj
   |succ i=>
    simp only[List.getElem?_cons_succ]at hr
    obtain⟨cs',g1,g2,g3⟩:=k2 i r hr
    refine⟨cs',g1,g2,fun j x hj=>?_⟩
    have:=g3 j x hj
    rw[List.getElem?_append_right (by rw[Nat.succ_mul];omega),←this]
    congr 1;rw[Nat.succ_mul];omega
def FrzV(n:Nat)(rows:List Value)(v v':Value):Prop:=v'=v∨(v' = .iface mkD (.agg ⟨rows⟩)/\∃c,rows.length<=c/\(v = .slice (some ⟨n,0,none⟩) rows.length c∨(v = .iface mkM (.slice (some ⟨n,0,none⟩) rows.length c)/\rows≠[])))
theorem wk_freeze{n0 i:Nat}{vals vals':List Value}{objs:List (Option AObj)}{rows vs:List Value}{e size:Nat}{lo:Bool}(ho:objs[i]?=some (some (.cells vs e size lo true)))(hf:flatRows size rows=some vs)(hb:belowL 0 vs=true)(hs:0<size)
  (hl:vals'.length=vals.length) (hv:∀(j:Nat) v v',vals[j]?=some v->vals'[j]?=some v'->FrzV (G+i) rows v v'):Wk G n0 vals objs vals' (objs.set i none):=by
 refine⟨hl,fun B F w R=>?_⟩
 have hg:=hOf_of (G:=G) ho
 obtain⟨b,d,o,c,fz,hF,⟨t,hw,ht⟩,hvl,hsz,hex,hown⟩:=R.obj _ _ hg
 obtain⟨hb0,hfz⟩:=hown rfl
 have hnz:∀j,F.z b j=none:=by
  intro j
  cases hz:F.z b j with
  |none=>rfl
  |some v=>exact absurd (by simp[blk,hF]) ((R.froz b j v hz).2 _ _ hg rfl)
 let F':Nm:=⟨F.f,fun b' j=>if b'=b/\o<=j/\j<o+vs.length then c[j]? else F.z b' j⟩
 have hle:Nm.le F F':=by
  refine⟨fun n x h=>h,fun b' j v hz=>?_⟩
  show(if b'=b/\o<=j/\j<o+vs.length then c[j]? else F.z b' j)=some v
  rw[if_neg]
  ·exact hz
  ·intro hc;rw[hc.1,hnz]at hz;cases hz
 have hget:∀n ob,(hOf G [] (objs.set i none)).get n=some ob->(hOf G [] objs).get n=some ob/\n≠G+i:=by
  intro n ob h
  obtain⟨h1,h2,h3⟩:=hOf_at h
  rw[List.length_set]at h2
  rw[List.getElem?_set]at h3
  split at h3
  ·split at h3
   ·simp at h3
   ·cases h3
  ·rename_i hne
   have:=hOf_of (G:=G) h3
   rw[show G+(n-G)=n by omega]at this
   exact⟨this,by omega⟩
 refine⟨F',hle.agree,?_,fun j v v' x h1 h2 hx=>?_⟩
 ·constructor
  ·intro n ob h;exact objR_mono hle (R.obj n ob (hget n ob h).1)
  ·intro n m ob ob' h h' hne how;exact R.inj n m ob ob' (hget n ob h).1 (hget m ob' h').1 hne how
  ·intro n h
   exact R.fresh n (by have h:G+(objs.set i none).length<=n:=h;rw[List.length_set]at h;exact h)
  ·exact R.glob
  ·exact R.base
  ·exact R.frame
  ·intro b' j v hz
   have hz:(if b'=b/\o<=j/\j<o+vs.length then c[j]? else F.z b' j)=some v:=hz
   split at hz
   ·rename_i hc
    refine⟨⟨c,t,fz,by rw[hc.1];exact hw,hz,fun _=>hfz⟩,fun n ob h how=>?_⟩
    obtain⟨g1,g2⟩:=hget n ob h
    have:=R.inj n (G+i) ob _ g1 hg g2 how
    rw[hc.1]
    intro hc2
    apply this
    rw[show blk F n=some b from hc2];simp[blk,hF]
   ·exact⟨(R.froz b' j v hz).1,fun n ob h how=>(R.froz b' j v hz).2 n ob (hget n ob h).1 how⟩
  ·intro b' j v hz hp
   have hz:(if b'=b/\o<=j/\j<o+vs.length then c[j]? else F.z b' j)=some v:=hz
   split at hz
   ·rename_i hc;exact absurd (hc.1 ▸ hp) hb0
   ·exact R.zprot b' j v hz hp
  ·exact R.os
  ·exact R.out
  ·exact R.tape
 ·have slice:∀cc,rows.length<=cc->VR F (.slice (some ⟨G+i,0,none⟩) rows.length cc) x->VR F' (.iface mkD (.agg ⟨rows⟩)) x:=by
   intro cc hcc hx
   simp only[VR]at hx
   obtain⟨a',d',o',q1,q2,q3,q4⟩:=hx
   rw[hF]at q1;simp only[Option.some.injEq,Prod.mk.injEq]at q1
   obtain⟨e1,e2,e3⟩:=q1
   subst q4
   obtain⟨rows',k1,k2⟩:=flat_inv (F:=F') rows vs _ hf hb (VRL.mono hle _ _ hvl)
   refine VR.D_mk (rows':=rows') (sz:=size) k1 (by omega) q3 hs fun r rr hr=>?_
   obtain⟨cs,g1,g2,g3⟩:=k2 r rr hr
   refine⟨cs,g1,g2,fun j y hj=>?_⟩
   have:=g3 j y hj
   rw[List.getElem?_take]at this
   split at this
   ·rename_i hlt
    rw[List.getElem?_drop]at this
    show(if a'.block=b/\o<=a'.off+r*size+j/\a'.off+r*size+j<o+vs.length then c[a'.off+r*size+j]? else F.z a'.block (a'.off+r*size+j))=some y
    rw[if_pos ⟨e1.symm,by omega,by omega⟩]
    have e5:a'.off+r*size+j=o+(r*size+j):=by omega
    rw[e5,←this];simp
   ·cases this
  rcases hv j v v' h1 h2 with e|⟨e,cc,hcc,e2⟩
  ·subst e;exact VR.mono hle _ _ hx
  ·subst e
   rcases e2 with e2|⟨e2,hne⟩
   ·subst e2;exact slice cc hcc hx
   ·subst e2
    rcases hx.M_cases with⟨_,hx⟩ | ⟨e3,_⟩
    ·exact slice cc hcc hx
    ·exact absurd (List.eq_nil_of_length_eq_zero e3) hne
end
end
end Go.Abs
