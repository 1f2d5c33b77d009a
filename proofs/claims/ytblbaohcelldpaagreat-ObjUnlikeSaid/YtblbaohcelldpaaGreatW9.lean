/- Other names, marks, and lists that stay from now on: how less is known of the same state. -/
import Derived.Test.YtblbaohcelldpaaGreatW7
set_option linter.all false
namespace Go.Abs
open Go
noncomputable section
section
variable {P:Program} {G:Nat} {B:Base}
def Names(G k0:Nat)(l:List Nat)(next:Nat)(vals:List Value)(objs:List (Option AObj))(vals':List Value)(objs':List (Option AObj)):Prop:=
 vals=vals'.map (vren (tau (G+k0) l next))/\objs'.length=k0+l.length/\l.Nodup/\(∀x∈l,G+k0<=x/\x<next)/\G+k0<=next/\
  ∀i o,objs'[i]?=some (some o)->objs[tau (G+k0) l next (G+i)-G]?=some (some (oren (tau (G+k0) l next) o))
theorem tau_cases{n0:Nat}{l:List Nat}{next n:Nat}:(n<n0/\tau n0 l next n=n)∨(∃m,n0<=n/\n<n0+l.length/\l[n-n0]?=some m/\tau n0 l next n=m)∨(n0+l.length<=n/\tau n0 l next n=next+(n-n0-l.length)):=by
 rcases Nat.lt_or_ge n n0 with h|h
 ·exact .inl ⟨h,tau_lt h⟩
 ·rcases Nat.lt_or_ge n (n0+l.length)with h2|h2
  ·have h3:n-n0<l.length:=by omega
   exact .inr (.inl ⟨l[n-n0],h,h2,by simp[h3],tau_in h (by simp[h3])⟩)
  ·exact .inr (.inr ⟨h2,tau_new h2⟩)
theorem Rel.weaken{F:Nm}{H:Heap}{w:World}(R:Rel G F H B w){k0:Nat}{l:List Nat}{vals vals':List Value}{objs':List (Option AObj)}
  (hn:Names G k0 l H.next vals (objsOf G H) vals' objs'):Rel G (F.re (tau (G+k0) l H.next)) (hOf G [] objs') B w:=by
 obtain⟨_,hlen,hnd,hl,hle,hobj⟩:=hn
 have hget:∀n o,(hOf G [] objs').get n=some o->n<G+k0+l.length/\H.get (tau (G+k0) l H.next n)=some (oren (tau (G+k0) l H.next) o):=by
  intro n o h
  rw[hOf_get]at h
  split at h
  ·rename_i hr
   have h2:objs'[n-G]?=some (some o):=by
    rw[List.getElem?_eq_getElem (by omega)]at h ⊢
    simpa using h
   have h3:=hobj _ _ h2
   have e1:G+(n-G)=n:=by omega
   rw[e1,objsOf_get]at h3
   have hge:G<=tau (G+k0) l H.next n:=by
    rcases tau_cases (n0:=G+k0) (l:=l) (next:=H.next) (n:=n)with⟨a,b⟩ | ⟨m,a,b,c,d⟩ | ⟨a,b⟩
    ·rw[b];omega
    ·rw[d];have:=(hl m (List.mem_of_getElem? c)).1;omega
    ·omega
   split at h3
   ·simp only[Option.some.injEq]at h3
    have e2:G+(tau (G+k0) l H.next n-G)=tau (G+k0) l H.next n:=by omega
    rw[e2]at h3
    exact⟨by omega,h3⟩
   ·cases h3
  ·simp only[glTr,Tr.get_lf]at h;cases h
 have hinj:∀n m,n<G+k0+l.length->m<G+k0+l.length->tau (G+k0) l H.next n=tau (G+k0) l H.next m->n=m:=by
  intro n m h1 h2 e
  rcases tau_cases (n0:=G+k0) (l:=l) (next:=H.next) (n:=n)with⟨a,b⟩ | ⟨x,a,b,c,d⟩ | ⟨a,b⟩<;>
   rcases tau_cases (n0:=G+k0) (l:=l) (next:=H.next) (n:=m)with⟨a',b'⟩ | ⟨x',a',b',c',d'⟩ | ⟨a',b'⟩
  ·rw[b,b']at e;exact e
  ·rw[b,d']at e;subst e;have:=(hl _ (List.mem_of_getElem? c')).1;omega
  ·omega
  ·rw[d,b']at e;subst e;have:=(hl _ (List.mem_of_getElem? c)).1;omega
  ·rw[d,d']at e;subst e
   have h4:n-(G+k0)<l.length:=by omega
   have:=(List.getElem?_inj h4 hnd).1 (c.trans c'.symm)
   omega
  ·omega
  ·omega
  ·omega
  ·omega
 constructor
 ·intro n o h
  obtain⟨h1,h2⟩:=hget n o h
  exact objR_ren (R.obj _ _ h2)
 ·intro n m o o' h h' hne how
  obtain⟨h1,h2⟩:=hget n o h
  obtain⟨h1',h2'⟩:=hget m o' h'
  exact R.inj _ _ _ _ h2 h2' (fun e=>hne (hinj n m h1 h1' e)) (by rw[oren_own];exact how)
 ·intro n h
  simp only[hOf,hlen]at h
  show F (tau (G+k0) l H.next n)=none
  rw[tau_new (by omega)]
  exact R.fresh _ (by omega)
 ·intro g hg
  simp only[Nm.re,tau_lt (show g<G+k0 by omega)]
  exact R.glob g hg
 ·exact R.base
 ·exact R.frame
 ·intro b i v hz
  exact⟨(R.froz b i v hz).1,fun n o hn ho=>(R.froz b i v hz).2 _ _ (hget n o hn).2 (by rw[oren_own];exact ho)⟩
 ·exact R.zprot
 ·exact R.os
 ·exact R.out
 ·exact R.tape
theorem wk_names{k0:Nat}{l:List Nat}{vals vals':List Value}{objs objs':List (Option AObj)}(hn:Names G k0 l (G+objs.length) vals objs vals' objs'):Wk G (G+k0) vals objs vals' objs':=by
 have h0:=hn.1
 refine⟨by rw[h0,List.length_map],fun B F w R=>⟨F.re (tau (G+k0) l (G+objs.length)),⟨fun n hn => .inl ?_,zle_refl _⟩,?_,fun i v v' x h1 h2 hv=>?_⟩⟩
 ·simp only[Nm.re,tau_lt hn]
 ·have:=R.weaken (k0:=k0) (l:=l) (vals:=vals) (vals':=vals') (objs':=objs') (by rw[objsOf_hOf];exact hn)
  exact this
 ·rw[h0,List.getElem?_map,h2]at h1
  simp only[Option.map_some,Option.some.injEq]at h1
  rw[←h1]at hv
  exact(VR_ren _ _).1 hv
def Weak(v v':Value):Prop:=∀F x,VR F v x->VR F v' x
theorem Weak.refl(v:Value):Weak v v:=fun _ _ h=>h
theorem Weak.top(v:Value):Weak v top:=fun _ _ _=>by simp[Abs.top,VR]
theorem Weak.mark{a:Addr}{l c:Nat}(hl:l≠0):Weak (.slice (some a) l c) (.iface mkM (.slice (some a) l c)):=fun _ _ h=>VR.M_mk h hl
theorem Weak.nilM{a:Addr}{c:Nat}:Weak (.slice none 0 0) (.iface mkM (.slice (some a) 0 c)):=fun _ x h=>by
 simp only[VR]at h;subst h;exact VR.M_nil _ _ _
theorem Weak.nilD{c:Nat}:Weak (.slice none 0 c) (.iface mkD (.agg ⟨[]⟩)):=fun _ x h=>by
 simp only[VR]at h;subst h;exact VR.D_nil _ _
theorem Weak.emptyMD{a:Addr}{c:Nat}:Weak (.iface mkM (.slice (some a) 0 c)) (.iface mkD (.agg ⟨[]⟩)):=fun _ x h=>by
 rcases h.M_cases with⟨e,_⟩ | ⟨_,a',e⟩
 ·exact absurd rfl e
 ·subst e;exact VR.D_nil _ _
inductive WeakL:List Value->List Value->Prop
 |nil:WeakL [] []
 |cons {v v':Value} {l l':List Value} (h:Weak v v') (t:WeakL l l'):WeakL (v::l) (v'::l')
theorem WeakL.refl:∀l:List Value,WeakL l l
 | [] => .nil
 |v::l => .cons (.refl v) (WeakL.refl l)
theorem WeakL.ok{F:Nm}:∀ {l l' x:List Value},WeakL l l'->VRL F l x->VRL F l' x
 | [],_,x,.nil,hv=>hv
 |v::l,_,x,.cons h t,hv=>by
  simp only[VRL]at hv ⊢
  obtain⟨v',r',h1,h2,e⟩:=hv
  exact⟨v',r',h _ _ h1,t.ok h2,e⟩
theorem WeakL.len:∀ {l l':List Value},WeakL l l'->l'.length=l.length
 | [],_,.nil=>rfl
 |v::l,_,.cons h t=>by simp[t.len]
theorem WeakL.get:∀ {l l':List Value},WeakL l l'->∀(i:Nat) v v',l[i]?=some v->l'[i]?=some v'->Weak v v'
 | [],_,.nil,i,v,v',h,_=>by simp at h
 |x::l,_,.cons h t,0,v,v',h1,h2=>by simp at h1 h2;subst h1;subst h2;exact h
 |x::l,_,.cons h t,i+1,v,v',h1,h2=>t.get i v v' (by simpa using h1) (by simpa using h2)
theorem Weak.agg{l l':List Value}(h:WeakL l l'):Weak (.agg ⟨l⟩) (.agg ⟨l'⟩):=fun F x hx=>by
 obtain⟨cs',e,h1⟩:=hx.aggL;subst e;exact VR.ofAggL (h.ok h1)
theorem Weak.tup{l l':List Value}(h:WeakL l l'):Weak (.tuple ⟨l⟩) (.tuple ⟨l'⟩):=fun F x hx=>by
 simp only[VR,VRA]at hx ⊢
 obtain⟨⟨cs'⟩,h1,e⟩:=hx;exact⟨⟨cs'⟩,h.ok h1,e⟩
inductive WeakO:Option AObj->Option AObj->Prop
 |none (o:Option AObj):WeakO o none
 |refl (o:Option AObj):WeakO o o
 |cells {l l':List Value} {e sz:Nat} {lo ow:Bool} (h:WeakL l l'):WeakO (some (.cells l e sz lo ow)) (some (.cells l' e sz lo ow))
inductive WeakOs:List (Option AObj)->List (Option AObj)->Prop
 |nil:WeakOs [] []
 |cons {o o':Option AObj} {l l':List (Option AObj)} (h:WeakO o o') (t:WeakOs l l'):WeakOs (o::l) (o'::l')
theorem WeakOs.refl:∀l:List (Option AObj),WeakOs l l
 | [] => .nil
 |v::l => .cons (.refl v) (WeakOs.refl l)
theorem WeakOs.len:∀ {l l':List (Option AObj)},WeakOs l l'->l'.length=l.length
 | [],_,.nil=>rfl
 |v::l,_,.cons h t=>by simp[t.len]
theorem WeakOs.get:∀ {l l':List (Option AObj)},WeakOs l l'->∀(i:Nat) o',l'[i]?=some o'->∃o,l[i]?=some o/\WeakO o o'
 | [],_,.nil,i,o',h=>by simp at h
 |x::l,_,.cons h t,0,o',h1=>by simp at h1;subst h1;exact⟨x,rfl,h⟩
 |x::l,_,.cons h t,i+1,o',h1=>by
  obtain⟨o,g1,g2⟩:=t.get i o' (by simpa using h1)
  exact⟨o,by simpa using g1,g2⟩
theorem hOf_at{objs:List (Option AObj)}{n:Nat}{o:AObj}(h:(hOf G [] objs).get n=some o):G<=n/\n<G+objs.length/\objs[n-G]?=some (some o):=by
 rw[hOf_get]at h
 split at h
 ·rename_i hg
  refine⟨hg.1,hg.2,?_⟩
  rw[List.getElem?_eq_getElem (by omega)]at h ⊢
  simpa using h
 ·simp only[glTr,Tr.get_lf]at h;cases h
theorem hOf_of{objs:List (Option AObj)}{i:Nat}{o:AObj}(h:objs[i]?=some (some o)):(hOf G [] objs).get (G+i)=some o:=by
 rw[hOf_get,if_pos ⟨by omega,by have:=(List.getElem?_eq_some_iff.1 h).1;omega⟩,show G+i-G=i by omega,h];rfl
theorem wk_weak{n0:Nat}{vals vals':List Value}{objs objs':List (Option AObj)}(hv:WeakL vals vals')(ho:WeakOs objs objs'):Wk G n0 vals objs vals' objs':=by
 refine⟨hv.len,fun B F w R=>⟨F,Agree.refl _ _,?_,fun i v v' x h1 h2 h=>hv.get i v v' h1 h2 _ _ h⟩⟩
 have key:∀n o',(hOf G [] objs').get n=some o'->∃o,(hOf G [] objs).get n=some o/\o.own=o'.own/\(∀w,objR F B w n o->objR F B w n o'):=by
  intro n o' h
  obtain⟨h1,h2,h3⟩:=hOf_at h
  obtain⟨o,g1,g2⟩:=ho.get _ _ h3
  generalize he:some o'=eo at g2
  cases g2 with
  |none=>cases he
  |refl=>
   subst he
   have:=hOf_of (G:=G) g1
   rw[show G+(n-G)=n by omega]at this
   exact⟨o',this,rfl,fun w h=>h⟩
  |cells hl=>
   simp only[Option.some.injEq]at he;subst he
   have:=hOf_of (G:=G) g1
   rw[show G+(n-G)=n by omega]at this
   refine⟨_,this,rfl,fun w h=>?_⟩
   obtain⟨b,d,o,c,fz,q1,q2,q3,q4,q5,q6⟩:=h
   refine⟨b,d,o,c,fz,q1,q2,?_,by rw[hl.len];exact q4,by rw[hl.len];exact q5,q6⟩
   rw[hl.len];exact hl.ok q3
 have hnx:(hOf G [] objs').next=(hOf G [] objs).next:=by show G+objs'.length=G+objs.length;rw[ho.len]
 constructor
 ·intro n o' h
  obtain⟨o,g1,g2,g3⟩:=key n o' h
  exact g3 _ (R.obj n o g1)
 ·intro n m o o' h h' hne how
  obtain⟨x,g1,g2,_⟩:=key n o h
  obtain⟨y,k1,_,_⟩:=key m o' h'
  exact R.inj n m x y g1 k1 hne (by rw[g2];exact how)
 ·intro n h;exact R.fresh n (by rw[←hnx];exact h)
 ·exact R.glob
 ·exact R.base
 ·exact R.frame
 ·intro b i v hz
  refine⟨(R.froz b i v hz).1,fun n o h how=>?_⟩
  obtain⟨x,g1,g2,_⟩:=key n o h
  exact(R.froz b i v hz).2 n x g1 (by rw[g2];exact how)
 ·exact R.zprot
 ·exact R.os
 ·exact R.out
 ·exact R.tape
theorem VRL.nameless{F:Nm}{l l':List Value}(h:belowL 0 l=true)(hv:VRL F l l'):VRL F.bare l l':=VRL.below (F:=F) (F':=F.bare) ⟨fun n hn=>absurd hn (Nat.not_lt_zero n),zle_refl _⟩ l l' h hv
theorem flat_inv{F:Nm}{size:Nat}:∀(rows:List Value) (vs xs:List Value),flatRows size rows=some vs->belowL 0 vs=true->VRL F vs xs->∃rows',VRL F.bare rows rows'/\
  ∀i r,rows'[i]?=some r->∃cs:List Value,r = .agg ⟨cs⟩/\cs.length=size/\∀j x,cs[j]?=some x->xs[i*size+j]?=some x
 | [],vs,xs,h,hb,hv=>⟨[],by simp[VRL],fun i r hr=>by simp at hr⟩
 |r::rows,vs,xs,h,hb,hv=>by
  cases r<;>simp only[flatRows]at h<;>try(cases h;done)
  rename_i c
  obtain⟨cs⟩:=c
  simp only at h
  split at h<;>(try(cases h;done))
  rename_i l2 hsz hl2
  simp only[Option.some.injEq]at h;subst h
  have hsz:=Nat.eq_of_beq_eq_true hsz
  have hbl:belowL 0 cs=true/\belowL 0 l2=true:=by
   have:∀l:List Value,belowL 0 (l++l2)=true->belowL 0 l=true/\belowL 0 l2=true:=by
    intro l
    induction l with
    |nil=>intro h;exact⟨rfl,h⟩
    |cons v l ih=>
     intro h
     simp only[List.cons_append,belowL,Bool.and_eq_true]at h ⊢
     exact⟨⟨h.1,(ih h.2).1⟩,(ih h.2).2⟩
   exact this _ hb
  obtain⟨a,b,e,ha,hb2⟩:=VRL.split hv
  subst e
  obtain⟨rows',k1,k2⟩:=flat_inv rows l2 b hl2 hbl.2 hb2
  have hal:=ha.length
  refine⟨.agg ⟨a⟩::rows',?_,fun i r hr=>?_⟩
  ·simp only[VRL];exact⟨_,_,VR.ofAggL (ha.nameless hbl.1),k1,rfl⟩
  ·cases i with
   |zero=>
    simp only[List.getElem?_cons_zero,Option.some.injEq]at hr;subst hr
    refine⟨a,rfl,by omega,fun j x hj=>?_⟩
    rw[Nat.zero_mul,Nat.zero_add,List.getElem?_append_left (List.getElem?_eq_some_iff.1 hj).1];exact hj
   |succ i=>
    simp only[List.getElem?_cons_succ]at hr
    obtain⟨cs',g1,g2,g3⟩:=k2 i r hr
    refine⟨cs',g1,g2,fun j x hj=>?_⟩
    have:=g3 j x hj
    rw[List.getElem?_append_right (by rw[Nat.succ_mul];omega),←this]
    congr 1;rw[Nat.succ_mul];omega
def FrzV(n:Nat)(rows:List Value)(v v':Value):Prop:=v'=v∨(v' = .iface mkD (.agg ⟨rows⟩)/\∃c,rows.length<=c/\(v = .slice (some ⟨n,0,none⟩) rows.length c∨(v = .iface mkM (.slice (some ⟨n,0,none⟩) rows.length c)/\rows≠[])))
theorem wk_freeze{n0 i:Nat}{vals vals':List Value}{objs:List (Option AObj)}{rows vs:List Value}{e size:Nat}{lo:Bool}(ho:objs[i]?=some (some (.cells vs e size lo true)))(hf:flatRows size rows=some vs)(hb:belowL 0 vs=true)(hs:0<size)
  (hl:vals'.length=vals.length) (hv:∀(j:Nat) v v',vals[j]?=some v->vals'[j]?=some v'->FrzV (G+i) rows v v'):Wk G n0 vals objs vals' (objs.set i none):=by
 refine⟨hl,fun B F w R=>?_⟩
 have hg:=hOf_of (G:=G) ho
 obtain⟨b,d,o,c,fz,hF,⟨t,hw,ht⟩,hvl,hsz,hex,hown⟩:=R.obj _ _ hg
 obtain⟨hb0,_⟩:=hown rfl
 have hnz:∀j,F.z b j=none:=by
  intro j
  cases hz:F.z b j with
  |none=>rfl
  |some v=>exact absurd (by simp[blk,hF]) ((R.froz b j v hz).2 _ _ hg rfl)
 let F':Nm:=⟨F.f,fun b' j=>if b'=b/\o<=j/\j<o+vs.length then c[j]? else F.z b' j⟩
 have hle:Nm.le F F':=by
  refine⟨fun n x h=>h,fun b' j v hz=>?_⟩
  show(if b'=b/\o<=j/\j<o+vs.length then c[j]? else F.z b' j)=some v
  rw[if_neg]
  ·exact hz
  ·intro hc;rw[hc.1,hnz]at hz;cases hz
 have hget:∀n ob,(hOf G [] (objs.set i none)).get n=some ob->(hOf G [] objs).get n=some ob/\n≠G+i:=by
  intro n ob h
  obtain⟨h1,h2,h3⟩:=hOf_at h
  rw[List.length_set]at h2
  rw[List.getElem?_set]at h3
  split at h3
  ·split at h3
   ·simp at h3
   ·cases h3
  ·rename_i hne
   have:=hOf_of (G:=G) h3
   rw[show G+(n-G)=n by omega]at this
   exact⟨this,by omega⟩
 refine⟨F',hle.agree,?_,fun j v v' x h1 h2 hx=>?_⟩
 ·constructor
  ·intro n ob h;exact objR_mono hle (R.obj n ob (hget n ob h).1)
  ·intro n m ob ob' h h' hne how;exact R.inj n m ob ob' (hget n ob h).1 (hget m ob' h').1 hne how
  ·intro n h
   exact R.fresh n (by have h:G+(objs.set i none).length<=n:=h;rw[List.length_set]at h;exact h)
  ·exact R.glob
  ·exact R.base
  ·exact R.frame
  ·intro b' j v hz
   have hz:(if b'=b/\o<=j/\j<o+vs.length then c[j]? else F.z b' j)=some v:=hz
   split at hz
   ·rename_i hc
    refine⟨⟨c,t,fz,by rw[hc.1];exact hw,hz⟩,fun n ob h how=>?_⟩
    obtain⟨g1,g2⟩:=hget n ob h
    have:=R.inj n (G+i) ob _ g1 hg g2 how
    rw[hc.1]
    intro hc2
    apply this
    rw[show blk F n=some b from hc2];simp[blk,hF]
   ·exact⟨(R.froz b' j v hz).1,fun n ob h how=>(R.froz b' j v hz).2 n ob (hget n ob h).1 how⟩
  ·intro b' j v hz hp
   have hz:(if b'=b/\o<=j/\j<o+vs.length then c[j]? else F.z b' j)=some v:=hz
   split at hz
   ·rename_i hc;exact absurd (hc.1 ▸ hp) hb0
   ·exact R.zprot b' j v hz hp
  ·exact R.os
  ·exact R.out
  ·exact R.tape
 ·have slice:∀cc,rows.length<=cc->VR F (.slice (some ⟨G+i,0,none⟩) rows.length cc) x->VR F' (.iface mkD (.agg ⟨rows⟩)) x:=by
   intro cc hcc hx
   simp only[VR]at hx
   obtain⟨a',d',o',q1,q2,q3,q4⟩:=hx
   rw[hF]at q1;simp only[Option.some.injEq,Prod.mk.injEq]at q1
   obtain⟨e1,e2,e3⟩:=q1
   subst q4
   obtain⟨rows',k1,k2⟩:=flat_inv (F:=F') rows vs _ hf hb (VRL.mono hle _ _ hvl)
   refine VR.D_mk (rows':=rows') (sz:=size) k1 (by omega) q3 hs fun r rr hr=>?_
   obtain⟨cs,g1,g2,g3⟩:=k2 r rr hr
   refine⟨cs,g1,g2,fun j y hj=>?_⟩
   have:=g3 j y hj
   rw[List.getElem?_take]at this
   split at this
   ·rename_i hlt
    rw[List.getElem?_drop]at this
    show(if a'.block=b/\o<=a'.off+r*size+j/\a'.off+r*size+j<o+vs.length then c[a'.off+r*size+j]? else F.z a'.block (a'.off+r*size+j))=some y
    rw[if_pos ⟨e1.symm,by omega,by omega⟩]
    have e5:a'.off+r*size+j=o+(r*size+j):=by omega
    rw[e5,←this];simp
   ·cases this
  rcases hv j v v' h1 h2 with e|⟨e,cc,hcc,e2⟩
  ·subst e;exact VR.mono hle _ _ hx
  ·subst e
   rcases e2 with e2|⟨e2,hne⟩
   ·subst e2;exact slice cc hcc hx
   ·subst e2
    rcases hx.M_cases with⟨_,hx⟩ | ⟨e3,_⟩
    ·exact slice cc hcc hx
    ·exact absurd (List.eq_nil_of_length_eq_zero e3) hne
end
end
end Go.Abs
namespace Go.Abs
open Go
noncomputable section
inductive Is(p:Prop):Prop
 |mk (h:p):Is p
theorem Is.out{p:Prop}(h:Is p):p:=by cases h;assumption
section
variable {P:Program} {G:Nat} {B:Base}
mutual
theorem vren_below{n0:Nat}{τ:Nat->Nat}(hτ:∀n,n<n0->τ n=n):∀v:Value,below n0 v=true->vren τ v=v
 | .pointer (some a),h=>by rw[vren,hτ _ (Nat.le_of_ble_eq_true h)]
 | .slice (some a) l c,h=>by rw[vren,hτ _ (Nat.le_of_ble_eq_true h)]
 | .map (some r),h=>by rw[vren,hτ _ (Nat.le_of_ble_eq_true h)]
 | .func f x y,h=>by
  simp only[below,Bool.and_eq_true]at h
  simp only[vren,vrenA_below hτ x h.1,vrenA_below hτ y h.2]
 | .iface t v,h=>by
  simp only[below]at h
  simp only[vren]
  split
  ·rfl
  ·rename_i ht;simp only[ht]at h;rw[vren_below hτ v h]
 | .agg c,h=>by simp only[below]at h;simp only[vren,vrenA_below hτ c h]
 | .tuple c,h=>by simp only[below]at h;simp only[vren,vrenA_below hτ c h]
 | .bool _,_=>rfl
 | .int _ _,_=>rfl
 | .float _ _,_=>rfl
 | .complex _ _ _,_=>rfl
 | .string _,_=>rfl
 | .pointer none,_=>rfl
 | .slice none _ _,_=>rfl
 | .map none,_=>rfl
 | .chan _,_=>rfl
 | .nilFunc,_=>rfl
 | .nilIface,_=>rfl
theorem vrenA_below{n0:Nat}{τ:Nat->Nat}(hτ:∀n,n<n0->τ n=n):∀c:Array Value,belowA n0 c=true->vrenA τ c=c
 |⟨l⟩,h=>by simp only[belowA]at h;simp only[vrenA,vrenL_below hτ l h]
theorem vrenL_below{n0:Nat}{τ:Nat->Nat}(hτ:∀n,n<n0->τ n=n):∀l:List Value,belowL n0 l=true->vrenL τ l=l
 | [],_=>rfl
 |v::l,h=>by
  simp only[belowL,Bool.and_eq_true]at h
  simp only[vrenL,vren_below hτ v h.1,vrenL_below hτ l h.2]
end
theorem pure_lift{f:FuncId}{args:List Value}{v:Value}(h:∀B,CallH P G B f args (hOf G [] []) (.returned v) (hOf G [] []))(ha:belowL G args=true)(hv:below G v=true)(B:Base)(H:Heap):CallH P G B f args H (.returned v) H:=by
 have hV:Valid P G ⟨f,args,[],[],.returned v,[],[]⟩:=⟨rfl,rfl,h⟩
 have:=hV.call (H:=H) (ns:=[]) rfl List.nodup_nil (fun i o h=>by simp at h) (fun x hx=>by cases hx) B
 have hτ:∀n,n<G->tau G [] H.next n=n:=fun n hn=>tau_lt hn
 simp only[eren,vrenL_below hτ args ha,vren_below hτ v hv]at this
 exact this
theorem liftO{f:FuncId}{args:List Value}{e:Ending}{ins upd:List (Option AObj)}{new:List AObj}(hu:upd.length=ins.length)(hhole:∀i:Nat,ins[i]?=some none->upd[i]?=some none)(hnew:new.all (·.own)=true)
  (hcall:∀B,CallH P G B f args (hOf G [] ins) e (hOf G [] (upd++new.map some))) {H:Heap} {ns:List Nat} (hl:ns.length=ins.length) (hnd:ns.Nodup) (hnlt:∀m∈ns,G<=m/\m<H.next)
  (hobj:∀(i:Nat) (o:AObj),ins[i]?=some (some o)->∃n:Nat,ns[i]?=some n/\H.get n=some (oren (tau G ns H.next) o)) (B:Base):
  CallH P G B f (vrenL (tau G ns H.next) args) H (eren (tau G ns H.next) e) (pushAll (putAll H ns (upd.map (·.map (oren (tau G ns H.next))))) (new.map (oren (tau G ns H.next)))):=by
 intro F w args' R ha
 have hGn:=R.next_le
 generalize hτ:tau G ns H.next=τ at*
 have hτlt:∀n,n<G->τ n=n:=fun n h=>by rw[←hτ];exact tau_lt h
 have hτin:∀n m:Nat,G<=n->ns[n-G]?=some m->τ n=m:=fun n m h h2=>by rw[←hτ];exact tau_in h h2
 have hτnew:∀n,G+ns.length<=n->τ n=H.next+(n-G-ns.length):=fun n h=>by rw[←hτ];exact tau_new h
 have hin:∀n,G<=n->n<G+ns.length->∃m,ns[n-G]?=some m/\τ n=m/\m∈ns/\m<H.next/\∀o,ins[n-G]?=some (some o)->H.get m=some (oren τ o):=by
  intro n h1 h2
  have h3:n-G<ns.length:=by omega
  have h4:ns[n-G]?=some ns[n-G]:=by simp[h3]
  have h5:ns[n-G]∈ns:=List.getElem_mem h3
  refine⟨_,h4,hτin n _ h1 h4,h5,(hnlt _ h5).2,fun o ho=>?_⟩
  obtain⟨m,g1,g2⟩:=hobj _ _ ho
  rw[h4]at g1;simp only[Option.some.injEq]at g1;subst g1;exact g2
 let B2:Base:=⟨w,fun i=>i<w.heap.size/\∀n o,n∈ns->H.get n=some o->o.own=true->blk F n≠some i,fun i h=>h.1,F.z⟩
 have hins:∀n o,(hOf G [] ins).get n=some o->G<=n/\n<G+ns.length/\ins[n-G]?=some (some o):=by
  intro n o h
  rw[hOf_get]at h
  split at h
  ·rename_i hg
   refine⟨hg.1,by omega,?_⟩
   rw[List.getElem?_eq_getElem (by omega)]at h ⊢
   simpa using h
  ·simp only[glTr,Tr.get_lf]at h;cases h
 have R2:Rel G (F.re τ) (hOf G [] ins) B2 w:=by
  constructor
  ·intro n o h
   obtain⟨h1,h2,h3⟩:=hins n o h
   obtain⟨m,g1,g2,hm,g4,g5⟩:=hin n h1 h2
   have h5:=R.obj m _ (g5 o h3)
   have h6:objR F B2 w m (oren τ o):=by
    exact objR_base h5 fun ho b hb _ hp=>hp.2 m _ hm (g5 _ h3) ho hb
   rw[←g2]at h6
   exact objR_ren h6
  ·intro n m o o' hn hm hne ho
   obtain⟨h1,h2,h3⟩:=hins n o hn
   obtain⟨h1',h2',h3'⟩:=hins m o' hm
   obtain⟨a,g1,g2,g3,g4,g5⟩:=hin n h1 h2
   obtain⟨a',g1',g2',g3',g4',g5'⟩:=hin m h1' h2'
   have hne':a≠a':=by
    intro e;subst e
    have h4:n-G<ns.length:=by omega
    have:=(List.getElem?_inj h4 hnd).1 (g1.trans g1'.symm)
    omega
   have:=R.inj a a' _ _ (g5 o h3) (g5' o' h3') hne' (by rw[oren_own];exact ho)
   simp only[blk,Nm.re,g2,g2']at this ⊢;exact this
  ·intro n hn
   have hn:G+ins.length<=n:=hn
   simp only[Nm.re,hτnew n (by omega)]
   exact R.fresh _ (by omega)
  ·intro g hg
   simp only[Nm.re,hτlt g hg];exact R.glob g hg
  ·exact Nat.le_refl _
  ·intro i _;rfl
  ·intro b i v hz
   refine⟨(R.froz b i v hz).1,fun n o hn ho=>?_⟩
   obtain⟨h1,h2,h3⟩:=hins n o hn
   obtain⟨a,g1,g2,g3,g4,g5⟩:=hin n h1 h2
   have:=(R.froz b i v hz).2 a _ (g5 o h3) (by rw[oren_own];exact ho)
   simp only[blk,Nm.re,g2]at this ⊢;exact this
  ·intro b i v hz _;exact hz
  ·rfl
  ·rfl
  ·rfl
 refine(hcall B2 _ w args' R2 ((VRL_ren _ _).1 ha)).mono fun e1 w' ⟨F3,hle,he,R3⟩=>?_
 -- the names behind the call
 let F4:Nm:=⟨fun n=>if H.next<=n then F3 (G+ns.length+(n-H.next))else open Classical in if h:∃i,ns[i]?=some n then F3 (G+Classical.choose h)else F n,F3.z⟩
 have hF4in:∀i m,ns[i]?=some m->F4 m=F3 (G+i):=by
  intro i m hi
  have hm:=(hnlt m (List.mem_of_getElem? hi)).2
  have hex:∃i,ns[i]?=some m:=⟨i,hi⟩
  simp only[F4];rw[if_neg (by omega),dif_pos hex]
  have h2:=Classical.choose_spec hex
  have hlt:i<ns.length:=(List.getElem?_eq_some_iff.1 hi).1
  have:=(List.getElem?_inj hlt hnd).1 (hi.trans h2.symm)
  rw[←this]
 have hF4out:∀n,n<H.next->n ∉ ns->F4 n=F n:=by
  intro n h hn
  simp only[F4];rw[if_neg (by omega),dif_neg (fun⟨i,hi⟩=>hn (List.mem_of_getElem? hi))]
 have hF4:∀n,F3 n=F4 (τ n):=by
  intro n
  rcases Nat.lt_or_ge n G with h|h
  ·have h1:F4 (τ n)=F n:=by
    rw[hτlt n h];exact hF4out n (by omega) (fun hm=>by have:=(hnlt n hm).1;omega)
   rw[h1]
   have:=R.glob n h
   rw[this];exact hle.nm n _ (by simp only[Nm.re,hτlt n h];exact this)
  ·rcases Nat.lt_or_ge n (G+ns.length)with h2|h2
   ·obtain⟨m,g1,g2,g3,g4,g5⟩:=hin n h h2
    rw[g2,hF4in _ _ g1];congr 1;omega
   ·have h1:F4 (τ n)=F3 (G+ns.length+(H.next+(n-G-ns.length)-H.next)):=by
     simp only[F4,hτnew n h2];rw[if_pos (by omega)]
    rw[h1];congr 1;omega
 have hF3:F3=F4.re τ:=Nm.ext_of (fun n=>hF4 n) rfl
 have hleF:Nm.le F F4:=by
  refine⟨?_,hle.zs⟩
  intro n x hx
  have hlt:n<H.next:=by
   rcases Nat.lt_or_ge n H.next with h|h
   ·exact h
   ·rw[R.fresh n h]at hx;cases hx
  by_cases hm:n∈ns
  ·obtain⟨i,hi⟩:=List.getElem?_of_mem hm
   have hil:i<ns.length:=(List.getElem?_eq_some_iff.1 hi).1
   rw[hF4in i n hi]
   refine hle.nm _ _ ?_
   show F (τ (G+i))=some x
   rw[hτin (G+i) n (by omega) (by rw[Nat.add_sub_cancel_left];exact hi)];exact hx
  ·rw[hF4out n hlt hm];exact hx
 refine⟨F4,hleF,(EnR_ren _ _).2 (by rw[←hF3];exact he),?_⟩
 rw[hF3]at R3
 -- what the heap holds
 have hul:ns.length=(upd.map (·.map (oren τ))).length:=by rw[List.length_map];omega
 have hcases:∀n o,(pushAll (putAll H ns (upd.map (·.map (oren τ)))) (new.map (oren τ))).get n=some o->
   (∃k p,n=τ k/\o=oren τ p/\(hOf G [] (upd++new.map some)).get k=some p/\((k<G+ns.length/\n∈ns)∨(G+ns.length<=k/\H.next<=n/\p.own=true)))∨(n ∉ ns/\n<H.next/\H.get n=some o):=by
  intro n o h
  rw[pushAll_get,putAll_next]at h
  split at h
  ·rename_i hr
   left
   rw[List.getElem?_map]at h
   rw[List.length_map]at hr
   cases hc:new[n-H.next]? with
   |none=>rw[hc]at h;cases h
   |some p=>
    rw[hc]at h;simp only[Option.map_some,Option.some.injEq]at h
    refine⟨G+ns.length+(n-H.next),p,?_,h.symm,?_,.inr ⟨by omega,hr.1,?_⟩⟩
    ·rw[hτnew _ (by omega)];omega
    ·rw[hOf_get,if_pos (by rw[List.length_append,List.length_map];omega),List.getElem?_append_right (by omega),List.getElem?_map]
     have:G+ns.length+(n-H.next)-G-upd.length=n-H.next:=by omega
     rw[this,hc];rfl
    ·exact List.all_eq_true.1 hnew p (List.mem_of_getElem? hc)
  ·rename_i hr
   by_cases hm:n∈ns
   ·left
    obtain⟨i,hi⟩:=List.getElem?_of_mem hm
    have hil:i<ns.length:=(List.getElem?_eq_some_iff.1 hi).1
    rw[(putAll_get ns _ H n hul hnd).1 i hi,List.getElem?_map]at h
    have hiu:i<upd.length:=by omega
    rw[List.getElem?_eq_getElem hiu]at h
    simp only[Option.map_some,Option.getD_some,Option.map_eq_some_iff]at h
    obtain⟨p,hp,e⟩:=h
    refine⟨G+i,p,(hτin (G+i) n (by omega) (by rw[Nat.add_sub_cancel_left];exact hi)).symm,e.symm,?_,.inl ⟨by omega,hm⟩⟩
    rw[hOf_get,if_pos (by rw[List.length_append,List.length_map];omega),Nat.add_sub_cancel_left,List.getElem?_append_left hiu,List.getElem?_eq_getElem hiu]
    simpa using hp
   ·right
    rw[(putAll_get ns _ H n hul hnd).2 hm]at h
    exact⟨hm,R.live_lt h,h⟩
 have hprot:∀b,¬B2.prot b->w.heap.size<=b∨∃n o,n∈ns/\H.get n=some o/\o.own=true/\blk F n=some b:=by
  intro b hb
  rcases Nat.lt_or_ge b w.heap.size with h|h
  ·right
   refine Classical.byContradiction fun hc=>hb ⟨h,fun n o hn ho hown hblk=>hc ⟨n,o,hn,ho,hown,hblk⟩⟩
  ·exact .inl h
 have hnprot:∀b,¬B2.prot b->¬B.prot b:=by
  intro b hb hB
  rcases hprot b hb with h|⟨n,o,h1,h2,h3,h4⟩
  ·have:=B.lt b hB;have:=R.base;omega
  ·obtain⟨b',g1,_,g3⟩:=R.blk_lt h2
   rw[h4]at g1;simp only[Option.some.injEq]at g1;subst g1
   exact g3 h3 hB
 have hother:∀n o,n ∉ ns->H.get n=some o->∀b,blk F n=some b->B2.prot b:=by
  intro n o hn ho b hb
  obtain⟨b',g1,g2,_⟩:=R.blk_lt ho
  rw[hb]at g1;simp only[Option.some.injEq]at g1;subst g1
  refine⟨g2,fun m o' hm ho' hown hblk=>?_⟩
  have:=R.inj m n o' o ho' ho (fun e=>hn (e ▸ hm)) hown
  exact this (by rw[hblk,hb])
 constructor
 ·intro n o h
  rcases hcases n o h with⟨k,p,e1,e2,e3,e4⟩ | ⟨h1,h2,h3⟩
  ·subst e1;subst e2
   have h5:=R3.obj k p e3
   have h6:objR (F4.re τ) B w' k p:=by
    exact objR_base h5 fun _ b _ hb=>hnprot b hb
   exact objR_ren' h6
  ·have h5:=R.obj n o h3
   have h6:objR F B w' n o:=objR_other h5 fun b hb=>R3.frame b (hother n o h1 h3 b hb)
   exact objR_mono hleF h6
 ·intro n m o o' hn hm hne ho
  have hA:∀n o,(∃k p,n=τ k/\o=oren τ p/\(hOf G [] (upd++new.map some)).get k=some p)->∃b,blk F4 n=some b/\(o.own=true->¬B2.prot b):=by
   rintro n o ⟨k,p,e1,e2,e3⟩
   subst e1;subst e2
   obtain⟨b,g1,_,g3⟩:=R3.blk_lt e3
   exact⟨b,g1,fun h=>g3 (by rw[oren_own]at h;exact h)⟩
  rcases hcases n o hn with⟨k,p,e1,e2,e3,e4⟩ | ⟨h1,h2,h3⟩<;>rcases hcases m o' hm with⟨k',p',e1',e2',e3',e4'⟩ | ⟨h1',h2',h3'⟩
  ·subst e1;subst e2;subst e1'
   exact R3.inj k k' p p' e3 e3' (fun e=>hne (by rw[e])) (by rw[oren_own]at ho;exact ho)
  ·obtain⟨b,hb,hown⟩:=hA n o ⟨k,p,e1,e2,e3⟩
   obtain⟨b',hb',hlt',_⟩:=R.blk_lt h3'
   intro e
   rw[hb]at e
   simp only[blk,hF4out m h2' h1']at e
   have e':blk F m=some b:=e.symm
   exact hown ho (hother m o' h1' h3' b e')
  ·obtain⟨b',hb',hown'⟩:=hA m o' ⟨k',p',e1',e2',e3'⟩
   intro e
   simp only[blk,hF4out n h2 h1]at e
   have e':blk F n=some b':=by rw[←hb'];exact e
   -- n is ours to write; the callee's m lies in another block
   have hp:=hother n o h1 h3 b' e'
   rcases e4' with⟨hk,hmem⟩ | ⟨_,_,hown2⟩
   ·-- m is one of the names handed in, in n's block
    have hkG:G<=k':=by
     rcases Nat.lt_or_ge k' G with c|c
     ·rw[hOf_get,if_neg (by omega)]at e3'
      simp only[glTr,Tr.get_lf]at e3';cases e3'
     ·exact c
    obtain⟨a,g1,g2,g3,g4,g5⟩:=hin k' hkG hk
    have hupd:upd[k' - G]?=some (some p'):=by
     rw[hOf_get,if_pos (by rw[List.length_append,List.length_map];omega),List.getElem?_append_left (by omega)]at e3'
     rw[List.getElem?_eq_getElem (by omega)]at e3' ⊢
     simpa using e3'
    have hio:∃o2,ins[k' - G]?=some (some o2):=by
     have hlt:k' - G<ins.length:=by omega
     cases ho2:ins[k' - G]with
     |none=>
      have:=hhole (k' - G) (by rw[List.getElem?_eq_getElem hlt,ho2])
      rw[hupd]at this;cases this
     |some o2=>exact⟨o2,by rw[List.getElem?_eq_getElem hlt,ho2]⟩
    obtain⟨o2,ho2⟩:=hio
    have hlive:=g5 o2 ho2
    rw[e1',g2]at hb'
    have hex:∃x,F a=some x:=by
     obtain⟨b2,q1,_⟩:=R.blk_lt hlive
     cases hFa:F a with
     |none=>simp[blk,hFa]at q1
     |some x=>exact⟨x,rfl⟩
    obtain⟨x,hx⟩:=hex
    have hFa:blk F a=some b':=by
     simp only[blk,hleF.nm a x hx]at hb'
     simp only[blk,hx];exact hb'
    have:=R.inj n a o _ h3 hlive (fun e=>h1 (e ▸ g3)) ho
    exact this (by rw[e',hFa])
   ·exact hown' (by rw[e2',oren_own];exact hown2) hp
  ·have:=R.inj n m o o' h3 h3' hne ho
   simp only[blk,hF4out n h2 h1,hF4out m h2' h1']at this ⊢;exact this
 ·intro n hn
  rw[pushAll_next,putAll_next,List.length_map]at hn
  simp only[F4];rw[if_pos (by omega)]
  have:=R3.fresh (G+ns.length+(n-H.next)) (by show G+(upd++new.map some).length<=_;rw[List.length_append,List.length_map];omega)
  have this:F4 (τ (G+ns.length+(n-H.next)))=none:=this
  rw[←hF4]at this;exact this
 ·intro g hg
  exact hleF.nm _ _ (R.glob g hg)
 ·have:=R.base;have:=R3.base
  have e:B2.w.heap.size=w.heap.size:=rfl
  omega
 ·intro i hi
  have h1:=B.lt i hi
  have h2:=R.base
  have h3:B2.prot i:=⟨by omega,fun n o _ ho hown hblk=>by
   obtain⟨b,g1,_,g3⟩:=R.blk_lt ho
   rw[hblk]at g1;simp only[Option.some.injEq]at g1;subst g1
   exact g3 hown hi⟩
  rw[R3.frame i h3];exact R.frame i hi
 ·intro b i v hz
  refine⟨(R3.froz b i v hz).1,fun n o hn ho=>?_⟩
  rcases hcases n o hn with⟨k,p,e1,e2,e3,e4⟩ | ⟨h1,h2,h3⟩
  ·subst e1;subst e2
   exact(R3.froz b i v hz).2 k p e3 (by rw[oren_own]at ho;exact ho)
  ·intro e
   simp only[blk,hF4out n h2 h1]at e
   have hp:=hother n o h1 h3 b e
   exact(R.froz b i v (R3.zprot b i v hz hp)).2 n o h3 ho e
 ·intro b i v hz hp
  have h1:=B.lt b hp
  have h2:=R.base
  have h3:B2.prot b:=⟨by omega,fun n o _ ho hown hblk=>by
   obtain⟨b',g1,_,g3⟩:=R.blk_lt ho
   rw[hblk]at g1;simp only[Option.some.injEq]at g1;subst g1
   exact g3 hown hp⟩
  exact R.zprot b i v (R3.zprot b i v hz h3) hp
 ·rw[R3.os];exact R.os
 ·rw[R3.out];exact R.out
 ·rw[R3.tape];exact R.tape
def retQ(G:Nat)(K:Value->List (Option AObj)->Prop):Res->Prop
 | .en (.returned v) _ h=>match Nat.ble G h.next with
  |true=>K v (objsOf G h)
  |false=>False
 |_=>False
theorem call_objs{f:FuncId}{args:List Value}{H H':Heap}{e:Ending}(hle:G<=H'.next)(h:CallH P G B f args H e H'):CallH P G B f args H e (hOf G [] (objsOf G H')):=by
 intro F w args' R ha
 refine(h F w args' R ha).mono fun e' w' ⟨F',h1,h2,R'⟩=>⟨F',h1,h2,R'.part (fun n o hn=>?_) ?_⟩
 ·rw[hOf_get]at hn
  split at hn
  ·rename_i hr
   rw[objsOf_get]at hn
   split at hn
   ·simp only[Option.getD_some]at hn
    rw[←hn];congr 1;omega
   ·cases hn
  ·simp only[glTr,Tr.get_lf]at hn;cases hn
 ·simp only[hOf,objsOf_len];omega
theorem call_ok(hP:okProg P G=true){W:How}(hkn:KnOk P G W)(hlp:LpOk P G W){n:Nat}{f:FuncId}{args:List Value}{H:Heap}{K:Value->List (Option AObj)->Prop}(h:wpe P (real P) W n (.call f args H) (retQ G K)):
  ∃v objs,K v objs/\∀B,CallH P G B f args H (.returned v) (hOf G [] objs):=by
 obtain⟨r,h1,h2⟩:=wpe_ok hP hkn hlp n _ _ h
 unfold retQ at h2
 split at h2
 ·rename_i v u h'
  split at h2
  ·rename_i hle
   exact⟨v,objsOf G h',h2,fun B=>call_objs (Nat.le_of_ble_eq_true hle) (h1 B)⟩
  ·exact h2.elim
 ·exact h2.elim
theorem call_wk{f:FuncId}{args:List Value}{ins:List (Option AObj)}{v v':Value}{objs objs':List (Option AObj)}
  (h:CallH P G B f args (hOf G [] ins) (.returned v) (hOf G [] objs)) (hn:Wk G (G+ins.length) [v] objs [v'] objs'):
  CallH P G B f args (hOf G [] ins) (.returned v') (hOf G [] objs'):=by
 intro F w args' R ha
 refine(h F w args' R ha).mono fun e' w' ⟨F',h1,h2,R'⟩=>?_
 obtain⟨F2,k1,k2,k3⟩:=hn.2 B F' w' R'
 refine⟨F2,⟨fun n x hx=>?_,fun b i v e=>k1.zs b i v (h1.zs b i v e)⟩,?_,k2⟩
 ·have hlt:n<G+ins.length:=by
   rcases Nat.lt_or_ge n (G+ins.length)with c|c
   ·exact c
   ·have:=R.fresh n c;rw[this]at hx;cases hx
  rcases k1.nm n hlt with e|e
  ·rw[e];exact h1.nm n x hx
  ·rw[h1.nm n x hx]at e;cases e
 ·simp only[EnR]at h2 ⊢
  obtain⟨v2,h3,h4⟩:=h2
  exact⟨v2,k3 0 v v' v2 rfl rfl h3,h4⟩
def roundQ(G:Nat)(live live2:List Nat)(N:Nat)(ds:List Deferred)(back:List Value->List (Option AObj)->Prop)(out:Exit->List Value->List (Option AObj)->Prop):Res->Prop
 | .ex e s=>match Nat.beq s.ts.n N&&Nat.ble G s.h.next with
  |true=>s.ds=ds/\match e with
   | .normal=>back (live.map s.ts.get) (objsOf G s.h)
   | .exit id=>out (.exit id) (live2.map s.ts.get) (objsOf G s.h)
   | .ret=>out .ret (live2.map s.ts.get) (objsOf G s.h)
   | .panic c=>flatCh c=true/\out (.panic c) (live2.map s.ts.get) (objsOf G s.h)
   |_=>False
  |false=>False
 |_=>False
theorem round_ok{α:Type}{k0 N:Nat}{live live2:List Nat}{ds:List Deferred}{m:α->Nat}{I:α->List Value×List (Option AObj)}{R:α->Exit->List Value->List (Option AObj)->Prop}{a:α}{r:Res}
  {back:List Value->List (Option AObj)->Prop} {out:Exit->List Value->List (Option AObj)->Prop}
  (hb:∀vals objs,back vals objs->∃a',m a' < m a/\Wk G (G+k0) vals objs (I a').1 (I a').2/\∀e v o,R a' e v o->R a e v o)
  (ho:∀e vals objs,out e vals objs->∃v o,Wk G (G+k0) vals objs v o/\R a e v o)
  (h:roundQ G live live2 N ds back out r):RoundQ G k0 N live live2 ds m I R a r:=by
 cases r with
 |en _ _ _=>exact h.elim
 |ex e s=>
  simp only[roundQ]at h
  split at h
  ·rename_i hc
   simp only[Bool.and_eq_true]at hc
   obtain⟨hds,h⟩:=h
   refine⟨Nat.le_of_ble_eq_true hc.2,Nat.eq_of_beq_eq_true hc.1,hds,?_⟩
   cases e<;>try exact h.elim
   ·exact hb _ _ h
   ·exact⟨rfl,ho _ _ _ h⟩
   ·exact⟨rfl,ho _ _ _ h⟩
   ·exact⟨h.1,ho _ _ _ h.2⟩
  ·exact h.elim
def SumOk(P:Program)(G:Nat)(f:FuncId)(S:List Value->Heap->VK->Prop):Prop:=∀args H K,S args H K->∃v H',(∀B,CallH P G B f args H (.returned v) H')/\K v H'
def lookN{α:Type}:List (Nat×α)->Nat->Option α
 | [],_=>none
 |x::l,n=>match Nat.beq x.1 n with
  |true=>some x.2
  |false=>lookN l n
theorem lookN_mem{α:Type}:∀(l:List (Nat×α)) (n:Nat) (a:α),lookN l n=some a->(n,a)∈l
 | [],n,a,h=>by cases h
 |x::l,n,a,h=>by
  unfold lookN at h
  split at h
  ·rename_i e
   have e:=Nat.eq_of_beq_eq_true e
   simp only[Option.some.injEq]at h;subst h;subst e
   exact List.mem_cons_self ..
  ·exact List.mem_cons_of_mem _ (lookN_mem l n a h)
abbrev KnL:=List (FuncId×(List Value->Heap->VK->Prop))
abbrev PuL:=List (FuncId×(List Value->(Value->Prop)->Prop))
abbrev LpS:=Code->Nat->List Value->List Deferred->Heap->(Res->Prop)->Prop
abbrev LpL:=List (Nat×(Nat×(List Nat×LpS)))
def lookP:LpL->Nat->Nat->Option (List Nat×LpS)
 | [],_,_=>none
 |x::l,k,n=>match Nat.beq x.1 k&&Nat.beq x.2.1 n with
  |true=>some x.2.2
  |false=>lookP l k n
theorem lookP_mem:∀(l:LpL) (k n:Nat) (a:List Nat×LpS),lookP l k n=some a->(k,n,a)∈l
 | [],k,n,a,h=>by cases h
 |x::l,k,n,a,h=>by
  unfold lookP at h
  split at h
  ·rename_i e
   simp only[Bool.and_eq_true]at e
   have e1:=Nat.eq_of_beq_eq_true e.1
   have e2:=Nat.eq_of_beq_eq_true e.2
   simp only[Option.some.injEq]at h;subst h;subst e1;subst e2
   exact List.mem_cons_self ..
  ·exact List.mem_cons_of_mem _ (lookP_mem l k n a h)
def cfOf:List (Nat×Nat)->Nat->Option Nat->Bool
 | [],_,_=>false
 |x::l,n,d=>match d with
  |some d=>match Nat.beq x.1 n&&Nat.beq x.2 d with
   |true=>true
   |false=>cfOf l n (some d)
  |none=>false
def howOf(sy:Sy)(sp:Nat->Bool)(kn:KnL)(lp:LpL)(pu:PuL)(cf:List (Nat×Nat)):How:=⟨sy,sp,lookN kn,lookP lp,lookN pu,cfOf cf⟩
theorem kn_ok{sy:Sy}{sp:Nat->Bool}{kn:KnL}{lp:LpL}{pu:PuL}{cf:List (Nat×Nat)}(h:∀x∈kn,SumOk P G x.1 x.2)(h':∀x∈pu,PuOk P G x.1 x.2):KnOk P G (howOf sy sp kn lp pu cf):=
 ⟨fun f S hS=>h _ (lookN_mem kn f S hS),fun f S hS=>h' _ (lookN_mem pu f S hS)⟩
def LoopOk(P:Program)(G:Nat)(live:List Nat)(S:LpS):Prop:=
 ∀c n vals ds h Q,S c n vals ds h Q->∃r,(∀B,Holds P G B (.loop false c ⟨tmOf n live vals,ds,h,.run⟩) r)/\Q r
theorem lp_ok{sy:Sy}{sp:Nat->Bool}{kn:KnL}{lp:LpL}{pu:PuL}{cf:List (Nat×Nat)}(h:∀x∈lp,LoopOk P G x.2.2.1 x.2.2.2):LpOk P G (howOf sy sp kn lp pu cf):=fun k n live S hS=>h _ (lookP_mem lp k n _ hS)
theorem holds_objs{c:Code}{n:Nat}{live:List Nat}{vals:List Value}{ds:List Deferred}{h:Heap}{r:Res}(hle:G<=h.next)
  (hh:Holds P G B (.loop false c ⟨tmOf n live vals,ds,hOf G [] (objsOf G h),.run⟩) r):Holds P G B (.loop false c ⟨tmOf n live vals,ds,h,.run⟩) r:=by
 cases r with
 |en _ _ _=>exact hh.elim
 |ex e s2=>
  intro c0 rest F a cs w hok hs
  exact hh c0 rest F a cs w hok ⟨hs.1.toObjs hle,hs.2⟩
theorem lp_rule(hP:okProg P G=true){W:How}(hkn:KnOk P G W)(hlp:LpOk P G W){α:Type}{k0 N fuel:Nat}{live live2:List Nat}{ds:List Deferred}(hds:belowD (G+k0) ds=true)(m:α->Nat)(I:α->List Value×List (Option AObj))
  (R:α->Exit->List Value->List (Option AObj)->Prop) {c:Code}
  (hbody:∀a,Is (wpe P (real P) W fuel (.code false c (stOf G N live ds (I a))) (roundQ G live live2 N ds
   (fun vals objs=>∃a',m a' < m a/\Wk G (G+k0) vals objs (I a').1 (I a').2/\∀e v o,R a' e v o->R a e v o)
   (fun e vals objs=>∃v o,Wk G (G+k0) vals objs v o/\R a e v o))))
  (a:α) {vals:List Value} {h:Heap} (hk:(objsOf G h).length=k0) (hs:Wk G (G+k0) vals (objsOf G h) (I a).1 (I a).2) (hle:G<=h.next):
  ∃e v o,R a e v o/\∀B,Holds P G B (.loop false c ⟨tmOf N live vals,ds,h,.run⟩) (.ex e (stOf G N live2 ds (v,o))):=by
 obtain⟨e,v,o,h1,h2⟩:=loop_rule hds (R:=R) (m:=m) (fun a=>by
  obtain⟨r,h1,h2⟩:=wpe_ok hP hkn hlp _ _ _ (hbody a).out
  exact⟨r,h1,round_ok (fun vals objs q=>q) (fun e vals objs q=>q) h2⟩) a hk hs
 exact⟨e,v,o,h1,fun B=>holds_objs hle (h2 B)⟩
end
end
end Go.Abs
