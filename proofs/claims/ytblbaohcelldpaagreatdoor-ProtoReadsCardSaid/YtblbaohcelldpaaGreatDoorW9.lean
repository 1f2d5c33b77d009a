/- . -/
import Derived.Test.YtblbaohcelldpaaGreatDoorW7
set_option linter.all false
namespace Go.Abs
open Go
noncomputable section
section
variable {P:Program} {G:Nat} {B:Base}
def Names(G k0:Nat)(l:List Nat)(next:Nat)(AB:List Value)(AL:List (Option AJ))(vals':List Value)(objs':List (Option AJ)):Prop:=
 AB=vals'.map (GA (tau (G+k0) l next))/\objs'.length=k0+l.length/\l.Nodup/\(∀x∈l,G+k0<=x/\x<next)/\G+k0<=next/\
  ∀i o,objs'[i]?=some (some o)->AL[tau (G+k0) l next (G+i)-G]?=some (some (GV (tau (G+k0) l next) o))
theorem Y6{n0:Nat}{l:List Nat}{next n:Nat}:(n<n0/\tau n0 l next n=n)∨(∃m,n0<=n/\n<n0+l.length/\l[n-n0]?=some m/\tau n0 l next n=m)∨(n0+l.length<=n/\tau n0 l next n=next+(n-n0-l.length)):=by
 rcases Nat.lt_or_ge n n0 with h|h
 ·exact .inl ⟨h,PV h⟩
 ·rcases Nat.lt_or_ge n (n0+l.length)with h2|h2
  ·have h3:n-n0<l.length:=by omega
   exact .inr (.inl ⟨l[n-n0],h,h2,by simp[h3],UB h (by simp[h3])⟩)
  ·exact .inr (.inr ⟨h2,bM h2⟩)
theorem Rel.weaken{F:Nm}{H:Heap}{w:World}(R:Rel G F H B w){k0:Nat}{l:List Nat}{AB vals':List Value}{objs':List (Option AJ)}
  (hn:Names G k0 l H.next AB (CY G H) vals' objs'):Rel G (F.re (tau (G+k0) l H.next)) (hOf G [] objs') B w:=by
 obtain⟨_,hlen,hnd,hl,hle,hobj⟩:=hn
 have hget:∀n o,(hOf G [] objs').get n=some o->n<G+k0+l.length/\H.get (tau (G+k0) l H.next n)=some (GV (tau (G+k0) l H.next) o):=by
  intro n o h
  rw[H6]at h
  split at h
  ·rename_i hr
   have h2:objs'[n-G]?=some (some o):=by
    rw[List.getElem?_eq_getElem (by omega)]at h ⊢
    simpa using h
   have h3:=hobj _ _ h2
   have e1:G+(n-G)=n:=by omega
   rw[e1,K6]at h3
   have hge:G<=tau (G+k0) l H.next n:=by
    rcases Y6 (n0:=G+k0) (l:=l) (next:=H.next) (n:=n)with⟨a,b⟩ | ⟨m,a,b,c,d⟩ | ⟨a,b⟩
    ·rw[b];omega
    ·rw[d];have:=(hl m (List.mem_of_getElem? c)).1;omega
    ·omega
   split at h3
   ·simp only[Option.some.injEq]at h3
    have e2:G+(tau (G+k0) l H.next n-G)=tau (G+k0) l H.next n:=by omega
    rw[e2]at h3
    exact⟨by omega,h3⟩
   ·cases h3
  ·simp only[YP,Tr.get_lf]at h;cases h
 have hinj:∀n m,n<G+k0+l.length->m<G+k0+l.length->tau (G+k0) l H.next n=tau (G+k0) l H.next m->n=m:=by
  intro n m h1 h2 e
  rcases Y6 (n0:=G+k0) (l:=l) (next:=H.next) (n:=n)with⟨a,b⟩ | ⟨x,a,b,c,d⟩ | ⟨a,b⟩<;>
   rcases Y6 (n0:=G+k0) (l:=l) (next:=H.next) (n:=m)with⟨a',b'⟩ | ⟨x',a',b',c',d'⟩ | ⟨a',b'⟩
  ·rw[b,b']at e;exact e
  ·rw[b,d']at e;subst e;have:=(hl _ (List.mem_of_getElem? c')).1;omega
  ·omega
  ·rw[d,b']at e;subst e;have:=(hl _ (List.mem_of_getElem? c)).1;omega
  ·rw[d,d']at e;subst e
   have h4:n-(G+k0)<l.length:=by omega
   have:=(List.getElem?_inj h4 hnd).1 (c.trans c'.symm)
   omega
  ·omega
  ·omega
  ·omega
  ·omega
 constructor
 ·intro n o h
  obtain⟨h1,h2⟩:=hget n o h
  exact QG (R.obj _ _ h2)
 ·intro n m o o' h h' hne how
  obtain⟨h1,h2⟩:=hget n o h
  obtain⟨h1',h2'⟩:=hget m o' h'
  exact R.inj _ _ _ _ h2 h2' (fun e=>hne (hinj n m h1 h1' e)) (by rw[EX];exact how)
 ·intro n h
  simp only[hOf,hlen]at h
  show F (tau (G+k0) l H.next n)=none
  rw[bM (by omega)]
  exact R.fresh _ (by omega)
 ·intro g hg
  simp only[Nm.re,PV (show g<G+k0 by omega)]
  exact R.glob g hg
 ·exact R.base
 ·exact R.frame
 ·intro b i v hz
  exact⟨(R.froz b i v hz).1,fun n o hn ho=>(R.froz b i v hz).2 _ _ (hget n o hn).2 (by rw[EX];exact ho)⟩
 ·exact R.zprot
 ·exact R.os
 ·exact R.out
 ·exact R.tape
theorem YF{k0:Nat}{l:List Nat}{AB vals':List Value}{AL objs':List (Option AJ)}(hn:Names G k0 l (G+AL.length) AB AL vals' objs'):Wk G (G+k0) AB AL vals' objs':=by
 have h0:=hn.1
 refine⟨by rw[h0,List.length_map],fun B F w R=>⟨F.re (tau (G+k0) l (G+AL.length)),⟨fun n hn => .inl ?_,ND _⟩,?_,fun i v v' x h1 h2 hv=>?_⟩⟩
 ·simp only[Nm.re,PV hn]
 ·have:=R.weaken (k0:=k0) (l:=l) (AB:=AB) (vals':=vals') (objs':=objs') (by rw[vV];exact hn)
  exact this
 ·rw[h0,List.getElem?_map,h2]at h1
  simp only[Option.map_some,Option.some.injEq]at h1
  rw[←h1]at hv
  exact(SE _ _).1 hv
def EI(v v':Value):Prop:=∀F x,VR F v x->VR F v' x
theorem EI.refl(v:Value):EI v v:=fun _ _ h=>h
theorem EI.top(v:Value):EI v top:=fun _ _ _=>by simp[Abs.top,VR]
theorem EI.mark{a:Addr}{l c:Nat}(hl:l≠0):EI (.slice (some a) l c) (.iface mkM (.slice (some a) l c)):=fun _ _ h=>VR.M_mk h hl
theorem EI.nilM{a:Addr}{c:Nat}:EI (.slice none 0 0) (.iface mkM (.slice (some a) 0 c)):=fun _ x h=>by
 simp only[VR]at h;subst h;exact VR.M_nil _ _ _
theorem EI.nilD{c:Nat}:EI (.slice none 0 c) (.iface mkD (.agg ⟨[]⟩)):=fun _ x h=>by
 simp only[VR]at h;subst h;exact VR.D_nil _ _
theorem EI.emptyMD{a:Addr}{c:Nat}:EI (.iface mkM (.slice (some a) 0 c)) (.iface mkD (.agg ⟨[]⟩)):=fun _ x h=>by
 rcases h.M_cases with⟨e,_⟩ | ⟨_,a',e⟩
 ·exact absurd rfl e
 ·subst e;exact VR.D_nil _ _
inductive BR:List Value->List Value->Prop
 |nil:BR [] []
 |cons {v v':Value} {l l':List Value} (h:EI v v') (t:BR l l'):BR (v::l) (v'::l')
theorem BR.refl:∀l:List Value,BR l l
 | [] => .nil
 |v::l => .cons (.refl v) (BR.refl l)
theorem BR.ok{F:Nm}:∀ {l l' x:List Value},BR l l'->VRL F l x->VRL F l' x
 | [],_,x,.nil,hv=>hv
 |v::l,_,x,.cons h t,hv=>by
  simp only[VRL]at hv ⊢
  obtain⟨v',r',h1,h2,e⟩:=hv
  exact⟨v',r',h _ _ h1,t.ok h2,e⟩
theorem BR.len:∀ {l l':List Value},BR l l'->l'.length=l.length
 | [],_,.nil=>rfl
 |v::l,_,.cons h t=>by simp[t.len]
theorem BR.get:∀ {l l':List Value},BR l l'->∀(i:Nat) v v',l[i]?=some v->l'[i]?=some v'->EI v v'
 | [],_,.nil,i,v,v',h,_=>by simp at h
 |x::l,_,.cons h t,0,v,v',h1,h2=>by simp at h1 h2;subst h1;subst h2;exact h
 |x::l,_,.cons h t,i+1,v,v',h1,h2=>t.get i v v' (by simpa using h1) (by simpa using h2)
theorem EI.agg{l l':List Value}(h:BR l l'):EI (.agg ⟨l⟩) (.agg ⟨l'⟩):=fun F x hx=>by
 obtain⟨cs',e,h1⟩:=hx.aggL;subst e;exact VR.ofAggL (h.ok h1)
theorem EI.tup{l l':List Value}(h:BR l l'):EI (.tuple ⟨l⟩) (.tuple ⟨l'⟩):=fun F x hx=>by
 simp only[VR,VRA]at hx ⊢
 obtain⟨⟨cs'⟩,h1,e⟩:=hx;exact⟨⟨cs'⟩,h.ok h1,e⟩
inductive Y8:Option AJ->Option AJ->Prop
 |none (o:Option AJ):Y8 o none
 |refl (o:Option AJ):Y8 o o
 |cells {l l':List Value} {e sz:Nat} {lo ow:Bool} (h:BR l l'):Y8 (some (.cells l e sz lo ow)) (some (.cells l' e sz lo ow))
inductive D7:List (Option AJ)->List (Option AJ)->Prop
 |nil:D7 [] []
 |cons {o o':Option AJ} {l l':List (Option AJ)} (h:Y8 o o') (t:D7 l l'):D7 (o::l) (o'::l')
theorem D7.refl:∀l:List (Option AJ),D7 l l
 | [] => .nil
 |v::l => .cons (.refl v) (D7.refl l)
theorem D7.len:∀ {l l':List (Option AJ)},D7 l l'->l'.length=l.length
 | [],_,.nil=>rfl
 |v::l,_,.cons h t=>by simp[t.len]
theorem D7.get:∀ {l l':List (Option AJ)},D7 l l'->∀(i:Nat) o',l'[i]?=some o'->∃o,l[i]?=some o/\Y8 o o'
 | [],_,.nil,i,o',h=>by simp at h
 |x::l,_,.cons h t,0,o',h1=>by simp at h1;subst h1;exact⟨x,rfl,h⟩
 |x::l,_,.cons h t,i+1,o',h1=>by
  obtain⟨o,g1,g2⟩:=t.get i o' (by simpa using h1)
  exact⟨o,by simpa using g1,g2⟩
theorem S9{AL:List (Option AJ)}{n:Nat}{o:AJ}(h:(hOf G [] AL).get n=some o):G<=n/\n<G+AL.length/\AL[n-G]?=some (some o):=by
 rw[H6]at h
 split at h
 ·rename_i hg
  refine⟨hg.1,hg.2,?_⟩
  rw[List.getElem?_eq_getElem (by omega)]at h ⊢
  simpa using h
 ·simp only[YP,Tr.get_lf]at h;cases h
theorem Q8{AL:List (Option AJ)}{i:Nat}{o:AJ}(h:AL[i]?=some (some o)):(hOf G [] AL).get (G+i)=some o:=by
 rw[H6,if_pos ⟨by omega,by have:=(List.getElem?_eq_some_iff.1 h).1;omega⟩,show G+i-G=i by omega,h];rfl
theorem CQ{n0:Nat}{AB vals':List Value}{AL objs':List (Option AJ)}(hv:BR AB vals')(ho:D7 AL objs'):Wk G n0 AB AL vals' objs':=by
 refine⟨hv.len,fun B F w R=>⟨F,Agree.refl _ _,?_,fun i v v' x h1 h2 h=>hv.get i v v' h1 h2 _ _ h⟩⟩
 have key:∀n o',(hOf G [] objs').get n=some o'->∃o,(hOf G [] AL).get n=some o/\o.own=o'.own/\(∀w,NA F B w n o->NA F B w n o'):=by
  intro n o' h
  obtain⟨h1,h2,h3⟩:=S9 h
  obtain⟨o,g1,g2⟩:=ho.get _ _ h3
  generalize he:some o'=eo at g2
  cases g2 with
  |none=>cases he
  |refl=>
   subst he
   have:=Q8 (G:=G) g1
   rw[show G+(n-G)=n by omega]at this
   exact⟨o',this,rfl,fun w h=>h⟩
  |cells hl=>
   simp only[Option.some.injEq]at he;subst he
   have:=Q8 (G:=G) g1
   rw[show G+(n-G)=n by omega]at this
   refine⟨_,this,rfl,fun w h=>?_⟩
   obtain⟨b,d,o,c,fz,q1,q2,q3,q4,q5,q6⟩:=h
   refine⟨b,d,o,c,fz,q1,q2,?_,by rw[hl.len];exact q4,by rw[hl.len];exact q5,q6⟩
   rw[hl.len];exact hl.ok q3
 have hnx:(hOf G [] objs').next=(hOf G [] AL).next:=by show G+objs'.length=G+AL.length;rw[ho.len]
 constructor
 ·intro n o' h
  obtain⟨o,g1,g2,g3⟩:=key n o' h
  exact g3 _ (R.obj n o g1)
 ·intro n m o o' h h' hne how
  obtain⟨x,g1,g2,_⟩:=key n o h
  obtain⟨y,k1,_,_⟩:=key m o' h'
  exact R.inj n m x y g1 k1 hne (by rw[g2];exact how)
 ·intro n h;exact R.fresh n (by rw[←hnx];exact h)
 ·exact R.glob
 ·exact R.base
 ·exact R.frame
 ·intro b i v hz
  refine⟨(R.froz b i v hz).1,fun n o h how=>?_⟩
  obtain⟨x,g1,g2,_⟩:=key n o h
  exact(R.froz b i v hz).2 n x g1 (by rw[g2];exact how)
 ·exact R.zprot
 ·exact R.os
 ·exact R.out
 ·exact R.tape
theorem VRL.nameless{F:Nm}{l l':List Value}(h:A8 0 l=true)(hv:VRL F l l'):VRL F.bare l l':=VRL.below (F:=F) (F':=F.bare) ⟨fun n hn=>absurd hn (Nat.not_lt_zero n),ND _⟩ l l' h hv
theorem dI{F:Nm}{size:Nat}:∀(A7:List Value) (vs xs:List Value),BU size A7=some vs->A8 0 vs=true->VRL F vs xs->∃rows',VRL F.bare A7 rows'/\
  ∀i r,rows'[i]?=some r->∃cs:List Value,r = .agg ⟨cs⟩/\cs.length=size/\∀j x,cs[j]?=some x->xs[i*size+j]?=some x
 | [],vs,xs,h,hb,hv=>⟨[],by simp[VRL],fun i r hr=>by simp at hr⟩
 |r::A7,vs,xs,h,hb,hv=>by
  cases r<;>simp only[BU]at h<;>try(cases h;done)
  rename_i c
  obtain⟨cs⟩:=c
  simp only at h
  split at h<;>(try(cases h;done))
  rename_i l2 hsz hl2
  simp only[Option.some.injEq]at h;subst h
  have hsz:=Nat.eq_of_beq_eq_true hsz
  have hbl:A8 0 cs=true/\A8 0 l2=true:=by
   have:∀l:List Value,A8 0 (l++l2)=true->A8 0 l=true/\A8 0 l2=true:=by
    intro l
    induction l with
    |nil=>intro h;exact⟨rfl,h⟩
    |cons v l ih=>
     intro h
     simp only[List.cons_append,A8,Bool.and_eq_true]at h ⊢
     exact⟨⟨h.1,(ih h.2).1⟩,(ih h.2).2⟩
   exact this _ hb
  obtain⟨a,b,e,ha,hb2⟩:=VRL.split hv
  subst e
  obtain⟨rows',k1,k2⟩:=dI A7 l2 b hl2 hbl.2 hb2
  have hal:=ha.length
  refine⟨.agg ⟨a⟩::rows',?_,fun i r hr=>?_⟩
  ·simp only[VRL];exact⟨_,_,VR.ofAggL (ha.nameless hbl.1),k1,rfl⟩
  ·cases i with
   |zero=>
    simp only[List.getElem?_cons_zero,Option.some.injEq]at hr;subst hr
    refine⟨a,rfl,by omega,fun j x hj=>?_⟩
    rw[Nat.zero_mul,Nat.zero_add,List.getElem?_append_left (List.getElem?_eq_some_iff.1 hj).1];exact hj
   |succ i=>
    simp only[List.getElem?_cons_succ]at hr
    obtain⟨cs',g1,g2,g3⟩:=k2 i r hr
    refine⟨cs',g1,g2,fun j x hj=>?_⟩
    have:=g3 j x hj
    rw[List.getElem?_append_right (by rw[Nat.succ_mul];omega),←this]
    congr 1;rw[Nat.succ_mul];omega
def AKk(n:Nat)(A7:List Value)(v v':Value):Prop:=v'=v∨(v' = .iface mkD (.agg ⟨A7⟩)/\∃c,A7.length<=c/\(v = .slice (some ⟨n,0,none⟩) A7.length c∨(v = .iface mkM (.slice (some ⟨n,0,none⟩) A7.length c)/\A7≠[])))
theorem U0{n0 i:Nat}{AB vals':List Value}{AL:List (Option AJ)}{A7 vs:List Value}{e size:Nat}{lo:Bool}(ho:AL[i]?=some (some (.cells vs e size lo true)))(hf:BU size A7=some vs)(hb:A8 0 vs=true)(hs:0<size)
  (hl:vals'.length=AB.length) (hv:∀(j:Nat) v v',AB[j]?=some v->vals'[j]?=some v'->AKk (G+i) A7 v v'):Wk G n0 AB AL vals' (AL.set i none):=by
 refine⟨hl,fun B F w R=>?_⟩
 have hg:=Q8 (G:=G) ho
 obtain⟨b,d,o,c,fz,hF,⟨t,hw,ht⟩,hvl,hsz,hex,hown⟩:=R.obj _ _ hg
 obtain⟨hb0,hfz⟩:=hown rfl
 have hnz:∀j,F.z b j=none:=by
  intro j
  cases hz:F.z b j with
  |none=>rfl
  |some v=>exact absurd (by simp[blk,hF]) ((R.froz b j v hz).2 _ _ hg rfl)
 let F':Nm:=⟨F.f,fun b' j=>if b'=b/\o<=j/\j<o+vs.length then c[j]? else F.z b' j⟩
 have hle:Nm.le F F':=by
  refine⟨fun n x h=>h,fun b' j v hz=>?_⟩
  show(if b'=b/\o<=j/\j<o+vs.length then c[j]? else F.z b' j)=some v
  rw[if_neg]
  ·exact hz
  ·intro hc;rw[hc.1,hnz]at hz;cases hz
 have hget:∀n ob,(hOf G [] (AL.set i none)).get n=some ob->(hOf G [] AL).get n=some ob/\n≠G+i:=by
  intro n ob h
  obtain⟨h1,h2,h3⟩:=S9 h
  rw[List.length_set]at h2
  rw[List.getElem?_set]at h3
  split at h3
  ·split at h3
   ·simp at h3
   ·cases h3
  ·rename_i hne
   have:=Q8 (G:=G) h3
   rw[show G+(n-G)=n by omega]at this
   exact⟨this,by omega⟩
 refine⟨F',hle.agree,?_,fun j v v' x h1 h2 hx=>?_⟩
 ·constructor
  ·intro n ob h;exact JH hle (R.obj n ob (hget n ob h).1)
  ·intro n m ob ob' h h' hne how;exact R.inj n m ob ob' (hget n ob h).1 (hget m ob' h').1 hne how
  ·intro n h
   exact R.fresh n (by have h:G+(AL.set i none).length<=n:=h;rw[List.length_set]at h;exact h)
  ·exact R.glob
  ·exact R.base
  ·exact R.frame
  ·intro b' j v hz
   have hz:(if b'=b/\o<=j/\j<o+vs.length then c[j]? else F.z b' j)=some v:=hz
   split at hz
   ·rename_i hc
    refine⟨⟨c,t,fz,by rw[hc.1];exact hw,hz,fun _=>hfz⟩,fun n ob h how=>?_⟩
    obtain⟨g1,g2⟩:=hget n ob h
    have:=R.inj n (G+i) ob _ g1 hg g2 how
    rw[hc.1]
    intro hc2
    apply this
    rw[show blk F n=some b from hc2];simp[blk,hF]
   ·exact⟨(R.froz b' j v hz).1,fun n ob h how=>(R.froz b' j v hz).2 n ob (hget n ob h).1 how⟩
  ·intro b' j v hz hp
   have hz:(if b'=b/\o<=j/\j<o+vs.length then c[j]? else F.z b' j)=some v:=hz
   split at hz
   ·rename_i hc;exact absurd (hc.1 ▸ hp) hb0
   ·exact R.zprot b' j v hz hp
  ·exact R.os
  ·exact R.out
  ·exact R.tape
 ·have slice:∀cc,A7.length<=cc->VR F (.slice (some ⟨G+i,0,none⟩) A7.length cc) x->VR F' (.iface mkD (.agg ⟨A7⟩)) x:=by
   intro cc hcc hx
   simp only[VR]at hx
   obtain⟨a',d',o',q1,q2,q3,q4⟩:=hx
   rw[hF]at q1;simp only[Option.some.injEq,Prod.mk.injEq]at q1
   obtain⟨e1,e2,e3⟩:=q1
   subst q4
   obtain⟨rows',k1,k2⟩:=dI (F:=F') A7 vs _ hf hb (VRL.mono hle _ _ hvl)
   refine VR.D_mk (rows':=rows') (sz:=size) k1 (by omega) q3 hs fun r rr hr=>?_
   obtain⟨cs,g1,g2,g3⟩:=k2 r rr hr
   refine⟨cs,g1,g2,fun j y hj=>?_⟩
   have:=g3 j y hj
   rw[List.getElem?_take]at this
   split at this
   ·rename_i hlt
    rw[List.getElem?_drop]at this
    show(if a'.block=b/\o<=a'.off+r*size+j/\a'.off+r*size+j<o+vs.length then c[a'.off+r*size+j]? else F.z a'.block (a'.off+r*size+j))=some y
    rw[if_pos ⟨e1.symm,by omega,by omega⟩]
    have e5:a'.off+r*size+j=o+(r*size+j):=by omega
    rw[e5,←this];simp
   ·cases this
  rcases hv j v v' h1 h2 with e|⟨e,cc,hcc,e2⟩
  ·subst e;exact VR.mono hle _ _ hx
  ·subst e
   rcases e2 with e2|⟨e2,hne⟩
   ·subst e2;exact slice cc hcc hx
   ·subst e2
    rcases hx.M_cases with⟨_,hx⟩ | ⟨e3,_⟩
    ·exact slice cc hcc hx
    ·exact absurd (List.eq_nil_of_length_eq_zero e3) hne
end
end
end Go.Abs
