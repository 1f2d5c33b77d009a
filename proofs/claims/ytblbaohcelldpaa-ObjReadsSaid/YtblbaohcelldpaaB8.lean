/- A region that draws its order comes to what its run in the text's order comes to. -/
import Derived.Test.YtblbaohcelldpaaB5
set_option linter.all false
namespace Go.Abs
open Go
noncomputable section
def stg(l:List DRec)(i:Nat):Nat:=((l.take i).filter (·.eff)).length
def tsOf(l:List DRec)(ts:Tm)(i:Nat):Tm:=(l.take i).foldl (fun ts r=>putL ts r.o.dst r.v) ts
structure RecOk(P:Program)(S:Cmd->Res->Prop)(ops:List Oper)(todo:List Oper)(ts:Tm)(hs:List Heap)(l:List DRec)(i:Nat)(r:DRec):Prop where
 op:todo[i]?=some r.o
 tm:r.ts=tsOf l ts i
 on:wantedA r.o ops r.ts=some r.on
 off:r.on=false->r.v=undef/\r.eff=false
 quiet:r.on=true->r.eff=false->quietKind r.o.op=true
 eff:r.eff=true->r.on=true/\∃H H',hs[stg l i]?=some H/\hs[stg l i+1]?=some H'/\
  (aOp P r.o (aev r.ts) H=some (r.v,H')∨∃g args u,callOf P (aev r.ts) r.o.op=some (g,args)/\S (.call g args H) (.en (.returned r.v) u H'))
section
variable {P:Program} {rec:Cmd->Option Res} {ops:List Oper}
theorem RecOk.cons{S:Cmd->Res->Prop}{todo:List Oper}{ts:Tm}{hs:List Heap}{l:List DRec}{r0:DRec}(h0:RecOk P S ops (r0.o::todo) ts hs (r0::l) 0 r0)
  {hs1:List Heap} (hhs:∀k:Nat,hs1[k]?=hs[(if r0.eff then 1 else 0)+k]?)
  (hl:∀i r,l[i]?=some r->RecOk P S ops todo (putL ts r0.o.dst r0.v) hs1 l i r):∀i r,(r0::l)[i]?=some r->RecOk P S ops (r0.o::todo) ts hs (r0::l) i r:=by
 intro i r hi
 cases i with
 |zero=>simp only[List.getElem?_cons_zero,Option.some.injEq]at hi;subst hi;exact h0
 |succ i=>
  simp only[List.getElem?_cons_succ]at hi
  have R:=hl i r hi
  have hst:stg (r0::l) (i+1)=(if r0.eff then 1 else 0)+stg l i:=by
   unfold stg
   rw[List.take_succ_cons,List.filter_cons]
   cases r0.eff<;>simp;omega
  refine⟨by simpa using R.op,by rw[R.tm];rfl,R.on,R.off,R.quiet,fun he=>?_⟩
  obtain⟨h1,H,H',h2,h3,h4⟩:=R.eff he
  refine⟨h1,H,H',?_,?_,h4⟩
  ·rw[hst,←hhs];exact h2
  ·rw[hst,Nat.add_assoc,←hhs];exact h3
theorem drawGo_ok:∀(todo:List Oper) (ts:Tm) (h:Heap) (l:List DRec) (hs:List Heap) (ts':Tm),drawGo P rec ops todo ts h=some (l,hs,ts')->
  l.length=todo.length/\ts'=tsOf l ts l.length/\hs.length=stg l l.length/\∀i r,l[i]?=some r->RecOk P (fun c r=>rec c=some r) ops todo ts (h::hs) l i r
 | [],ts,h,l,hs,ts',hd=>by
  simp only[drawGo,Option.some.injEq,Prod.mk.injEq]at hd
  obtain⟨h1,h2,h3⟩:=hd
  subst h1;subst h2;subst h3
  exact⟨rfl,rfl,rfl,fun i r hi=>by simp at hi⟩
 |o::todo,ts,h,l,hs,ts',hd=>by
  have fin:∀(r0:DRec) (l1:List DRec) (hs1:List Heap) (h1:Heap),r0.o=o->drawGo P rec ops todo (putL ts o.dst r0.v) h1=some (l1,hs1,ts')->RecOk P (fun c r=>rec c=some r) ops (r0.o::todo) ts (h::hs) (r0::l1) 0 r0->
    (∀k:Nat,(h1::hs1)[k]?=(h::hs)[(if r0.eff then 1 else 0)+k]?)->hs.length=(if r0.eff then 1 else 0)+hs1.length->l=r0::l1->
    l.length=(o::todo).length/\ts'=tsOf l ts l.length/\hs.length=stg l l.length/\∀i r,l[i]?=some r->RecOk P (fun c r=>rec c=some r) ops (o::todo) ts (h::hs) l i r:=by
   intro r0 l1 hs1 h1 ho hgo hr0 hk hlen hl
   obtain⟨g1,g2,g3,g4⟩:=drawGo_ok todo _ _ _ _ _ hgo
   subst hl;subst ho
   refine⟨by simp[g1],by rw[g2];rfl,?_,RecOk.cons hr0 hk g4⟩
   rw[hlen,g3];unfold stg
   rw[List.length_cons,List.take_succ_cons,List.filter_cons]
   cases r0.eff<;>simp;omega
  simp only[drawGo]at hd
  split at hd
  ·cases hd
  ·rename_i hw
   split at hd<;>(try(cases hd;done))
   rename_i l1 hs1 ts1 hgo
   simp only[Option.some.injEq,Prod.mk.injEq]at hd
   obtain⟨e1,e2,e3⟩:=hd
   subst e2;subst e3
   exact fin ⟨o,ts,undef,false,false⟩ l1 hs1 h rfl hgo ⟨by simp,rfl,hw,fun _=>⟨rfl,rfl⟩,(fun h=>by cases h),(fun h=>by cases h)⟩ (by intro k;simp) (by simp) e1.symm
  ·rename_i hw
   split at hd
   ·rename_i v h1 hop
    split at hd
    ·rename_i hq
     simp only[Bool.and_eq_true]at hq
     split at hd<;>(try(cases hd;done))
     rename_i l1 hs1 ts1 hgo
     simp only[Option.some.injEq,Prod.mk.injEq]at hd
     obtain⟨e1,e2,e3⟩:=hd
     subst e2;subst e3
     exact fin ⟨o,ts,v,true,false⟩ l1 hs1 h rfl hgo ⟨by simp,rfl,hw,(fun h=>by cases h),(fun _ _=>hq.1),(fun h=>by cases h)⟩ (by intro k;simp) (by simp) e1.symm
    ·split at hd<;>(try(cases hd;done))
     rename_i l1 hs1 ts1 hgo
     simp only[Option.some.injEq,Prod.mk.injEq]at hd
     obtain⟨e1,e2,e3⟩:=hd
     subst e2;subst e3
     exact fin ⟨o,ts,v,true,true⟩ l1 hs1 h1 rfl hgo ⟨by simp,rfl,hw,(fun h=>by cases h),(fun _ h=>by cases h),(fun _=>⟨rfl,h,h1,by simp[stg],by simp[stg],.inl hop⟩)⟩ (by intro k;simp[Nat.add_comm]) (by simp;omega) e1.symm
   ·split at hd<;>(try(cases hd;done))
    rename_i g args hcall
    split at hd<;>(try(cases hd;done))
    rename_i v u h1 hr
    split at hd<;>(try(cases hd;done))
    rename_i l1 hs1 ts1 hgo
    simp only[Option.some.injEq,Prod.mk.injEq]at hd
    obtain⟨e1,e2,e3⟩:=hd
    subst e2;subst e3
    exact fin ⟨o,ts,v,true,true⟩ l1 hs1 h1 rfl hgo ⟨by simp,rfl,hw,(fun h=>by cases h),(fun _ h=>by cases h),(fun _=>⟨rfl,h,h1,by simp[stg],by simp[stg],.inr ⟨g,args,u,hcall,hr⟩⟩)⟩ (by intro k;simp[Nat.add_comm]) (by simp;omega) e1.symm
theorem effsF_ok:∀(l:List DRec) (n t e:Nat),(effsF l n)[t]?=some e↔∃i,e=n+i/\(∃r,l[i]?=some r/\r.eff=true)/\stg l i=t
 | [],n,t,e=>by simp[effsF]
 |r::l,n,t,e=>by
  have hst:∀i,stg (r::l) (i+1)=(if r.eff then 1 else 0)+stg l i:=by
   intro i;unfold stg
   rw[List.take_succ_cons,List.filter_cons]
   cases r.eff<;>simp;omega
  simp only[effsF]
  cases hr:r.eff with
  |true=>
   simp only
   cases t with
   |zero=>
    simp only[List.getElem?_cons_zero,Option.some.injEq]
    constructor
    ·intro h;exact⟨0,by omega,⟨r,rfl,hr⟩,rfl⟩
    ·rintro ⟨i,h1,⟨r',h2,h3⟩,h4⟩
     cases i with
     |zero=>omega
     |succ i=>rw[hst,hr]at h4;simp at h4
   |succ t=>
    simp only[List.getElem?_cons_succ]
    rw[effsF_ok l (n+1) t e]
    constructor
    ·rintro ⟨i,h1,h2,h3⟩;exact⟨i+1,by omega,by simpa using h2,by rw[hst,hr];simp;omega⟩
    ·rintro ⟨i,h1,h2,h3⟩
     cases i with
     |zero=>simp[stg]at h3
     |succ i=>exact⟨i,by omega,by simpa using h2,by rw[hst,hr]at h3;simp at h3;omega⟩
  |false=>
   simp only
   rw[effsF_ok l (n+1) t e]
   constructor
   ·rintro ⟨i,h1,h2,h3⟩;exact⟨i+1,by omega,by simpa using h2,by rw[hst,hr];simp;omega⟩
   ·rintro ⟨i,h1,h2,h3⟩
    cases i with
    |zero=>obtain⟨r',g1,g2⟩:=h2;simp only[List.getElem?_cons_zero,Option.some.injEq]at g1;subst g1;rw[hr]at g2;cases g2
    |succ i=>exact⟨i,by omega,by simpa using h2,by rw[hst,hr]at h3;simp at h3;omega⟩
theorem effs_ok(l:List DRec)(t e:Nat):(effs l)[t]?=some e↔(∃r,l[e]?=some r/\r.eff=true)/\stg l e=t:=by
 unfold effs;rw[effsF_ok]
 constructor
 ·rintro ⟨i,h1,h2,h3⟩;have:e=i:=by omega
  subst this;exact⟨h2,h3⟩
 ·rintro ⟨h1,h2⟩;exact⟨e,by omega,h1,h2⟩
theorem effs_len(l:List DRec):(effs l).length=stg l l.length:=by
 have:∀(l:List DRec) (n:Nat),(effsF l n).length=(l.filter (·.eff)).length:=by
  intro l
  induction l with
  |nil=>intro n;rfl
  |cons r l ih=>intro n;simp only[effsF,List.filter_cons];cases r.eff<;>simp[ih]
 unfold effs stg;rw[this,List.take_length]
theorem zipIdx_all{α:Type}{l:List α}{p:α×Nat->Bool}(h:l.zipIdx.all p=true){i:Nat}{x:α}(hi:l[i]?=some x):p (x,i)=true:=
 List.all_eq_true.1 h _ (by rw[List.mem_zipIdx_iff_getElem?];exact hi)
theorem chain_ok{ms:List Nat}:∀ {es:List Nat} (_:chainOk ms es=true) {t a b:Nat},es[t]?=some a->es[t+1]?=some b->(ms.getD b 0).testBit a=true
 | [],_,t,a,b,ha,_=>by simp at ha
 | [_],_,t,a,b,_,hb=>by simp at hb
 |x::y::r,h,0,a,b,ha,hb=>by
  simp only[chainOk,Bool.and_eq_true]at h
  simp only[List.getElem?_cons_zero,Option.some.injEq]at ha
  simp only[List.getElem?_cons_succ,List.getElem?_cons_zero,Option.some.injEq]at hb
  subst ha;subst hb;exact h.1
 |x::y::r,h,t+1,a,b,ha,hb=>by
  simp only[chainOk,Bool.and_eq_true]at h
  simp only[List.getElem?_cons_succ]at ha hb
  exact chain_ok h.2 ha hb
theorem stat_pair(h:statOk ops=true){i j:Nat}{oi oj:Oper}(hi:ops[i]?=some oi)(hj:ops[j]?=some oj)(hne:i≠j){d:Tmp}(hd:oi.dst=some d):
  oj.dst≠some d/\(looks ops oj d=true->if i<j then((masks ops).getD j 0).testBit i=true else((masks ops).getD i 0).testBit j=true):=by
 unfold statOk at h
 have h1:=zipIdx_all h hj
 simp only[Bool.and_eq_true]at h1
 have h2:=zipIdx_all h1.2 hi
 have hb:Nat.beq i j=false:=by
  cases hb:Nat.beq i j with
  |false=>rfl
  |true=>exact absurd (Nat.eq_of_beq_eq_true hb) hne
 simp only[hb,Bool.false_or,hd,Bool.and_eq_true]at h2
 refine⟨fun e=>?_,fun hl=>?_⟩
 ·rw[e]at h2;simp at h2
 ·have h3:=h2.2
  rw[hl]at h3
  simp only[Bool.not_true,Bool.false_or]at h3
  cases hlt:Nat.blt i j with
  |true=>rw[hlt]at h3;rw[if_pos (show i<j from Nat.le_of_ble_eq_true hlt)];exact h3
  |false=>
   rw[hlt]at h3
   rw[if_neg (fun hc=>by rw[show Nat.blt i j=true from Nat.ble_eq_true_of_le hc]at hlt;cases hlt)];exact h3
theorem stat_edge(h:statOk ops=true){j:Nat}{oj:Oper}(hj:ops[j]?=some oj){e:Edge}(he:e∈oj.after)(hb:Region.binds .any e=true):e.on<j:=by
 unfold statOk at h
 have h1:=zipIdx_all h hj
 simp only[Bool.and_eq_true]at h1
 have h2:=List.all_eq_true.1 h1.1.2 e (by simpa using he)
 rw[hb]at h2
 simpa using h2
def Slots(recs:List DRec)(ts:Tm)(S:Nat->Prop)(T:Tm):Prop:=
 T.n=ts.n/\(∀i r,recs[i]?=some r->S i->∀d,r.o.dst=some d->d<ts.n->T.get d=r.v)/\
  (∀t:Nat,((∀i r,recs[i]?=some r->S i->r.o.dst≠some t)∨ts.n<=t)->T.get t=ts.get t)
theorem Slots.put{recs:List DRec}{ts:Tm}{S:Nat->Prop}{T:Tm}(h:Slots recs ts S T){i:Nat}{r:DRec}(hi:recs[i]?=some r)
  (hd:∀j r',recs[j]?=some r'->j≠i->∀d,r.o.dst=some d->r'.o.dst≠some d):Slots recs ts (fun j=>S j∨j=i) (putL T r.o.dst r.v):=by
 obtain⟨h1,h2,h3⟩:=h
 cases hdst:r.o.dst with
 |none=>
  refine⟨h1,fun j r' hj hS d hd' hlt=>?_,fun t ht=>?_⟩
  ·rcases hS with hS|rfl
   ·exact h2 j r' hj hS d hd' hlt
   ·rw[hi]at hj;simp only[Option.some.injEq]at hj;subst hj;rw[hdst]at hd';cases hd'
  ·exact h3 t (ht.imp (fun ht j r' hj hS=>ht j r' hj (.inl hS)) id)
 |some d=>
  refine⟨by simpa [putL,Tm.n_put]using h1,fun j r' hj hS d' hd' hlt=>?_,fun t ht=>?_⟩
  ·simp only[putL,Tm.get_put]
   by_cases hji:j=i
   ·subst hji
    rw[hi]at hj;simp only[Option.some.injEq]at hj;subst hj
    rw[hdst]at hd';simp only[Option.some.injEq]at hd';subst hd'
    rw[if_pos ⟨rfl,by rw[h1];exact hlt⟩]
   ·have hS:S j:=hS.resolve_right hji
    have:d'≠d:=fun e=>hd j r' hj hji d hdst (by rw[←e];exact hd')
    rw[if_neg (fun c=>this c.1)];exact h2 j r' hj hS d' hd' hlt
  ·simp only[putL,Tm.get_put]
   by_cases hlt:ts.n<=t
   ·rw[if_neg (fun c=>by have h4:=c.2;rw[h1,←c.1]at h4;exact absurd h4 (Nat.not_lt.2 hlt))];exact h3 t (.inr hlt)
   ·have ht:=ht.resolve_right hlt
    have:t≠d:=fun e=>ht i r hi (.inr rfl) (by rw[hdst,e])
    rw[if_neg (fun c=>this c.1)]
    exact h3 t (.inl fun j r' hj hS=>ht j r' hj (.inl hS))
theorem Slots.congr{recs:List DRec}{ts:Tm}{S S':Nat->Prop}{T:Tm}(h:Slots recs ts S T)(hs:∀i,i<recs.length->(S i↔S' i)):Slots recs ts S' T:=by
 have hlt:∀ {i r},recs[i]?=some r->i<recs.length:=fun hi=>(List.getElem?_eq_some_iff.1 hi).1
 exact⟨h.1,fun i r hi hS=>h.2.1 i r hi ((hs i (hlt hi)).2 hS),fun t ht=>h.2.2 t (ht.imp (fun ht i r hi hS=>ht i r hi ((hs i (hlt hi)).1 hS)) id)⟩
theorem slots_tsOf{recs:List DRec}{ts:Tm}(hd:∀(i j:Nat) (ri rj:DRec),recs[i]?=some ri->recs[j]?=some rj->j≠i->∀d,ri.o.dst=some d->rj.o.dst≠some d):
  ∀n,n<=recs.length->Slots recs ts (fun j=>j<n) (tsOf recs ts n)
 | 0,_=>⟨rfl,fun i r _ h=>by omega,fun t _=>rfl⟩
 |n+1,hn=>by
  have ih:=slots_tsOf (ts:=ts) hd n (by omega)
  have hi:recs[n]?=some recs[n]:=by simp
  have e:tsOf recs ts (n+1)=putL (tsOf recs ts n) recs[n].o.dst recs[n].v:=by
   unfold tsOf
   rw[List.take_succ_eq_append_getElem (by omega),List.foldl_append];rfl
  rw[e]
  exact(ih.put hi fun j r' hj hne=>hd n j _ r' hi hj hne).congr fun j _=>by omega
theorem mapH{α:Type}{o:Option α}{H:Heap}{r:Value×Heap}{f:α->Value}(h:o.map (fun x=>(f x,H))=some r):r.2=H:=by
 cases o with
 |none=>cases h
 |some x=>simp only[Option.map_some,Option.some.injEq]at h;subst h;rfl
theorem aSlice_next{H:Heap}{t:TypeId}{x:Value}{lo hi mx:Option Value}{r:Value×Heap}(h:aSlice P H t x lo hi mx=some r):r.2=H∨r.2.next=H.next+1:=by
 unfold aSlice at h
 repeat' (split at h)
 all_goals first
  |(cases h;done)
  |(simp only[Option.some.injEq]at h;subst h;first|exact .inl rfl|exact .inr rfl)
theorem deep_same{o:Oper}{ρ:Operand->Value}{H:Heap}{r:Value×Heap}(hq:quietKind o.op=true)(h:aDeep o.op P ρ H=some r):r.2=H:=by
 obtain⟨dst,op,type,pos,after,guard⟩:=o
 simp only at hq h
 have hno:∀ {p:Prop},(none:Option (Value×Heap))=some r->p:=fun h=>by cases h
 cases op
 case load t a=>
  replace h:(match ρ a with | .iface m (.agg ⟨cs⟩)=>(match Nat.beq m mkP with|true=>(dLoad P t cs).map (·,H)|false=>none)|_=>none)=some r:=h
  split at h<;>(try(cases h;done))
  split at h<;>(try(cases h;done))
  exact mapH (f:=fun x=>x) h
 case fieldAddr s x f=>
  replace h:(match ρ x with | .iface m (.agg ⟨cs⟩)=>(match Nat.beq m mkP with|true=>(dField P s cs f).map (·,H)|false=>none)|_=>none)=some r:=h
  split at h<;>(try(cases h;done))
  split at h<;>(try(cases h;done))
  exact mapH (f:=fun x=>x) h
 case indexAddr t x ix=>
  replace h:(match ρ x,ρ ix with | .iface m (.agg ⟨rows⟩),.int _ i=>(match Nat.beq m mkD with|true=>(dIndex P t rows i).map (·,H)|false=>none) | .iface m (.slice (some a) n c),.int k i=>(match Nat.beq m mkM with|true=>(aIndexAddr P t (.slice (some a) n c) (.int k i)).map (·,H)|false=>none)|_,_=>none)=some r:=h
  split at h<;>(try(cases h;done))<;>split at h<;>(try(cases h;done))<;>exact mapH (f:=fun x=>x) h
 case slice t x lo hi mx=>
  replace h:(match pOpd ρ lo,pOpd ρ hi,pOpd ρ mx,ρ x with|some lo,some hi,some mx,.iface m (.agg ⟨rows⟩)=>(match Nat.beq m mkD with|true=>(dSlice P t rows lo hi mx).map (·,H)|false=>none)|_,_,_,_=>none)=some r:=h
  split at h<;>(try(cases h;done))
  split at h<;>(try(cases h;done))
  exact mapH (f:=fun x=>x) h
 case convert src d x=>exact mapH (f:=fun x=>x) (show(dConv P H src d (ρ x)).map (·,H)=some r from h)
 case call c=>
  obtain⟨callee,args,argTypes⟩:=c
  cases callee
  case builtin b=>
   cases b<;>(try(simp[quietKind]at hq;done))<;>try(exact hno h)
   replace h:(match argTypes[0]?,args.toList.map ρ with|some t,x::_=>(match P.underlying t with|some (.slice _)=>(dLen x).map (Value.int .i64 ·,H)|_=>none)|_,_=>none)=some r:=h
   split at h<;>(try(cases h;done))
   split at h<;>(try(cases h;done))
   exact mapH (f:=fun x=>Value.int .i64 x) h
  case value f=>exact hno h
  case invoke f m=>exact hno h
 all_goals exact hno h
theorem quiet_same{o:Oper}{ρ:Operand->Value}{H:Heap}{r:Value×Heap}(hq:quietKind o.op=true)(h:aOp P o ρ H=some r)(hn:r.2.next=H.next):r.2=H:=by
 unfold aOp at h
 split at h
 case h_2=>exact deep_same hq h
 rename_i r0 h0
 simp only[Option.some.injEq]at h
 have h:aOpK o.op P o.type ρ H=some r:=by rw[h0,h]
 clear h0
 obtain⟨dst,op,type,pos,after,guard⟩:=o
 simp only at hq
 cases op
 case move x=>replace h:some (ρ x,H)=some r:=h;simp only[Option.some.injEq]at h;subst h;rfl
 case assign x=>replace h:some (ρ x,H)=some r:=h;simp only[Option.some.injEq]at h;subst h;rfl
 case pick c a b=>
  replace h:(match ρ c with | .bool true=>some (ρ a,H) | .bool false=>some (ρ b,H)|_=>none)=some r:=h
  split at h<;>(try(cases h;done))<;>simp only[Option.some.injEq]at h<;>subst h<;>rfl
 case build t parts=>exact mapH (f:=fun x=>x) (show(aBuild P t (parts.toList.map fun(i,x)=>(i,ρ x))).map (·,H)=some r from h)
 case load t a=>
  replace h:(match ρ a with | .pointer (some ad)=>(aLoad P H t ad).map (·,H)|_=>none)=some r:=h
  split at h<;>(try(cases h;done))
  exact mapH (f:=fun x=>x) h
 case nilCheck x=>
  replace h:(match ρ x with | .pointer (some a)=>some (.pointer (some a),H) | .iface t v=>(match isMk t with|true=>none|false=>some (.iface t v,H)) | .func (.func f) first captured=>some (.func (.func f) first captured,H)|_=>none)=some r:=h
  split at h<;>(try(cases h;done))<;>(try(split at h<;>(try(cases h;done))))<;>simp only[Option.some.injEq]at h<;>subst h<;>rfl
 case binOp op t x y yt=>exact mapH (f:=fun x=>x) (show(aBin P H op t x y (ρ x) (ρ y)).map (·,H)=some r from h)
 case unOp op t x=>
  replace h:(match plain (ρ x)with|true=>(pureVal P (Op.unary op (ρ x))).map (·,H)|false=>none)=some r:=h
  split at h<;>(try(cases h;done))
  exact mapH (f:=fun x=>x) h
 case convert src d x=>
  replace h:aConvert P H src d (ρ x)=some r:=h
  unfold aConvert at h
  split at h
  ·split at h<;>(try(cases h;done))
   simp only[Option.some.injEq]at h;subst h
   simp only[Heap.push]at hn;omega
  ·split at h<;>(try(cases h;done))
   split at h<;>(try(cases h;done))
   simp only[Option.some.injEq]at h;subst h;rfl
  ·cases h
  ·split at h<;>(try(cases h;done))
   split at h<;>(try(cases h;done))
   simp only[Option.some.injEq]at h;subst h;rfl
 case makeInterface t x=>
  replace h:(match P.underlying t with|some (.interface _)=>none|some _=>(match isMk t with|true=>none|false=>some (.iface t (ρ x),H))|none=>none)=some r:=h
  split at h<;>(try(cases h;done))
  split at h<;>(try(cases h;done))
  simp only[Option.some.injEq]at h;subst h;rfl
 case makeFunc fn first captured=>
  replace h:some (Value.func fn (first.map ρ) (captured.map ρ),H)=some r:=h
  simp only[Option.some.injEq]at h;subst h;rfl
 case slice t x lo hi mx=>
  replace h:(match pOpd ρ lo,pOpd ρ hi,pOpd ρ mx with|some lo,some hi,some mx=>aSlice P H t (ρ x) lo hi mx|_,_,_=>none)=some r:=h
  split at h<;>(try(cases h;done))
  rcases aSlice_next h with e|e
  ·exact e
  ·omega
 case fieldAddr s x f=>exact mapH (f:=fun x=>x) (show(aFieldAddr P s (ρ x) f).map (·,H)=some r from h)
 case field t x f=>exact mapH (f:=fun x=>x) (show(aField P t (ρ x) f).map (·,H)=some r from h)
 case indexAddr t x ix=>
  replace h:(match plain (ρ ix)with|true=>(aIndexAddr P t (ρ x) (ρ ix)).map (·,H)|false=>none)=some r:=h
  split at h<;>(try(cases h;done))
  exact mapH (f:=fun x=>x) h
 case index t x ix=>
  replace h:(match plain (ρ ix)with|true=>(aIndex P t (ρ x) (ρ ix)).map (·,H)|false=>none)=some r:=h
  split at h<;>(try(cases h;done))
  exact mapH (f:=fun x=>x) h
 case typeAssert x xt asserted ok=>exact mapH (f:=fun x=>x) (show(aTypeAssert P (ρ x) asserted ok).map (·,H)=some r from h)
 case lookup t x k ok=>exact mapH (f:=fun x=>x) (show(aLookup P H t (ρ x) (ρ k) ok).map (·,H)=some r from h)
 case extract t ix=>
  replace h:(match ρ t with | .tuple vs=>vs[ix]?.map (·,H)|_=>none)=some r:=h
  split at h<;>(try(cases h;done))
  exact mapH (f:=fun x=>x) h
 case call c=>
  obtain⟨callee,args,argTypes⟩:=c
  cases callee
  case builtin b=>
   cases b<;>(try(simp[quietKind]at hq;done))
   case len=>
    replace h:(match argTypes[0]?,args.toList.map ρ with|some t,x::_=>(match aLen P t x with|some v=>some (v,H)|none=>(aLenM P H t x).map (·,H))|_,_=>none)=some r:=h
    split at h<;>(try(cases h;done))
    split at h
    ·simp only[Option.some.injEq]at h;subst h;rfl
    ·exact mapH (f:=fun x=>x) h
   case cap=>
    replace h:(match argTypes[0]?,args.toList.map ρ with|some t,x::_=>(aCap P H t x).map (·,H)|_,_=>none)=some r:=h
    split at h<;>(try(cases h;done))
    exact mapH (f:=fun x=>x) h
   case min=>
    replace h:(match plainL (args.toList.map ρ)with|true=>(pureVal P (Builtin.min_ argTypes type (args.toList.map ρ).toArray)).map (·,H)|false=>none)=some r:=h
    split at h<;>(try(cases h;done))
    exact mapH (f:=fun x=>x) h
   case max=>
    replace h:(match plainL (args.toList.map ρ)with|true=>(pureVal P (Builtin.max_ argTypes type (args.toList.map ρ).toArray)).map (·,H)|false=>none)=some r:=h
    split at h<;>(try(cases h;done))
    exact mapH (f:=fun x=>x) h
  case value f=>simp[quietKind]at hq
  case invoke f m=>simp[quietKind]at hq
 all_goals(simp[quietKind]at hq)
end
end
end Go.Abs
namespace Go.Abs
open Go
noncomputable section
section
variable {P:Program} {G:Nat} {w0:Base} {rec:Cmd->Option Res}
def unl(listed:Array Bool):Nat:=(listed.toList.filter (!·)).length
theorem unl_set{listed:Array Bool}{i:Nat}(h:listed.getD i true=false):unl (listed.setIfInBounds i true)+1=unl listed:=by
 have key:∀(l:List Bool) (i:Nat),l[i]?=some false->((l.set i true).filter (!·)).length+1=(l.filter (!·)).length:=by
  intro l
  induction l with
  |nil=>intro i hi;simp at hi
  |cons b l ih=>
   intro i hi
   cases i with
   |zero=>simp only[List.getElem?_cons_zero,Option.some.injEq]at hi;subst hi;simp
   |succ i=>
    simp only[List.getElem?_cons_succ]at hi
    have:=ih i hi
    simp only[List.set_cons_succ,List.filter_cons]
    cases b<;>simp<;>omega
 unfold unl
 rw[Array.toList_setIfInBounds]
 refine key _ _ ?_
 rw[Array.getD_eq_getD_getElem?]at h
 cases hg:listed[i]? with
 |none=>rw[hg]at h;simp at h
 |some b=>rw[hg]at h;simp only[Option.getD_some]at h;subst h;simpa using hg
theorem unl_pos{listed:Array Bool}{i:Nat}(h:listed.getD i true=false):0<unl listed:=by
 have:=unl_set h;omega
theorem getD_set(listed:Array Bool)(i j:Nat)(hi:i<listed.size):(listed.setIfInBounds i true).getD j false=true↔(listed.getD j false=true∨j=i):=by
 rw[Array.getD_eq_getD_getElem?,Array.getD_eq_getD_getElem?,Array.getElem?_setIfInBounds]
 by_cases h:i=j
 ·subst h;simp[hi]
 ·rw[if_neg h];constructor
  ·exact .inl
  ·rintro (h2|rfl)
   ·exact h2
   ·exact absurd rfl h
structure DInv(G:Nat)(w0:Base)(ops:Array Oper)(recs:List DRec)(hs:List Heap)(s:St)(F0:Nm)(listed:Array Bool)(a:Act)(w:World):Prop where
 size:listed.size=ops.size
 closed:Closed ops.toList (fun i=>listed.getD i false=true)
 st:∃F T k H,Nm.le F0 F/\TR F T a.tmps/\DsR F s.ds a.defers/\Slots recs s.ts (fun i=>listed.getD i false=true) T/\
  (∀t e,(effs recs)[t]?=some e->(listed.getD e false=true↔t<k))/\k<=(effs recs).length/\hs[k]?=some H/\Rel G F H w0 w
theorem mayAt_ok{ms es:List Nat}{i k:Nat}(h1:∀t e,es[t]?=some e->(ms.getD i 0).testBit e=true->t<k)(h2:∀t e,es[t]?=some e->t<k->(ms.getD e 0).testBit i=false):mayAt ms es i k=true:=by
 unfold mayAt
 rw[List.all_eq_true]
 rintro ⟨e,t⟩ hm
 rw[List.mem_zipIdx_iff_getElem?]at hm
 simp only[Bool.and_eq_true,Bool.or_eq_true,Bool.not_eq_true']
 refine⟨?_,?_⟩
 ·cases hb:(ms.getD i 0).testBit e with
  |false=>exact .inl rfl
  |true=>exact .inr (Nat.ble_eq_true_of_le (h1 t e hm hb))
 ·cases hlt:Nat.blt t k with
  |false=>exact .inl rfl
  |true=>exact .inr (h2 t e hm (Nat.le_of_ble_eq_true hlt))
theorem draw_sched{S:Cmd->Res->Prop}(hrec:∀c r,S c r->Holds P G w0 c r)(hP:okProg P G=true){ops:Array Oper}{s:St}{recs:List DRec}{hs:List Heap}{ts':Tm}
  (hok:ops.all (okOper G)=true) (hgo:recs.length=ops.toList.length/\ts'=tsOf recs s.ts recs.length/\hs.length=stg recs recs.length/\∀i r,recs[i]?=some r->RecOk P S ops.toList ops.toList s.ts (s.h::hs) recs i r) (hchk:drawOk P ops.toList recs (s.h::hs)=true)
  {F0:Nm} {Q:Exit->Act->World->Prop}
  (hQ:∀F a w,Nm.le F0 F->TR F ts' a.tmps->DsR F s.ds a.defers->Rel G F (hs.getLastD s.h) w0 w->Q .normal a w):
  ∀(fuel:Nat) (listed:Array Bool) (a:Act) (w:World),DInv G w0 ops recs (s.h::hs) s F0 listed a w->unl listed<=fuel->wpAny P .any ops Q fuel listed a w:=by
 obtain⟨g1,g2,g3,g4⟩:=hgo
 unfold drawOk at hchk
 simp only[Bool.and_eq_true]at hchk
 obtain⟨⟨hstat,hchain⟩,hquiet⟩:=hchk
 have hlen:recs.length=ops.size:=by simpa using g1
 have hop:∀ {i:Nat} {r:DRec},recs[i]?=some r->ops[i]?=some r.o:=fun hi=>by simpa using (g4 _ _ hi).op
 have hrecs:∀ {i:Nat} {o:Oper},ops[i]?=some o->∃r,recs[i]?=some r/\r.o=o:=by
  intro i o ho
  have hi:i<recs.length:=by rw[hlen];exact(Array.getElem?_eq_some_iff.1 ho).1
  refine⟨recs[i],by simp,?_⟩
  have:=hop (i:=i) (r:=recs[i]) (by simp)
  rw[ho]at this;simpa using this.symm
 have hdist:∀(i j:Nat) (ri rj:DRec),recs[i]?=some ri->recs[j]?=some rj->j≠i->∀d,ri.o.dst=some d->rj.o.dst≠some d:=by
  intro i j ri rj hi hj hne d hd
  exact(stat_pair hstat (by simpa using hop hi) (by simpa using hop hj) (Ne.symm hne) hd).1
 -- where nothing more can come up all has come up
 have hall:∀listed:Array Bool,listed.size=ops.size->Region.ready .any ops listed=[]->∀i,i<ops.size->listed.getD i false=true:=by
  intro listed hsz hrd i
  induction i using Nat.strongRecOn with
  |_ i ih=>
   intro hi
   cases hb:listed.getD i false with
   |true=>rfl
   |false=>
    exfalso
    have:i∈Region.ready .any ops listed:=by
     rw[mem_ready]
     refine⟨?_,ops[i],by simp[hi],fun e he hbe=>?_⟩
     ·rw[Array.getD_eq_getD_getElem?]at hb ⊢
      have:i<listed.size:=by omega
      simp[this]at hb ⊢;exact hb
     ·have hlt:=stat_edge hstat (j:=i) (oj:=ops[i]) (by simp[hi]) he hbe
      exact ih e.on hlt (by omega)
    rw[hrd]at this;cases this
 have hend:∀listed a w,DInv G w0 ops recs (s.h::hs) s F0 listed a w->Region.ready .any ops listed=[]->Q .normal a w:=by
  intro listed a w inv hrd
  have hS:=hall listed inv.size hrd
  obtain⟨F,T,k,H,h1,h2,h3,h4,h5,h6,h7,h8⟩:=inv.st
  have hT:∀t,T.get t=ts'.get t:=by
   rw[g2]
   have hts:=slots_tsOf (ts:=s.ts) hdist recs.length (Nat.le_refl _)
   intro t
   by_cases ht:t<s.ts.n
   ·by_cases hw:∃(i:Nat) (r:DRec),recs[i]?=some r/\r.o.dst=some t
    ·obtain⟨i,r,hi,hd⟩:=hw
     have hlt:i<recs.length:=(List.getElem?_eq_some_iff.1 hi).1
     rw[h4.2.1 i r hi (hS i (by omega)) t hd ht,hts.2.1 i r hi hlt t hd ht]
    ·have hn:∀(i:Nat) (r:DRec),recs[i]?=some r->r.o.dst≠some t:=fun i r hi hd=>hw ⟨i,r,hi,hd⟩
     rw[h4.2.2 t (.inl fun i r hi _=>hn i r hi),hts.2.2 t (.inl fun i r hi _=>hn i r hi)]
   ·rw[h4.2.2 t (.inr (Nat.le_of_not_lt ht)),hts.2.2 t (.inr (Nat.le_of_not_lt ht))]
  have hTR:TR F ts' a.tmps:=by
   have hn:ts'.n=s.ts.n:=by rw[g2];exact(slots_tsOf (ts:=s.ts) hdist recs.length (Nat.le_refl _)).1
   exact⟨by rw[h2.1,hn,h4.1],fun i=>by rw[←hT i];exact h2.2 i⟩
  have hk:k=hs.length:=by
   have e:(effs recs).length=hs.length:=by rw[effs_len,g3]
   rcases Nat.lt_or_ge k (effs recs).length with hlt|hge
   ·exfalso
    have he:(effs recs)[k]?=some (effs recs)[k]:=by simp[hlt]
    have:=(h5 k _ he).1 (hS _ (by
     have:=((effs_ok recs k _).1 he).1
     obtain⟨r,hr,_⟩:=this
     have:=(List.getElem?_eq_some_iff.1 hr).1
     omega))
    omega
   ·omega
  subst hk
  refine hQ F a w h1 hTR h3 ?_
  have:(s.h::hs)[hs.length]?=some (hs.getLastD s.h):=by
   cases hs with
   |nil=>rfl
   |cons x xs=>rw[List.getLastD_cons,List.length_cons,List.getElem?_cons_succ];simp[List.getLastD_eq_getLast?,List.getLast?_eq_getElem?];cases xs<;>simp
  rw[this]at h7;simp only[Option.some.injEq]at h7;subst h7;exact h8
 intro fuel
 induction fuel with
 |zero=>
  intro listed a w inv hu
  have hrd:Region.ready .any ops listed=[]:=by
   cases hr:Region.ready .any ops listed with
   |nil=>rfl
   |cons x xs=>
    have:x∈Region.ready .any ops listed:=by rw[hr];exact List.mem_cons_self ..
    have:=unl_pos (mem_ready.1 this).1
    omega
  exact⟨hrd,hend listed a w inv hrd⟩
 |succ fuel ih=>
  intro listed a w inv hu
  refine⟨fun hrd=>hend listed a w inv hrd,fun i hi=>?_⟩
  obtain⟨hiu,o,ho,hafter⟩:=mem_ready.1 hi
  obtain⟨r,hr,hro⟩:=hrecs ho
  subst hro
  have hilt:i<listed.size:=by
   rw[inv.size];exact(Array.getElem?_eq_some_iff.1 ho).1
  have hiS:¬listed.getD i false=true:=by
   rw[Array.getD_eq_getD_getElem?]at hiu ⊢
   simp[hilt]at hiu ⊢;exact hiu
  have rok:=g4 i r hr
  obtain⟨F,T,k,H,h1,h2,h3,h4,h5,h6,h7,h8⟩:=inv.st
  have hanc:∀j,((masks ops.toList).getD i 0).testBit j=true->listed.getD j false=true:=fun j hj=>
   inv.closed.ready (i:=i) (fun o' ho' e he hb=>by
    have:o'=r.o:=by have:=ho';rw[show ops.toList[i]?=ops[i]? from by simp,ho]at this;simpa using this.symm
    subst this;exact hafter e he hb) hj
  have hdesc:∀j,listed.getD j false=true->((masks ops.toList).getD j 0).testBit i=false:=by
   intro j hj
   cases hb:((masks ops.toList).getD j 0).testBit i with
   |false=>rfl
   |true=>exact absurd (inv.closed.masks j i hj hb) hiS
  -- what it looks at is as it was in the text's order
  have hts:=slots_tsOf (ts:=s.ts) hdist i (by have:=(List.getElem?_eq_some_iff.1 hr).1;omega)
  have hlook:∀d,looks ops.toList r.o d=true->T.get d=r.ts.get d:=by
   intro d hd
   rw[rok.tm]
   by_cases hdl:d<s.ts.n
   ·by_cases hw:∃(j:Nat) (rj:DRec),recs[j]?=some rj/\rj.o.dst=some d
    ·obtain⟨j,rj,hj,hdj⟩:=hw
     have hother:∀(S:Nat->Prop),¬S j->∀(i':Nat) (r':DRec),recs[i']?=some r'->S i'->r'.o.dst≠some d:=by
      intro S hnS i' r' hi' hS'
      by_cases e:i'=j
      ·subst e;exact absurd hS' hnS
      ·exact hdist j i' rj r' hj hi' e d hdj
     by_cases hji:j=i
     ·subst hji
      rw[h4.2.2 d (.inl (hother _ hiS)),hts.2.2 d (.inl (hother _ (by omega)))]
     ·have hp:=(stat_pair hstat (i:=j) (j:=i) (by simpa using hop hj) (by simpa using ho) hji hdj).2 hd
      by_cases hlt:j<i
      ·rw[if_pos hlt]at hp
       have hjS:=hanc j hp
       rw[h4.2.1 j rj hj hjS d hdj hdl,hts.2.1 j rj hj hlt d hdj hdl]
      ·rw[if_neg hlt]at hp
       have hjS:¬listed.getD j false=true:=fun hS=>by rw[hdesc j hS]at hp;cases hp
       rw[h4.2.2 d (.inl (hother _ hjS)),hts.2.2 d (.inl (hother _ hlt))]
    ·have hn:∀(i':Nat) (r':DRec),recs[i']?=some r'->r'.o.dst≠some d:=fun i' r' hi' hd'=>hw ⟨i',r',hi',hd'⟩
     rw[h4.2.2 d (.inl fun i' r' hi' _=>hn i' r' hi'),hts.2.2 d (.inl fun i' r' hi' _=>hn i' r' hi')]
   ·rw[h4.2.2 d (.inr (Nat.le_of_not_lt hdl)),hts.2.2 d (.inr (Nat.le_of_not_lt hdl))]
  have hρ:∀x∈r.o.op.operands,VR F (aev r.ts x) (a.eval x):=by
   intro x hx
   have hxo:=aev_ok (a:=a) h8 h2 (okOper_mem hok ho x hx)
   have e:aev r.ts x=aev T x:=by
    cases x with
    |tmp t=>
     have:=hlook t (by unfold looks;rw[Bool.or_eq_true];left;rw[Array.any_eq_true'];exact⟨.tmp t,hx,by simp⟩)
     simp only[aev,this]
    |_=>rfl
   rw[e];exact hxo
  have hwant:Region.wanted r.o (yielded ops a.tmps)=r.on:=by
   refine wantedA_ok h2 ?_
   rw[←rok.on]
   unfold wantedA
   cases hgd:r.o.guard with
   |none=>rfl
   |some gw=>
    obtain⟨j,want⟩:=gw
    have e1:∀d,(ops.toList[j]?).bind (·.dst)=some d->T.get d=r.ts.get d:=fun d hd=>
     hlook d (by unfold looks;rw[Bool.or_eq_true];right;rw[hgd];simp only;rw[hd];simp)
    have e2:yieldedL ops.toList T j=yieldedL ops.toList r.ts j:=by
     unfold yieldedL
     cases hd:(ops.toList[j]?).bind (·.dst)with
     |none=>rfl
     |some d=>simp only;rw[e1 d hd]
    have e3:topAt ops.toList T j=topAt ops.toList r.ts j:=by
     unfold topAt
     cases hd:(ops.toList[j]?).bind (·.dst)with
     |none=>rfl
     |some d=>simp only;rw[e1 d hd]
    simp only[e2,e3]
  -- behind it the region goes on
  have hgo2:∀F' v' w' k' H',Nm.le F F'->VR F' r.v v'->(∀t e,(effs recs)[t]?=some e->((listed.getD e false=true∨e=i)↔t<k'))->k'<=(effs recs).length->(s.h::hs)[k']?=some H'->Rel G F' H' w0 w'->
    wpAny P .any ops Q fuel (listed.setIfInBounds i true) (a.put r.o.dst v') w':=by
   intro F' v' w' k' H' hle hv he hk' hH' hR'
   refine ih _ _ _ ⟨by simpa using inv.size,?_,F',putL T r.o.dst r.v,k',H',Nm.le_trans h1 hle,putL_ok (h2.mono hle) hv _,by rw[put_defers];exact h3.mono hle,?_,?_,hk',hH',hR'⟩ (by have:=unl_set hiu;omega)
   ·intro j o' ho' hj e he' hb
    rw[getD_set _ _ _ hilt]at hj ⊢
    rcases hj with hj|rfl
    ·exact .inl (inv.closed j o' ho' hj e he' hb)
    ·have:o'=r.o:=by have:=ho';rw[show ops.toList[j]?=ops[j]? from by simp,ho]at this;simpa using this.symm
     subst this
     exact .inl (hafter e he' hb)
   ·exact(h4.put hr fun j r' hj hne d hd=>hdist i j r r' hr hj hne d hd).congr fun j _=>(getD_set _ _ _ hilt).symm
   ·intro t e hte
    rw[getD_set _ _ _ hilt];exact he t e hte
  have hnoeff:r.eff=false->∀t e,(effs recs)[t]?=some e->((listed.getD e false=true∨e=i)↔t<k):=by
   intro hre t e hte
   have hei:e≠i:=by
    intro e';subst e'
    obtain⟨⟨r',hr',he'⟩,_⟩:=(effs_ok recs t e).1 hte
    rw[hr]at hr';simp only[Option.some.injEq]at hr';subst hr';rw[hre]at he';cases he'
   rw[←h5 t e hte]
   constructor
   ·rintro (h|h)
    ·exact h
    ·exact absurd h hei
   ·exact .inl
  unfold wpOp
  rw[ho]
  simp only[hwant]
  cases hon:r.on with
  |false=>
   simp only[Bool.false_eq_true,if_false]
   obtain⟨hv,hre⟩:=rok.off hon
   refine hgo2 F undef w k H (Nm.le_refl F) ?_ (hnoeff hre) h6 h7 h8
   rw[hv];exact(VR.plain_eq _ _ rfl).2 rfl
  |true=>
   simp only[if_true]
   left
   unfold Oper.wp
   cases hre:r.eff with
   |false=>
    have hq:=rok.quiet hon hre
    have hz:=zipIdx_all hquiet hr
    rw[hon,hre]at hz
    simp only[Bool.not_true,Bool.or_self,Bool.false_or]at hz
    have hz2:=zipIdx_all hz h7
    have hmay:mayAt (masks ops.toList) (effs recs) i k=true:=by
     refine mayAt_ok (fun t e hte hb=>?_) (fun t e hte hlt=>?_)
     ·exact(h5 t e hte).1 (hanc e hb)
     ·exact hdesc e ((h5 t e hte).2 hlt)
    rw[hmay]at hz2
    simp only[Bool.not_true,Bool.false_or]at hz2
    unfold quietAt at hz2
    split at hz2
    ·rename_i v H' hop'
     simp only[Bool.and_eq_true]at hz2
     have hv:=beqV_eq _ _ hz2.1
     have hn:=Nat.eq_of_beq_eq_true hz2.2
     have hH:=quiet_same hq hop' hn
     simp only at hH;subst hH
     obtain⟨F',v',w',n,hle,hrun,hn',hv',hR'⟩:=aOp_ok (P:=P) h8 hρ hop'
     rw[hrun]
     rcases hn' with rfl|⟨rfl,rfl⟩
     ·rw[Oper.upon_value]
      exact hgo2 F' v' w' k H' hle (by rw[hv];exact hv') (hnoeff hre) h6 h7 hR'
     ·rw[Oper.upon_skip]
      exact hgo2 F' undef w' k H' hle (by rw[hv];exact hv') (hnoeff hre) h6 h7 hR'
    ·cases hz2
   |true=>
    obtain⟨_,H1,H2,q1,q2,q3⟩:=rok.eff hre
    have hst:=(effs_ok recs (stg recs i) i).2 ⟨⟨r,hr,hre⟩,rfl⟩
    have hsti:¬stg recs i<k:=fun hlt=>hiS ((h5 _ _ hst).2 hlt)
    have hkk:stg recs i=k:=by
     rcases Nat.lt_or_ge k (stg recs i)with hlt|hge
     ·exfalso
      -- the effect before it has come up
      have hlen2:stg recs i<(effs recs).length:=(List.getElem?_eq_some_iff.1 hst).1
      obtain⟨m,hm⟩:∃m,stg recs i=m+1:=⟨stg recs i-1,by omega⟩
      have hprev:(effs recs)[m]?=some (effs recs)[m]:=by simp
      have hb:=chain_ok hchain hprev (by rw[←hm];exact hst)
      have:=(h5 m _ hprev).1 (hanc _ hb)
      omega
     ·omega
    rw[hkk]at q1 q2
    rw[h7]at q1;simp only[Option.some.injEq]at q1;subst q1
    have hnew:∀t e,(effs recs)[t]?=some e->((listed.getD e false=true∨e=i)↔t<k+1):=by
     intro t e hte
     constructor
     ·rintro (h|h)
      ·have:=(h5 t e hte).1 h;omega
      ·subst h
       have:=((effs_ok recs t e).1 hte).2
       omega
     ·intro hlt
      rcases Nat.lt_or_ge t k with h|h
      ·exact .inl ((h5 t e hte).2 h)
      ·have:t=k:=by omega
       subst this
       rw[←hkk]at hte
       rw[hst]at hte;simp only[Option.some.injEq]at hte
       exact .inr hte.symm
    have hk1:k+1<=(effs recs).length:=by
     have:=(List.getElem?_eq_some_iff.1 hst).1;omega
    rcases q3 with q3|⟨g,args,u,hcall,hrc⟩
    ·obtain⟨F',v',w',n,hle,hrun,hn',hv',hR'⟩:=aOp_ok (P:=P) h8 hρ q3
     rw[hrun]
     rcases hn' with rfl|⟨rfl,rfl⟩
     ·rw[Oper.upon_value]
      exact hgo2 F' v' w' (k+1) H2 hle hv' hnew hk1 q2 hR'
     ·rw[Oper.upon_skip]
      exact hgo2 F' undef w' (k+1) H2 hle hv' hnew hk1 q2 hR'
    ·obtain⟨args',hrun,hargs⟩:=callOf_run hP hρ hcall w
     rw[hrun,Oper.upon_enter]
     have HC:=hrec _ _ hrc
     refine(HC F w args' h8 hargs).mono fun e' w' ⟨F',hle,he,hR'⟩=>?_
     simp only[EnR]at he
     obtain⟨v',hv',e⟩:=he
     subst e
     exact hgo2 F' v' w' (k+1) H2 hle hv' hnew hk1 q2 hR'
theorem draw_ok{S:Cmd->Res->Prop}(hrec:∀c r,S c r->Holds P G w0 c r)(hP:okProg P G=true){ops:Array Oper}{s:St}{recs:List DRec}{hs:List Heap}{ts':Tm}
  (hgo:recs.length=ops.toList.length/\ts'=tsOf recs s.ts recs.length/\hs.length=stg recs recs.length/\∀i r,recs[i]?=some r->RecOk P S ops.toList ops.toList s.ts (s.h::hs) recs i r)
  (hchk:drawOk P ops.toList recs (s.h::hs)=true) {ts2:Tm} (h2:∀F tm,TR F ts' tm->TR F ts2 tm):Holds P G w0 (.draw ops s) (.ex .normal {s with ts:=ts2,h:=hs.getLastD s.h}):=by
 intro hok c0 rest F a cs w hsr
 obtain⟨k1,k2,k3,k4⟩:=hsr
 have hf:∀j,(Array.replicate ops.size false).getD j false=false:=by
  intro j;rw[Array.getD_eq_getD_getElem?,Array.getElem?_replicate];split<;>rfl
 refine draw_sched hrec hP hok hgo hchk (F0:=F) ?_ ops.size _ a _ ⟨by simp,?_,F,s.ts,0,s.h,Nm.le_refl F,k2,k3,⟨rfl,?_,fun _ _=>rfl⟩,?_,Nat.zero_le _,rfl,k1.draws _⟩ ?_
 ·intro F' a' w' hle q1 q2 q3
  exact⟨F',hle,rfl,q3,h2 _ _ q1,q2,k4⟩
 ·intro i o _ hi;rw[hf]at hi;cases hi
 ·intro i r _ hi;rw[hf]at hi;cases hi
 ·intro t e _;rw[hf];simp
 ·unfold unl
  exact Nat.le_trans (List.length_filter_le _ _) (by simp)
end
end
end Go.Abs
