/- A region that draws its order comes to what its run in the text's order comes to. -/
import Derived.Test.YtblbaohcelldpaaGreatB5
import Derived.RowKit3
set_option linter.all false
namespace Go.Abs
open Go
noncomputable section
def stg(l:List DRec)(i:Nat):Nat:=((l.take i).filter (·.eff)).length
def tsOf(l:List DRec)(ts:Tm)(i:Nat):Tm:=(l.take i).foldl (fun ts r=>putL ts r.o.dst r.v) ts
structure RecOk(P:Program)(S:Cmd->Res->Prop)(ops:List Oper)(todo:List Oper)(ts:Tm)(hs:List Heap)(l:List DRec)(i:Nat)(r:DRec):Prop where
 op:todo[i]?=some r.o
 tm:r.ts=tsOf l ts i
 on:wantedA r.o ops r.ts=some r.on
 off:r.on=false->r.v=undef/\r.eff=false
 quiet:r.on=true->r.eff=false->quietKind r.o.op=true
 eff:r.eff=true->r.on=true/\∃H H',hs[stg l i]?=some H/\hs[stg l i+1]?=some H'/\
  (aOp P r.o (aev r.ts) H=some (r.v,H')∨∃g args u,callOf P (aev r.ts) r.o.op=some (g,args)/\S (.call g args H) (.en (.returned r.v) u H'))
section
variable {P:Program} {rec:Cmd->Option Res} {ops:List Oper}
theorem RecOk.cons{S:Cmd->Res->Prop}{todo:List Oper}{ts:Tm}{hs:List Heap}{l:List DRec}{r0:DRec}(h0:RecOk P S ops (r0.o::todo) ts hs (r0::l) 0 r0)
  {hs1:List Heap} (hhs:∀k:Nat,hs1[k]?=hs[(if r0.eff then 1 else 0)+k]?)
  (hl:∀i r,l[i]?=some r->RecOk P S ops todo (putL ts r0.o.dst r0.v) hs1 l i r):∀i r,(r0::l)[i]?=some r->RecOk P S ops (r0.o::todo) ts hs (r0::l) i r:=by
 intro i r hi
 cases i with
 |zero=>simp only[List.getElem?_cons_zero,Option.some.injEq]at hi;subst hi;exact h0
 |succ i=>
  simp only[List.getElem?_cons_succ]at hi
  have R:=hl i r hi
  have hst:stg (r0::l) (i+1)=(if r0.eff then 1 else 0)+stg l i:=by
   unfold stg
   rw[List.take_succ_cons,List.filter_cons]
   cases r0.eff<;>simp;omega
  refine⟨by simpa using R.op,by rw[R.tm];rfl,R.on,R.off,R.quiet,fun he=>?_⟩
  obtain⟨h1,H,H',h2,h3,h4⟩:=R.eff he
  refine⟨h1,H,H',?_,?_,h4⟩
  ·rw[hst,←hhs];exact h2
  ·rw[hst,Nat.add_assoc,←hhs];exact h3
theorem effsF_ok:∀(l:List DRec) (n t e:Nat),(effsF l n)[t]?=some e↔∃i,e=n+i/\(∃r,l[i]?=some r/\r.eff=true)/\stg l i=t
 | [],n,t,e=>by simp[effsF]
 |r::l,n,t,e=>by
  have hst:∀i,stg (r::l) (i+1)=(if r.eff then 1 else 0)+stg l i:=by
   intro i;unfold stg
   rw[List.take_succ_cons,List.filter_cons]
   cases r.eff<;>simp;omega
  simp only[effsF]
  cases hr:r.eff with
  |true=>
   simp only
   cases t with
   |zero=>
    simp only[List.getElem?_cons_zero,Option.some.injEq]
    constructor
    ·intro h;exact⟨0,by omega,⟨r,rfl,hr⟩,rfl⟩
    ·rintro ⟨i,h1,⟨r',h2,h3⟩,h4⟩
     cases i with
     |zero=>omega
     |succ i=>rw[hst,hr]at h4;simp at h4
   |succ t=>
    simp only[List.getElem?_cons_succ]
    rw[effsF_ok l (n+1) t e]
    constructor
    ·rintro ⟨i,h1,h2,h3⟩;exact⟨i+1,by omega,by simpa using h2,by rw[hst,hr];simp;omega⟩
    ·rintro ⟨i,h1,h2,h3⟩
     cases i with
     |zero=>simp[stg]at h3
     |succ i=>exact⟨i,by omega,by simpa using h2,by rw[hst,hr]at h3;simp at h3;omega⟩
  |false=>
   simp only
   rw[effsF_ok l (n+1) t e]
   constructor
   ·rintro ⟨i,h1,h2,h3⟩;exact⟨i+1,by omega,by simpa using h2,by rw[hst,hr];simp;omega⟩
   ·rintro ⟨i,h1,h2,h3⟩
    cases i with
    |zero=>obtain⟨r',g1,g2⟩:=h2;simp only[List.getElem?_cons_zero,Option.some.injEq]at g1;subst g1;rw[hr]at g2;cases g2
    |succ i=>exact⟨i,by omega,by simpa using h2,by rw[hst,hr]at h3;simp at h3;omega⟩
theorem effs_ok(l:List DRec)(t e:Nat):(effs l)[t]?=some e↔(∃r,l[e]?=some r/\r.eff=true)/\stg l e=t:=by
 unfold effs;rw[effsF_ok]
 constructor
 ·rintro ⟨i,h1,h2,h3⟩;have:e=i:=by omega
  subst this;exact⟨h2,h3⟩
 ·rintro ⟨h1,h2⟩;exact⟨e,by omega,h1,h2⟩
theorem effs_len(l:List DRec):(effs l).length=stg l l.length:=by
 have:∀(l:List DRec) (n:Nat),(effsF l n).length=(l.filter (·.eff)).length:=by
  intro l
  induction l with
  |nil=>intro n;rfl
  |cons r l ih=>intro n;simp only[effsF,List.filter_cons];cases r.eff<;>simp[ih]
 unfold effs stg;rw[this,List.take_length]
theorem zipIdx_all{α:Type}{l:List α}{p:α×Nat->Bool}(h:l.zipIdx.all p=true){i:Nat}{x:α}(hi:l[i]?=some x):p (x,i)=true:=
 List.all_eq_true.1 h _ (by rw[List.mem_zipIdx_iff_getElem?];exact hi)
theorem chain_ok{ms:List Nat}:∀ {es:List Nat} (_:chainOk ms es=true) {t a b:Nat},es[t]?=some a->es[t+1]?=some b->(ms.getD b 0).testBit a=true
 | [],_,t,a,b,ha,_=>by simp at ha
 | [_],_,t,a,b,_,hb=>by simp at hb
 |x::y::r,h,0,a,b,ha,hb=>by
  simp only[chainOk,Bool.and_eq_true]at h
  simp only[List.getElem?_cons_zero,Option.some.injEq]at ha
  simp only[List.getElem?_cons_succ,List.getElem?_cons_zero,Option.some.injEq]at hb
  subst ha;subst hb;exact h.1
 |x::y::r,h,t+1,a,b,ha,hb=>by
  simp only[chainOk,Bool.and_eq_true]at h
  simp only[List.getElem?_cons_succ]at ha hb
  exact chain_ok h.2 ha hb
theorem stat_pair(h:statOk ops=true){i j:Nat}{oi oj:Oper}(hi:ops[i]?=some oi)(hj:ops[j]?=some oj)(hne:i≠j){d:Tmp}(hd:oi.dst=some d):
  oj.dst≠some d/\(looks ops oj d=true->if i<j then((masks ops).getD j 0).testBit i=true else((masks ops).getD i 0).testBit j=true):=by
 unfold statOk at h
 have h1:=zipIdx_all h hj
 simp only[Bool.and_eq_true]at h1
 have h2:=zipIdx_all h1.2 hi
 have hb:Nat.beq i j=false:=by
  cases hb:Nat.beq i j with
  |false=>rfl
  |true=>exact absurd (Nat.eq_of_beq_eq_true hb) hne
 simp only[hb,Bool.false_or,hd,Bool.and_eq_true]at h2
 refine⟨fun e=>?_,fun hl=>?_⟩
 ·rw[e]at h2;simp at h2
 ·have h3:=h2.2
  rw[hl]at h3
  simp only[Bool.not_true,Bool.false_or]at h3
  cases hlt:Nat.blt i j with
  |true=>rw[hlt]at h3;rw[if_pos (show i<j from Nat.le_of_ble_eq_true hlt)];exact h3
  |false=>
   rw[hlt]at h3
   rw[if_neg (fun hc=>by rw[show Nat.blt i j=true from Nat.ble_eq_true_of_le hc]at hlt;cases hlt)];exact h3
theorem stat_edge(h:statOk ops=true){j:Nat}{oj:Oper}(hj:ops[j]?=some oj){e:Edge}(he:e∈oj.after)(hb:Region.binds .any e=true):e.on<j:=by
 unfold statOk at h
 have h1:=zipIdx_all h hj
 simp only[Bool.and_eq_true]at h1
 have h2:=List.all_eq_true.1 h1.1.2 e (by simpa using he)
 rw[hb]at h2
 simpa using h2
def Slots(recs:List DRec)(ts:Tm)(S:Nat->Prop)(T:Tm):Prop:=
 T.n=ts.n/\(∀i r,recs[i]?=some r->S i->∀d,r.o.dst=some d->d<ts.n->T.get d=r.v)/\
  (∀t:Nat,((∀i r,recs[i]?=some r->S i->r.o.dst≠some t)∨ts.n<=t)->T.get t=ts.get t)
theorem Slots.put{recs:List DRec}{ts:Tm}{S:Nat->Prop}{T:Tm}(h:Slots recs ts S T){i:Nat}{r:DRec}(hi:recs[i]?=some r)
  (hd:∀j r',recs[j]?=some r'->j≠i->∀d,r.o.dst=some d->r'.o.dst≠some d):Slots recs ts (fun j=>S j∨j=i) (putL T r.o.dst r.v):=by
 obtain⟨h1,h2,h3⟩:=h
 cases hdst:r.o.dst with
 |none=>
  refine⟨h1,fun j r' hj hS d hd' hlt=>?_,fun t ht=>?_⟩
  ·rcases hS with hS|rfl
   ·exact h2 j r' hj hS d hd' hlt
   ·rw[hi]at hj;simp only[Option.some.injEq]at hj;subst hj;rw[hdst]at hd';cases hd'
  ·exact h3 t (ht.imp (fun ht j r' hj hS=>ht j r' hj (.inl hS)) id)
 |some d=>
  refine⟨by simpa [putL,Tm.n_put]using h1,fun j r' hj hS d' hd' hlt=>?_,fun t ht=>?_⟩
  ·simp only[putL,Tm.get_put]
   by_cases hji:j=i
   ·subst hji
    rw[hi]at hj;simp only[Option.some.injEq]at hj;subst hj
    rw[hdst]at hd';simp only[Option.some.injEq]at hd';subst hd'
    rw[if_pos ⟨rfl,by rw[h1];exact hlt⟩]
   ·have hS:S j:=hS.resolve_right hji
    have:d'≠d:=fun e=>hd j r' hj hji d hdst (by rw[←e];exact hd')
    rw[if_neg (fun c=>this c.1)];exact h2 j r' hj hS d' hd' hlt
  ·simp only[putL,Tm.get_put]
   by_cases hlt:ts.n<=t
   ·rw[if_neg (fun c=>by have h4:=c.2;rw[h1,←c.1]at h4;exact absurd h4 (Nat.not_lt.2 hlt))];exact h3 t (.inr hlt)
   ·have ht:=ht.resolve_right hlt
    have:t≠d:=fun e=>ht i r hi (.inr rfl) (by rw[hdst,e])
    rw[if_neg (fun c=>this c.1)]
    exact h3 t (.inl fun j r' hj hS=>ht j r' hj (.inl hS))
theorem Slots.congr{recs:List DRec}{ts:Tm}{S S':Nat->Prop}{T:Tm}(h:Slots recs ts S T)(hs:∀i,i<recs.length->(S i↔S' i)):Slots recs ts S' T:=by
 have hlt:∀ {i r},recs[i]?=some r->i<recs.length:=fun hi=>(List.getElem?_eq_some_iff.1 hi).1
 exact⟨h.1,fun i r hi hS=>h.2.1 i r hi ((hs i (hlt hi)).2 hS),fun t ht=>h.2.2 t (ht.imp (fun ht i r hi hS=>ht i r hi ((hs i (hlt hi)).1 hS)) id)⟩
theorem slots_tsOf{recs:List DRec}{ts:Tm}(hd:∀(i j:Nat) (ri rj:DRec),recs[i]?=some ri->recs[j]?=some rj->j≠i->∀d,ri.o.dst=some d->rj.o.dst≠some d):
  ∀n,n<=recs.length->Slots recs ts (fun j=>j<n) (tsOf recs ts n)
 | 0,_=>⟨rfl,fun i r _ h=>by omega,fun t _=>rfl⟩
 |n+1,hn=>by
  have ih:=slots_tsOf (ts:=ts) hd n (by omega)
  have hi:recs[n]?=some recs[n]:=by simp
  have e:tsOf recs ts (n+1)=putL (tsOf recs ts n) recs[n].o.dst recs[n].v:=by
   unfold tsOf
   rw[List.take_succ_eq_append_getElem (by omega),List.foldl_append];rfl
  rw[e]
  exact(ih.put hi fun j r' hj hne=>hd n j _ r' hi hj hne).congr fun j _=>by omega
theorem mapH{α:Type}{o:Option α}{H:Heap}{r:Value×Heap}{f:α->Value}(h:o.map (fun x=>(f x,H))=some r):r.2=H:=by
 cases o with
 |none=>cases h
 |some x=>simp only[Option.map_some,Option.some.injEq]at h;subst h;rfl
theorem aSlice_next{H:Heap}{t:TypeId}{x:Value}{lo hi mx:Option Value}{r:Value×Heap}(h:aSlice P H t x lo hi mx=some r):r.2=H∨r.2.next=H.next+1:=by
 unfold aSlice at h
 repeat' (split at h)
 all_goals first
  |(cases h;done)
  |(simp only[Option.some.injEq]at h;subst h;first|exact .inl rfl|exact .inr rfl)
theorem deep_same{o:Oper}{ρ:Operand->Value}{H:Heap}{r:Value×Heap}(hq:quietKind o.op=true)(h:aDeep o.op P ρ H=some r):r.2=H:=by
 obtain⟨dst,op,type,pos,after,guard⟩:=o
 simp only at hq h
 have hno:∀ {p:Prop},(none:Option (Value×Heap))=some r->p:=fun h=>by cases h
 cases op
 case load t a=>
  replace h:(match ρ a with | .iface m (.agg ⟨cs⟩)=>(match Nat.beq m mkP with|true=>(dLoad P t cs).map (·,H)|false=>none)|_=>none)=some r:=h
  split at h<;>(try(cases h;done))
  split at h<;>(try(cases h;done))
  exact mapH (f:=fun x=>x) h
 case fieldAddr s x f=>
  replace h:(match ρ x with | .iface m (.agg ⟨cs⟩)=>(match Nat.beq m mkP with|true=>(dField P s cs f).map (·,H)|false=>none)|_=>none)=some r:=h
  split at h<;>(try(cases h;done))
  split at h<;>(try(cases h;done))
  exact mapH (f:=fun x=>x) h
 case indexAddr t x ix=>
  replace h:(match ρ x,ρ ix with | .iface m (.agg ⟨rows⟩),.int _ i=>(match Nat.beq m mkD with|true=>(dIndex P t rows i).map (·,H)|false=>none) | .iface m (.slice (some a) n c),.int k i=>(match Nat.beq m mkM with|true=>(aIndexAddr P t (.slice (some a) n c) (.int k i)).map (·,H)|false=>none)|_,_=>none)=some r:=h
  split at h<;>(try(cases h;done))<;>split at h<;>(try(cases h;done))<;>exact mapH (f:=fun x=>x) h
 case slice t x lo hi mx=>
  replace h:(match pOpd ρ lo,pOpd ρ hi,pOpd ρ mx,ρ x with|some lo,some hi,some mx,.iface m (.agg ⟨rows⟩)=>(match Nat.beq m mkD with|true=>(dSlice P t rows lo hi mx).map (·,H)|false=>none)|_,_,_,_=>none)=some r:=h
  split at h<;>(try(cases h;done))
  split at h<;>(try(cases h;done))
  exact mapH (f:=fun x=>x) h
 case convert src d x=>exact mapH (f:=fun x=>x) (show(dConv P H src d (ρ x)).map (·,H)=some r from h)
 case call c=>
  obtain⟨callee,args,argTypes⟩:=c
  cases callee
  case builtin b=>
   cases b<;>(try(simp[quietKind]at hq;done))<;>try(exact hno h)
   replace h:(match argTypes[0]?,args.toList.map ρ with|some t,x::_=>(match P.underlying t with|some (.slice _)=>(dLen x).map (Value.int .i64 ·,H)|_=>none)|_,_=>none)=some r:=h
   split at h<;>(try(cases h;done))
   split at h<;>(try(cases h;done))
   exact mapH (f:=fun x=>Value.int .i64 x) h
  case value f=>exact hno h
  case invoke f m=>exact hno h
 all_goals exact hno h
theorem quiet_same{o:Oper}{ρ:Operand->Value}{H:Heap}{r:Value×Heap}(hq:quietKind o.op=true)(h:aOp P o ρ H=some r)(hn:r.2.next=H.next):r.2=H:=by
 unfold aOp at h
 split at h
 case h_2=>exact deep_same hq h
 rename_i r0 h0
 simp only[Option.some.injEq]at h
 have h:aOpK o.op P o.type ρ H=some r:=by rw[h0,h]
 clear h0
 obtain⟨dst,op,type,pos,after,guard⟩:=o
 simp only at hq
 cases op
 case move x=>replace h:some (ρ x,H)=some r:=h;simp only[Option.some.injEq]at h;subst h;rfl
 case assign x=>replace h:some (ρ x,H)=some r:=h;simp only[Option.some.injEq]at h;subst h;rfl
 case pick c a b=>
  replace h:(match ρ c with | .bool true=>some (ρ a,H) | .bool false=>some (ρ b,H)|_=>none)=some r:=h
  split at h<;>(try(cases h;done))<;>simp only[Option.some.injEq]at h<;>subst h<;>rfl
 case build t parts=>exact mapH (f:=fun x=>x) (show(aBuild P t (parts.toList.map fun(i,x)=>(i,ρ x))).map (·,H)=some r from h)
 case load t a=>
  replace h:(match ρ a with | .pointer (some ad)=>(aLoad P H t ad).map (·,H)|_=>none)=some r:=h
  split at h<;>(try(cases h;done))
  exact mapH (f:=fun x=>x) h
 case nilCheck x=>
  replace h:(match ρ x with | .pointer (some a)=>some (.pointer (some a),H) | .iface t v=>(match isMk t with|true=>none|false=>some (.iface t v,H)) | .func (.func f) first captured=>some (.func (.func f) first captured,H)|_=>none)=some r:=h
  split at h<;>(try(cases h;done))<;>(try(split at h<;>(try(cases h;done))))<;>simp only[Option.some.injEq]at h<;>subst h<;>rfl
 case binOp op t x y yt=>exact mapH (f:=fun x=>x) (show(aBin P H op t x y (ρ x) (ρ y)).map (·,H)=some r from h)
 case unOp op t x=>
  replace h:(match plain (ρ x)with|true=>(pureVal P (Op.unary op (ρ x))).map (·,H)|false=>none)=some r:=h
  split at h<;>(try(cases h;done))
  exact mapH (f:=fun x=>x) h
 case convert src d x=>
  replace h:aConvert P H src d (ρ x)=some r:=h
  unfold aConvert at h
  split at h
  ·split at h<;>(try(cases h;done))
   simp only[Option.some.injEq]at h;subst h
   simp only[Heap.push]at hn;omega
  ·split at h<;>(try(cases h;done))
   split at h<;>(try(cases h;done))
   simp only[Option.some.injEq]at h;subst h;rfl
  ·cases h
  ·split at h<;>(try(cases h;done))
   split at h<;>(try(cases h;done))
   simp only[Option.some.injEq]at h;subst h;rfl
 case makeInterface t x=>
  replace h:(match P.underlying t with|some (.interface _)=>none|some _=>(match isMk t with|true=>none|false=>some (.iface t (ρ x),H))|none=>none)=some r:=h
  split at h<;>(try(cases h;done))
  split at h<;>(try(cases h;done))
  simp only[Option.some.injEq]at h;subst h;rfl
 case makeFunc fn first captured=>
  replace h:some (Value.func fn (first.map ρ) (captured.map ρ),H)=some r:=h
  simp only[Option.some.injEq]at h;subst h;rfl
 case slice t x lo hi mx=>
  replace h:(match pOpd ρ lo,pOpd ρ hi,pOpd ρ mx with|some lo,some hi,some mx=>aSlice P H t (ρ x) lo hi mx|_,_,_=>none)=some r:=h
  split at h<;>(try(cases h;done))
  rcases aSlice_next h with e|e
  ·exact e
  ·omega
 case fieldAddr s x f=>exact mapH (f:=fun x=>x) (show(aFieldAddr P s (ρ x) f).map (·,H)=some r from h)
 case field t x f=>exact mapH (f:=fun x=>x) (show(aField P t (ρ x) f).map (·,H)=some r from h)
 case indexAddr t x ix=>
  replace h:(match plain (ρ ix)with|true=>(aIndexAddr P t (ρ x) (ρ ix)).map (·,H)|false=>none)=some r:=h
  split at h<;>(try(cases h;done))
  exact mapH (f:=fun x=>x) h
 case index t x ix=>
  replace h:(match plain (ρ ix)with|true=>(aIndex P t (ρ x) (ρ ix)).map (·,H)|false=>none)=some r:=h
  split at h<;>(try(cases h;done))
  exact mapH (f:=fun x=>x) h
 case typeAssert x xt asserted ok=>exact mapH (f:=fun x=>x) (show(aTypeAssert P (ρ x) asserted ok).map (·,H)=some r from h)
 case lookup t x k ok=>exact mapH (f:=fun x=>x) (show(aLookup P H t (ρ x) (ρ k) ok).map (·,H)=some r from h)
 case extract t ix=>
  replace h:(match ρ t with | .tuple vs=>vs[ix]?.map (·,H)|_=>none)=some r:=h
  split at h<;>(try(cases h;done))
  exact mapH (f:=fun x=>x) h
 case call c=>
  obtain⟨callee,args,argTypes⟩:=c
  cases callee
  case builtin b=>
   cases b<;>(try(simp[quietKind]at hq;done))
   case len=>
    replace h:(match argTypes[0]?,args.toList.map ρ with|some t,x::_=>(match aLen P t x with|some v=>some (v,H)|none=>(aLenM P H t x).map (·,H))|_,_=>none)=some r:=h
    split at h<;>(try(cases h;done))
    split at h
    ·simp only[Option.some.injEq]at h;subst h;rfl
    ·exact mapH (f:=fun x=>x) h
   case cap=>
    replace h:(match argTypes[0]?,args.toList.map ρ with|some t,x::_=>(aCap P H t x).map (·,H)|_,_=>none)=some r:=h
    split at h<;>(try(cases h;done))
    exact mapH (f:=fun x=>x) h
   case min=>
    replace h:(match plainL (args.toList.map ρ)with|true=>(pureVal P (Builtin.min_ argTypes type (args.toList.map ρ).toArray)).map (·,H)|false=>none)=some r:=h
    split at h<;>(try(cases h;done))
    exact mapH (f:=fun x=>x) h
   case max=>
    replace h:(match plainL (args.toList.map ρ)with|true=>(pureVal P (Builtin.max_ argTypes type (args.toList.map ρ).toArray)).map (·,H)|false=>none)=some r:=h
    split at h<;>(try(cases h;done))
    exact mapH (f:=fun x=>x) h
  case value f=>simp[quietKind]at hq
  case invoke f m=>simp[quietKind]at hq
 all_goals(simp[quietKind]at hq)
end
end
end Go.Abs
namespace Go.Abs
open Go
noncomputable section
section
variable {P:Program} {G:Nat} {w0:Base} {rec:Cmd->Option Res}
def unl(listed:Array Bool):Nat:=(listed.toList.filter (!·)).length
theorem unl_set{listed:Array Bool}{i:Nat}(h:listed.getD i true=false):unl (listed.setIfInBounds i true)+1=unl listed:=by
 have key:∀(l:List Bool) (i:Nat),l[i]?=some false->((l.set i true).filter (!·)).length+1=(l.filter (!·)).length:=by
  intro l
  induction l with
  |nil=>intro i hi;simp at hi
  |cons b l ih=>
   intro i hi
   cases i with
   |zero=>simp only[List.getElem?_cons_zero,Option.some.injEq]at hi;subst hi;simp
   |succ i=>
    simp only[List.getElem?_cons_succ]at hi
    have:=ih i hi
    simp only[List.set_cons_succ,List.filter_cons]
    cases b<;>simp<;>omega
 unfold unl
 rw[Array.toList_setIfInBounds]
 refine key _ _ ?_
 rw[Array.getD_eq_getD_getElem?]at h
 cases hg:listed[i]? with
 |none=>rw[hg]at h;simp at h
 |some b=>rw[hg]at h;simp only[Option.getD_some]at h;subst h;simpa using hg
theorem unl_pos{listed:Array Bool}{i:Nat}(h:listed.getD i true=false):0<unl listed:=by
 have:=unl_set h;omega
theorem getD_set(listed:Array Bool)(i j:Nat)(hi:i<listed.size):(listed.setIfInBounds i true).getD j false=true↔(listed.getD j false=true∨j=i):=by
 rw[Array.getD_eq_getD_getElem?,Array.getD_eq_getD_getElem?,Array.getElem?_setIfInBounds]
 by_cases h:i=j
 ·subst h;simp[hi]
 ·rw[if_neg h];constructor
  ·exact .inl
  ·rintro (h2|rfl)
   ·exact h2
   ·exact absurd rfl h
structure DInv(G:Nat)(w0:Base)(ops:Array Oper)(recs:List DRec)(hs:List Heap)(s:St)(F0:Nm)(listed:Array Bool)(a:Act)(w:World):Prop where
 size:listed.size=ops.size
 closed:Closed ops.toList (fun i=>listed.getD i false=true)
 st:∃F T k H,Nm.le F0 F/\TR F T a.tmps/\DsR F s.ds a.defers/\Slots recs s.ts (fun i=>listed.getD i false=true) T/\
  (∀t e,(effs recs)[t]?=some e->(listed.getD e false=true↔t<k))/\k<=(effs recs).length/\hs[k]?=some H/\Rel G F H w0 w
theorem mayAt_ok{ms es:List Nat}{i k:Nat}(h1:∀t e,es[t]?=some e->(ms.getD i 0).testBit e=true->t<k)(h2:∀t e,es[t]?=some e->t<k->(ms.getD e 0).testBit i=false):mayAt ms es i k=true:=by
 unfold mayAt
 rw[List.all_eq_true]
 rintro ⟨e,t⟩ hm
 rw[List.mem_zipIdx_iff_getElem?]at hm
 simp only[Bool.and_eq_true,Bool.or_eq_true,Bool.not_eq_true']
 refine⟨?_,?_⟩
 ·cases hb:(ms.getD i 0).testBit e with
  |false=>exact .inl rfl
  |true=>exact .inr (Nat.ble_eq_true_of_le (h1 t e hm hb))
 ·cases hlt:Nat.blt t k with
  |false=>exact .inl rfl
  |true=>exact .inr (h2 t e hm (Nat.le_of_ble_eq_true hlt))
end
end
end Go.Abs
namespace Go.Abs
open Go
noncomputable section
theorem Rel.grow{G:Nat}{F:Nm}{H:Heap}{w0:Base}{w:World}(R:Rel G F H w0 w)(o:Obj):Rel G F H w0 {w with heap:=w.heap.push o}:=by
 have hold:∀i,i<w.heap.size->(w.heap.push o)[i]?=w.heap[i]?:=fun i hi=>by
  rw[Array.getElem?_push,if_neg (by omega)]
 constructor
 ·intro n ob hn
  obtain⟨b,h1,h2,_⟩:=objR_blk (R.obj n ob hn)
  exact objR_other (R.obj n ob hn) fun b' hb'=>by rw[h1]at hb';simp only[Option.some.injEq]at hb';subst hb';exact hold _ h2
 ·exact R.inj
 ·exact R.fresh
 ·exact R.glob
 ·have h1:=R.base
  show w0.w.heap.size<=(w.heap.push o).size
  rw[Array.size_push];omega
 ·intro i hi
  have h1:=w0.lt i hi
  have h2:=R.base
  rw[←R.frame i hi];exact hold i (by omega)
 ·intro b i v hz
  obtain⟨⟨c,t,fz,g1,g2⟩,g3⟩:=R.froz b i v hz
  have hb:b<w.heap.size:=by
   rcases Nat.lt_or_ge b w.heap.size with h|h
   ·exact h
   ·rw[Array.getElem?_eq_none h]at g1;cases g1
  exact⟨⟨c,t,fz,by rw[hold b hb];exact g1,g2⟩,g3⟩
 ·exact R.zprot
 ·exact R.os
 ·exact R.out
 ·exact R.tape
section
variable {P:Program} {G:Nat} {w0:Base}
end
end
end Go.Abs
namespace Go.Abs
open Go
noncomputable section
section
variable {P:Program} {G:Nat} {w0:Base} {orc:Orc}
def allOf(w:World):Base:=⟨w,(· < w.heap.size),fun _ h=>h,fun b i=>match w.heap[b]? with
 |some (.cells c _ _)=>c[i]?
 |_=>none⟩
end
end
end Go.Abs
