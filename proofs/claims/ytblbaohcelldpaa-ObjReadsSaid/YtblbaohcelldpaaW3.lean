/- A region that draws its order, told by what each operation does in the heaps in which it may come up. -/
import Derived.Test.YtblbaohcelldpaaW2
set_option linter.all false
namespace Go.Abs
open Go
noncomputable section
section
variable {P:Program} {G:Nat} {w0:Base}
def RunSem(P:Program)(G:Nat)(o:Oper)(ρ:Operand->Value)(H:Heap)(v:Value)(H':Heap):Prop:=
 aOp P o ρ H=some (v,H')∨∃g args,callOf P ρ o.op=some (g,args)/\∀B,CallH P G B g args H (.returned v) H'
structure RecOk2(P:Program)(G:Nat)(ops:List Oper)(todo:List Oper)(ts:Tm)(hs:List Heap)(l:List DRec)(i:Nat)(r:DRec):Prop where
 op:todo[i]?=some r.o
 tm:r.ts=tsOf l ts i
 on:wantedA r.o ops r.ts=some r.on
 off:r.on=false->r.v=undef/\r.eff=false
 quiet:r.on=true->r.eff=false->∀k H,hs[k]?=some H->mayAt (masks ops) (effs l) i k=true->RunSem P G r.o (aev r.ts) H r.v H
 eff:r.eff=true->r.on=true/\∃H H',hs[stg l i]?=some H/\hs[stg l i+1]?=some H'/\RunSem P G r.o (aev r.ts) H r.v H'
theorem draw_sched2(hP:okProg P G=true){ops:Array Oper}{s:St}{recs:List DRec}{hs:List Heap}{ts':Tm}
  (hok:ops.all (okOper G)=true) (hgo:recs.length=ops.toList.length/\ts'=tsOf recs s.ts recs.length/\hs.length=stg recs recs.length/\∀i r,recs[i]?=some r->RecOk2 P G ops.toList ops.toList s.ts (s.h::hs) recs i r) (hstat:statOk ops.toList=true) (hchain:chainOk (masks ops.toList) (effs recs)=true)
  {F0:Nm} {Q:Exit->Act->World->Prop}
  (hQ:∀F a w,Nm.le F0 F->TR F ts' a.tmps->DsR F s.ds a.defers->Rel G F (hs.getLastD s.h) w0 w->Q .normal a w):
  ∀(fuel:Nat) (listed:Array Bool) (a:Act) (w:World),DInv G w0 ops recs (s.h::hs) s F0 listed a w->unl listed<=fuel->wpAny P .any ops Q fuel listed a w:=by
 obtain⟨g1,g2,g3,g4⟩:=hgo
 have hlen:recs.length=ops.size:=by simpa using g1
 have hop:∀ {i:Nat} {r:DRec},recs[i]?=some r->ops[i]?=some r.o:=fun hi=>by simpa using (g4 _ _ hi).op
 have hrecs:∀ {i:Nat} {o:Oper},ops[i]?=some o->∃r,recs[i]?=some r/\r.o=o:=by
  intro i o ho
  have hi:i<recs.length:=by rw[hlen];exact(Array.getElem?_eq_some_iff.1 ho).1
  refine⟨recs[i],by simp,?_⟩
  have:=hop (i:=i) (r:=recs[i]) (by simp)
  rw[ho]at this;simpa using this.symm
 have hdist:∀(i j:Nat) (ri rj:DRec),recs[i]?=some ri->recs[j]?=some rj->j≠i->∀d,ri.o.dst=some d->rj.o.dst≠some d:=by
  intro i j ri rj hi hj hne d hd
  exact(stat_pair hstat (by simpa using hop hi) (by simpa using hop hj) (Ne.symm hne) hd).1
 -- where nothing more can come up all has come up
 have hall:∀listed:Array Bool,listed.size=ops.size->Region.ready .any ops listed=[]->∀i,i<ops.size->listed.getD i false=true:=by
  intro listed hsz hrd i
  induction i using Nat.strongRecOn with
  |_ i ih=>
   intro hi
   cases hb:listed.getD i false with
   |true=>rfl
   |false=>
    exfalso
    have:i∈Region.ready .any ops listed:=by
     rw[mem_ready]
     refine⟨?_,ops[i],by simp[hi],fun e he hbe=>?_⟩
     ·rw[Array.getD_eq_getD_getElem?]at hb ⊢
      have:i<listed.size:=by omega
      simp[this]at hb ⊢;exact hb
     ·have hlt:=stat_edge hstat (j:=i) (oj:=ops[i]) (by simp[hi]) he hbe
      exact ih e.on hlt (by omega)
    rw[hrd]at this;cases this
 have hend:∀listed a w,DInv G w0 ops recs (s.h::hs) s F0 listed a w->Region.ready .any ops listed=[]->Q .normal a w:=by
  intro listed a w inv hrd
  have hS:=hall listed inv.size hrd
  obtain⟨F,T,k,H,h1,h2,h3,h4,h5,h6,h7,h8⟩:=inv.st
  have hT:∀t,T.get t=ts'.get t:=by
   rw[g2]
   have hts:=slots_tsOf (ts:=s.ts) hdist recs.length (Nat.le_refl _)
   intro t
   by_cases ht:t<s.ts.n
   ·by_cases hw:∃(i:Nat) (r:DRec),recs[i]?=some r/\r.o.dst=some t
    ·obtain⟨i,r,hi,hd⟩:=hw
     have hlt:i<recs.length:=(List.getElem?_eq_some_iff.1 hi).1
     rw[h4.2.1 i r hi (hS i (by omega)) t hd ht,hts.2.1 i r hi hlt t hd ht]
    ·have hn:∀(i:Nat) (r:DRec),recs[i]?=some r->r.o.dst≠some t:=fun i r hi hd=>hw ⟨i,r,hi,hd⟩
     rw[h4.2.2 t (.inl fun i r hi _=>hn i r hi),hts.2.2 t (.inl fun i r hi _=>hn i r hi)]
   ·rw[h4.2.2 t (.inr (Nat.le_of_not_lt ht)),hts.2.2 t (.inr (Nat.le_of_not_lt ht))]
  have hTR:TR F ts' a.tmps:=by
   have hn:ts'.n=s.ts.n:=by rw[g2];exact(slots_tsOf (ts:=s.ts) hdist recs.length (Nat.le_refl _)).1
   exact⟨by rw[h2.1,hn,h4.1],fun i=>by rw[←hT i];exact h2.2 i⟩
  have hk:k=hs.length:=by
   have e:(effs recs).length=hs.length:=by rw[effs_len,g3]
   rcases Nat.lt_or_ge k (effs recs).length with hlt|hge
   ·exfalso
    have he:(effs recs)[k]?=some (effs recs)[k]:=by simp[hlt]
    have:=(h5 k _ he).1 (hS _ (by
     have:=((effs_ok recs k _).1 he).1
     obtain⟨r,hr,_⟩:=this
     have:=(List.getElem?_eq_some_iff.1 hr).1
     omega))
    omega
   ·omega
  subst hk
  refine hQ F a w h1 hTR h3 ?_
  have:(s.h::hs)[hs.length]?=some (hs.getLastD s.h):=by
   cases hs with
   |nil=>rfl
   |cons x xs=>rw[List.getLastD_cons,List.length_cons,List.getElem?_cons_succ];simp[List.getLastD_eq_getLast?,List.getLast?_eq_getElem?];cases xs<;>simp
  rw[this]at h7;simp only[Option.some.injEq]at h7;subst h7;exact h8
 intro fuel
 induction fuel with
 |zero=>
  intro listed a w inv hu
  have hrd:Region.ready .any ops listed=[]:=by
   cases hr:Region.ready .any ops listed with
   |nil=>rfl
   |cons x xs=>
    have:x∈Region.ready .any ops listed:=by rw[hr];exact List.mem_cons_self ..
    have:=unl_pos (mem_ready.1 this).1
    omega
  exact⟨hrd,hend listed a w inv hrd⟩
 |succ fuel ih=>
  intro listed a w inv hu
  refine⟨fun hrd=>hend listed a w inv hrd,fun i hi=>?_⟩
  obtain⟨hiu,o,ho,hafter⟩:=mem_ready.1 hi
  obtain⟨r,hr,hro⟩:=hrecs ho
  subst hro
  have hilt:i<listed.size:=by
   rw[inv.size];exact(Array.getElem?_eq_some_iff.1 ho).1
  have hiS:¬listed.getD i false=true:=by
   rw[Array.getD_eq_getD_getElem?]at hiu ⊢
   simp[hilt]at hiu ⊢;exact hiu
  have rok:=g4 i r hr
  obtain⟨F,T,k,H,h1,h2,h3,h4,h5,h6,h7,h8⟩:=inv.st
  have hanc:∀j,((masks ops.toList).getD i 0).testBit j=true->listed.getD j false=true:=fun j hj=>
   inv.closed.ready (i:=i) (fun o' ho' e he hb=>by
    have:o'=r.o:=by have:=ho';rw[show ops.toList[i]?=ops[i]? from by simp,ho]at this;simpa using this.symm
    subst this;exact hafter e he hb) hj
  have hdesc:∀j,listed.getD j false=true->((masks ops.toList).getD j 0).testBit i=false:=by
   intro j hj
   cases hb:((masks ops.toList).getD j 0).testBit i with
   |false=>rfl
   |true=>exact absurd (inv.closed.masks j i hj hb) hiS
  -- what it looks at is as it was in the text's order
  have hts:=slots_tsOf (ts:=s.ts) hdist i (by have:=(List.getElem?_eq_some_iff.1 hr).1;omega)
  have hlook:∀d,looks ops.toList r.o d=true->T.get d=r.ts.get d:=by
   intro d hd
   rw[rok.tm]
   by_cases hdl:d<s.ts.n
   ·by_cases hw:∃(j:Nat) (rj:DRec),recs[j]?=some rj/\rj.o.dst=some d
    ·obtain⟨j,rj,hj,hdj⟩:=hw
     have hother:∀(S:Nat->Prop),¬S j->∀(i':Nat) (r':DRec),recs[i']?=some r'->S i'->r'.o.dst≠some d:=by
      intro S hnS i' r' hi' hS'
      by_cases e:i'=j
      ·subst e;exact absurd hS' hnS
      ·exact hdist j i' rj r' hj hi' e d hdj
     by_cases hji:j=i
     ·subst hji
      rw[h4.2.2 d (.inl (hother _ hiS)),hts.2.2 d (.inl (hother _ (by omega)))]
     ·have hp:=(stat_pair hstat (i:=j) (j:=i) (by simpa using hop hj) (by simpa using ho) hji hdj).2 hd
      by_cases hlt:j<i
      ·rw[if_pos hlt]at hp
       have hjS:=hanc j hp
       rw[h4.2.1 j rj hj hjS d hdj hdl,hts.2.1 j rj hj hlt d hdj hdl]
      ·rw[if_neg hlt]at hp
       have hjS:¬listed.getD j false=true:=fun hS=>by rw[hdesc j hS]at hp;cases hp
       rw[h4.2.2 d (.inl (hother _ hjS)),hts.2.2 d (.inl (hother _ hlt))]
    ·have hn:∀(i':Nat) (r':DRec),recs[i']?=some r'->r'.o.dst≠some d:=fun i' r' hi' hd'=>hw ⟨i',r',hi',hd'⟩
     rw[h4.2.2 d (.inl fun i' r' hi' _=>hn i' r' hi'),hts.2.2 d (.inl fun i' r' hi' _=>hn i' r' hi')]
   ·rw[h4.2.2 d (.inr (Nat.le_of_not_lt hdl)),hts.2.2 d (.inr (Nat.le_of_not_lt hdl))]
  have hρ:∀x∈r.o.op.operands,VR F (aev r.ts x) (a.eval x):=by
   intro x hx
   have hxo:=aev_ok (a:=a) h8 h2 (okOper_mem hok ho x hx)
   have e:aev r.ts x=aev T x:=by
    cases x with
    |tmp t=>
     have:=hlook t (by unfold looks;rw[Bool.or_eq_true];left;rw[Array.any_eq_true'];exact⟨.tmp t,hx,by simp⟩)
     simp only[aev,this]
    |_=>rfl
   rw[e];exact hxo
  have hwant:Region.wanted r.o (yielded ops a.tmps)=r.on:=by
   refine wantedA_ok h2 ?_
   rw[←rok.on]
   unfold wantedA
   cases hgd:r.o.guard with
   |none=>rfl
   |some gw=>
    obtain⟨j,want⟩:=gw
    have e1:∀d,(ops.toList[j]?).bind (·.dst)=some d->T.get d=r.ts.get d:=fun d hd=>
     hlook d (by unfold looks;rw[Bool.or_eq_true];right;rw[hgd];simp only;rw[hd];simp)
    have e2:yieldedL ops.toList T j=yieldedL ops.toList r.ts j:=by
     unfold yieldedL
     cases hd:(ops.toList[j]?).bind (·.dst)with
     |none=>rfl
     |some d=>simp only;rw[e1 d hd]
    have e3:topAt ops.toList T j=topAt ops.toList r.ts j:=by
     unfold topAt
     cases hd:(ops.toList[j]?).bind (·.dst)with
     |none=>rfl
     |some d=>simp only;rw[e1 d hd]
    simp only[e2,e3]
  -- behind it the region goes on
  have hgo2:∀F' v' w' k' H',Nm.le F F'->VR F' r.v v'->(∀t e,(effs recs)[t]?=some e->((listed.getD e false=true∨e=i)↔t<k'))->k'<=(effs recs).length->(s.h::hs)[k']?=some H'->Rel G F' H' w0 w'->
    wpAny P .any ops Q fuel (listed.setIfInBounds i true) (a.put r.o.dst v') w':=by
   intro F' v' w' k' H' hle hv he hk' hH' hR'
   refine ih _ _ _ ⟨by simpa using inv.size,?_,F',putL T r.o.dst r.v,k',H',Nm.le_trans h1 hle,putL_ok (h2.mono hle) hv _,by rw[put_defers];exact h3.mono hle,?_,?_,hk',hH',hR'⟩ (by have:=unl_set hiu;omega)
   ·intro j o' ho' hj e he' hb
    rw[getD_set _ _ _ hilt]at hj ⊢
    rcases hj with hj|rfl
    ·exact .inl (inv.closed j o' ho' hj e he' hb)
    ·have:o'=r.o:=by have:=ho';rw[show ops.toList[j]?=ops[j]? from by simp,ho]at this;simpa using this.symm
     subst this
     exact .inl (hafter e he' hb)
   ·exact(h4.put hr fun j r' hj hne d hd=>hdist i j r r' hr hj hne d hd).congr fun j _=>(getD_set _ _ _ hilt).symm
   ·intro t e hte
    rw[getD_set _ _ _ hilt];exact he t e hte
  have hnoeff:r.eff=false->∀t e,(effs recs)[t]?=some e->((listed.getD e false=true∨e=i)↔t<k):=by
   intro hre t e hte
   have hei:e≠i:=by
    intro e';subst e'
    obtain⟨⟨r',hr',he'⟩,_⟩:=(effs_ok recs t e).1 hte
    rw[hr]at hr';simp only[Option.some.injEq]at hr';subst hr';rw[hre]at he';cases he'
   rw[←h5 t e hte]
   constructor
   ·rintro (h|h)
    ·exact h
    ·exact absurd h hei
   ·exact .inl
  unfold wpOp
  rw[ho]
  simp only[hwant]
  cases hon:r.on with
  |false=>
   simp only[Bool.false_eq_true,if_false]
   obtain⟨hv,hre⟩:=rok.off hon
   refine hgo2 F undef w k H (Nm.le_refl F) ?_ (hnoeff hre) h6 h7 h8
   rw[hv];exact(VR.plain_eq _ _ rfl).2 rfl
  |true=>
   simp only[if_true]
   left
   unfold Oper.wp
   cases hre:r.eff with
   |false=>
    have hmay:mayAt (masks ops.toList) (effs recs) i k=true:=by
     refine mayAt_ok (fun t e hte hb=>?_) (fun t e hte hlt=>?_)
     ·exact(h5 t e hte).1 (hanc e hb)
     ·exact hdesc e ((h5 t e hte).2 hlt)
    rcases rok.quiet hon hre k H h7 hmay with hop'|⟨g,args,hcall,hrc⟩
    ·obtain⟨F',v',w',n,hle,hrun,hn',hv',hR'⟩:=aOp_ok (P:=P) h8 hρ hop'
     rw[hrun]
     rcases hn' with rfl|⟨rfl,rfl⟩
     ·rw[Oper.upon_value]
      exact hgo2 F' v' w' k H hle hv' (hnoeff hre) h6 h7 hR'
     ·rw[Oper.upon_skip]
      exact hgo2 F' undef w' k H hle hv' (hnoeff hre) h6 h7 hR'
    ·obtain⟨args',hrun,hargs⟩:=callOf_run hP hρ hcall w
     rw[hrun,Oper.upon_enter]
     refine(hrc w0 F w args' h8 hargs).mono fun e' w' ⟨F',hle,he,hR'⟩=>?_
     simp only[EnR]at he
     obtain⟨v',hv',e⟩:=he
     subst e
     exact hgo2 F' v' w' k H hle hv' (hnoeff hre) h6 h7 hR'
   |true=>
    obtain⟨_,H1,H2,q1,q2,q3⟩:=rok.eff hre
    have hst:=(effs_ok recs (stg recs i) i).2 ⟨⟨r,hr,hre⟩,rfl⟩
    have hsti:¬stg recs i<k:=fun hlt=>hiS ((h5 _ _ hst).2 hlt)
    have hkk:stg recs i=k:=by
     rcases Nat.lt_or_ge k (stg recs i)with hlt|hge
     ·exfalso
      -- the effect before it has come up
      have hlen2:stg recs i<(effs recs).length:=(List.getElem?_eq_some_iff.1 hst).1
      obtain⟨m,hm⟩:∃m,stg recs i=m+1:=⟨stg recs i-1,by omega⟩
      have hprev:(effs recs)[m]?=some (effs recs)[m]:=by simp
      have hb:=chain_ok hchain hprev (by rw[←hm];exact hst)
      have:=(h5 m _ hprev).1 (hanc _ hb)
      omega
     ·omega
    rw[hkk]at q1 q2
    rw[h7]at q1;simp only[Option.some.injEq]at q1;subst q1
    have hnew:∀t e,(effs recs)[t]?=some e->((listed.getD e false=true∨e=i)↔t<k+1):=by
     intro t e hte
     constructor
     ·rintro (h|h)
      ·have:=(h5 t e hte).1 h;omega
      ·subst h
       have:=((effs_ok recs t e).1 hte).2
       omega
     ·intro hlt
      rcases Nat.lt_or_ge t k with h|h
      ·exact .inl ((h5 t e hte).2 h)
      ·have:t=k:=by omega
       subst this
       rw[←hkk]at hte
       rw[hst]at hte;simp only[Option.some.injEq]at hte
       exact .inr hte.symm
    have hk1:k+1<=(effs recs).length:=by
     have:=(List.getElem?_eq_some_iff.1 hst).1;omega
    rcases q3 with q3|⟨g,args,hcall,hrc⟩
    ·obtain⟨F',v',w',n,hle,hrun,hn',hv',hR'⟩:=aOp_ok (P:=P) h8 hρ q3
     rw[hrun]
     rcases hn' with rfl|⟨rfl,rfl⟩
     ·rw[Oper.upon_value]
      exact hgo2 F' v' w' (k+1) H2 hle hv' hnew hk1 q2 hR'
     ·rw[Oper.upon_skip]
      exact hgo2 F' undef w' (k+1) H2 hle hv' hnew hk1 q2 hR'
    ·obtain⟨args',hrun,hargs⟩:=callOf_run hP hρ hcall w
     rw[hrun,Oper.upon_enter]
     refine(hrc w0 F w args' h8 hargs).mono fun e' w' ⟨F',hle,he,hR'⟩=>?_
     simp only[EnR]at he
     obtain⟨v',hv',e⟩:=he
     subst e
     exact hgo2 F' v' w' (k+1) H2 hle hv' hnew hk1 q2 hR'
theorem draw_ok2(hP:okProg P G=true){ops:Array Oper}{s:St}{recs:List DRec}{hs:List Heap}{ts':Tm}
  (hgo:recs.length=ops.toList.length/\ts'=tsOf recs s.ts recs.length/\hs.length=stg recs recs.length/\∀i r,recs[i]?=some r->RecOk2 P G ops.toList ops.toList s.ts (s.h::hs) recs i r)
  (hstat:statOk ops.toList=true) (hchain:chainOk (masks ops.toList) (effs recs)=true) {ts2:Tm} (h2:∀F tm,TR F ts' tm->TR F ts2 tm):Holds P G w0 (.draw ops s) (.ex .normal {s with ts:=ts2,h:=hs.getLastD s.h}):=by
 intro hok c0 rest F a cs w hsr
 obtain⟨k1,k2,k3,k4⟩:=hsr
 have hf:∀j,(Array.replicate ops.size false).getD j false=false:=by
  intro j;rw[Array.getD_eq_getD_getElem?,Array.getElem?_replicate];split<;>rfl
 refine draw_sched2 hP hok hgo hstat hchain (F0:=F) ?_ ops.size _ a _ ⟨by simp,?_,F,s.ts,0,s.h,Nm.le_refl F,k2,k3,⟨rfl,?_,fun _ _=>rfl⟩,?_,Nat.zero_le _,rfl,k1.draws _⟩ ?_
 ·intro F' a' w' hle q1 q2 q3
  exact⟨F',hle,rfl,q3,h2 _ _ q1,q2,k4⟩
 ·intro i o _ hi;rw[hf]at hi;cases hi
 ·intro i r _ hi;rw[hf]at hi;cases hi
 ·intro t e _;rw[hf];simp
 ·unfold unl
  exact Nat.le_trans (List.length_filter_le _ _) (by simp)
end
end
end Go.Abs
namespace Go.Abs
open Go
noncomputable section
section
variable {P:Program}
def isPtr:Value->Bool
 | .pointer (some _)=>true
 |_=>false
def quietOf(op:Op)(ρ:Operand->Value):Option (Option Nat):=match op with
 | .move _ | .assign _ | .pick .. | .build .. | .nilCheck _ | .unOp .. | .makeInterface .. | .makeFunc .. | .fieldAddr .. | .field .. | .indexAddr .. | .index .. | .typeAssert .. | .extract ..=>some none
 | .binOp _ _ x y _=>match isPtr (ρ x)&&isPtr (ρ y)with
  |true=>none
  |false=>some none
 | .load _ a=>match ρ a with
  | .pointer (some ad)=>some (some ad.block)
  |_=>some none
 | .convert _ _ x=>match ρ x with
  | .int _ _=>some none
  |_=>none
 | .slice _ x _ _ _=>match ρ x with
  | .string _=>some none
  | .iface _ _=>some none
  |_=>none
 | .call {callee := .builtin .len,args,.. }=>match args.toList.map ρ with
  | [.string _]=>some none
  | [.slice _ _ _]=>some none
  | [.iface _ _]=>some none
  |_=>none
 | .call {callee := .builtin .min,.. }=>some none
 | .call {callee := .builtin .max,.. }=>some none
 |_=>none
def Flat(f:Heap->Option (Value×Heap)):Prop:=∃v:Option Value,∀H,f H=v.map (·,H)
theorem Flat.none:Flat fun _=>none:=⟨.none,fun _=>rfl⟩
theorem Flat.mk(v:Option Value):Flat fun H=>v.map (·,H):=⟨v,fun _=>rfl⟩
theorem Flat.some(v:Value):Flat fun H=>some (v,H):=⟨.some v,fun _=>rfl⟩
theorem Flat.orElse{f g:Heap->Option (Value×Heap)}(hf:Flat f)(hg:Flat g):Flat fun H=>match f H with
  | .some r => .some r
  | .none=>g H:=by
 obtain⟨v,hv⟩:=hf
 obtain⟨u,hu⟩:=hg
 cases v with
 |none=>exact⟨u,fun H=>by simp only[hv,Option.map_none];exact hu H⟩
 |some v=>exact⟨.some v,fun H=>by simp only[hv,Option.map_some]⟩
theorem aBin_flat{op:BinOp}{t:TypeId}{x y:Operand}{a b:Value}(h:(isPtr a&&isPtr b)=false)(H H':Heap):aBin P H op t x y a b=aBin P H' op t x y a b:=by
 unfold aBin
 split
 ·rfl
 ·rfl
 ·simp[isPtr]at h
 ·rfl
theorem aLenM_flat{H H':Heap}{t:TypeId}{x:Value}(h:∀r,x ≠ .map (some r)):aLenM P H t x=aLenM P H' t x:=by
 unfold aLenM
 split
 ·rename_i r _;exact absurd rfl (h _)
 ·rfl
def noHeap:Heap:=⟨.lf,0⟩
theorem aConvert_int{src dst:TypeId}{k:IntKind}{n:Int}:Flat fun H=>aConvert P H src dst (.int k n):=by
 refine⟨(aConvert P noHeap src dst (.int k n)).map (·.1),fun H=>?_⟩
 unfold aConvert
 generalize pureVal P (convert src dst (.int k n))=r
 generalize P.underlying src=a
 generalize P.underlying dst=b
 cases a with
 |none=>cases r<;>rfl
 |some a=>
  cases b with
  |none=>cases a<;>cases r<;>rfl
  |some b=>cases a<;>cases b<;>cases r<;>rfl
theorem aSlice_str{t:TypeId}{s:ByteArray}{lo hi mx:Option Value}:Flat fun H=>aSlice P H t (.string s) lo hi mx:=by
 by_cases hu:P.underlying t=some .string/\mx=none
 ·obtain⟨hu,hm⟩:=hu
  subst hm
  have key:∀H,aSlice P H t (.string s) lo hi none=(match bnds s.size s.size lo hi none with
    |some (l,h,_)=>some (.string (bytesOf ((s.data.toList.drop l).take (h-l))),H)
    |none=>none):=by
   intro H;unfold aSlice;simp only[hu]
   cases bnds s.size s.size lo hi none<;>rfl
  simp only[key]
  cases bnds s.size s.size lo hi none with
  |none=>exact .none
  |some r=>exact .some _
 ·refine⟨none,fun H=>?_⟩
  show aSlice P H t (.string s) lo hi mx=none
  unfold aSlice
  cases ha:P.underlying t with
  |none=>rfl
  |some a=>
   cases a<;>first|rfl|skip
   cases mx with
   |none=>exact absurd ⟨ha,rfl⟩ hu
   |some m=>rfl
theorem free_ok{o:Oper}{ρ:Operand->Value}(h:quietOf o.op ρ=some none):Flat (aOp P o ρ):=by
 obtain⟨dst,op,type,pos,after,guard⟩:=o
 simp only at h
 have main:Flat (fun H=>aOpK op P type ρ H)/\Flat (fun H=>aDeep op P ρ H)->Flat (aOp P ⟨dst,op,type,pos,after,guard⟩ ρ):=fun⟨h1,h2⟩=>h1.orElse h2
 refine main ?_
 cases op<;>(try(cases h;done))
 case move x=>exact⟨.some _,.none⟩
 case assign x=>exact⟨.some _,.none⟩
 case pick c a b=>
  refine⟨?_,.none⟩
  show Flat fun H=>match ρ c with | .bool true=>some (ρ a,H) | .bool false=>some (ρ b,H)|_=>none
  split<;>first|exact .some _|exact .none
 case build t parts=>exact⟨.mk _,.none⟩
 case nilCheck x=>
  refine⟨?_,.none⟩
  show Flat fun H=>match ρ x with | .pointer (some a)=>some (.pointer (some a),H) | .iface t v=>(match isMk t with|true=>none|false=>some (.iface t v,H)) | .func (.func f) first captured=>some (.func (.func f) first captured,H)|_=>none
  split<;>(try split)<;>first|exact .some _|exact .none
 case unOp op t x=>
  refine⟨?_,.none⟩
  show Flat fun H=>match plain (ρ x)with|true=>(pureVal P (Op.unary op (ρ x))).map (·,H)|false=>none
  split<;>first|exact .mk _|exact .none
 case makeInterface t x=>
  refine⟨?_,.none⟩
  show Flat fun H=>match P.underlying t with|some (.interface _)=>none|some _=>(match isMk t with|true=>none|false=>some (.iface t (ρ x),H))|none=>none
  split<;>(try split)<;>first|exact .some _|exact .none
 case makeFunc fn first captured=>exact⟨.some _,.none⟩
 case fieldAddr s x f=>
  refine⟨.mk _,?_⟩
  show Flat fun H=>match ρ x with | .iface m (.agg ⟨cs⟩)=>(match Nat.beq m mkP with|true=>(dField P s cs f).map (·,H)|false=>none)|_=>none
  split<;>(try split)<;>first|exact .mk _|exact .none
 case field t x f=>exact⟨.mk _,.none⟩
 case indexAddr t x ix=>
  constructor
  ·show Flat fun H=>match plain (ρ ix)with|true=>(aIndexAddr P t (ρ x) (ρ ix)).map (·,H)|false=>none
   split<;>first|exact .mk _|exact .none
  ·show Flat fun H=>match ρ x,ρ ix with | .iface m (.agg ⟨rows⟩),.int _ i=>(match Nat.beq m mkD with|true=>(dIndex P t rows i).map (·,H)|false=>none) | .iface m (.slice (some a) n c),.int k i=>(match Nat.beq m mkM with|true=>(aIndexAddr P t (.slice (some a) n c) (.int k i)).map (·,H)|false=>none)|_,_=>none
   split<;>(try split)<;>first|exact .mk _|exact .none
 case index t x ix=>
  refine⟨?_,.none⟩
  show Flat fun H=>match plain (ρ ix)with|true=>(aIndex P t (ρ x) (ρ ix)).map (·,H)|false=>none
  split<;>first|exact .mk _|exact .none
 case typeAssert x xt asserted ok=>exact⟨.mk _,.none⟩
 case extract t ix=>
  refine⟨?_,.none⟩
  show Flat fun H=>match ρ t with | .tuple vs=>vs[ix]?.map (·,H)|_=>none
  split<;>first|exact .mk _|exact .none
 case binOp op t x y yt=>
  refine⟨?_,.none⟩
  have hp:(isPtr (ρ x)&&isPtr (ρ y))=false:=by
   replace h:(match isPtr (ρ x)&&isPtr (ρ y)with|true=>none|false=>some none)=some none:=h
   split at h
   ·cases h
   ·assumption
  exact⟨aBin P noHeap op t x y (ρ x) (ρ y),fun H=>by
   show(aBin P H op t x y (ρ x) (ρ y)).map (·,H)=_
   rw[aBin_flat hp H noHeap]⟩
 case load t a=>
  replace h:(match ρ a with | .pointer (some ad)=>some (some ad.block)|_=>some none)=some none:=h
  constructor
  ·show Flat fun H=>match ρ a with | .pointer (some ad)=>(aLoad P H t ad).map (·,H)|_=>none
   split
   ·rename_i e;rw[e]at h;cases h
   ·exact .none
  ·show Flat fun H=>match ρ a with | .iface m (.agg ⟨cs⟩)=>(match Nat.beq m mkP with|true=>(dLoad P t cs).map (·,H)|false=>none)|_=>none
   split<;>(try split)<;>first|exact .mk _|exact .none
 case convert src d x=>
  replace h:(match ρ x with | .int _ _=>some none|_=>none)=some none:=h
  split at h
  ·rename_i k n e
   constructor
   ·show Flat fun H=>aConvert P H src d (ρ x)
    rw[e];exact aConvert_int
   ·show Flat fun H=>(dConv P H src d (ρ x)).map (·,H)
    rw[e]
    refine⟨none,fun H=>?_⟩
    have:dConv P H src d (.int k n)=none:=by
     unfold dConv
     split
     ·split
      ·rename_i e2;simp[aCellsOf]at e2
      ·rfl
     ·rfl
    simp only[this]
  ·cases h
 case slice t x lo hi mx=>
  replace h:(match ρ x with | .string _=>some none | .iface _ _=>some none|_=>none)=some none:=h
  have hd:Flat fun H=>aDeep (.slice t x lo hi mx) P ρ H:=by
   show Flat fun H=>match pOpd ρ lo,pOpd ρ hi,pOpd ρ mx,ρ x with|some lo,some hi,some mx,.iface m (.agg ⟨rows⟩)=>(match Nat.beq m mkD with|true=>(dSlice P t rows lo hi mx).map (·,H)|false=>none)|_,_,_,_=>none
   split<;>(try split)<;>first|exact .mk _|exact .none
  refine⟨?_,hd⟩
  show Flat fun H=>match pOpd ρ lo,pOpd ρ hi,pOpd ρ mx with|some lo,some hi,some mx=>aSlice P H t (ρ x) lo hi mx|_,_,_=>none
  split
  ·split at h
   ·rename_i e;rw[e];exact aSlice_str
   ·rename_i e;rw[e];exact⟨none,fun H=>aSlice_iface⟩
   ·cases h
  ·exact .none
 case call c=>
  obtain⟨callee,args,argTypes⟩:=c
  cases callee
  case builtin b=>
   cases b<;>(try(cases h;done))
   case len=>
    replace h:(match args.toList.map ρ with | [.string _]=>some none | [.slice _ _ _]=>some none | [.iface _ _]=>some none|_=>none)=some none:=h
    constructor
    ·show Flat fun H=>match argTypes[0]?,args.toList.map ρ with|some t,x::_=>(match aLen P t x with|some v=>some (v,H)|none=>(aLenM P H t x).map (·,H))|_,_=>none
     have hm:∀(t:TypeId) (x:Value),(∀r,x ≠ .map (some r))->Flat fun H=>(match aLen P t x with|some v=>some (v,H)|none=>(aLenM P H t x).map (·,H)):=by
      intro t x hx
      split
      ·exact .some _
      ·exact⟨aLenM P noHeap t x,fun H=>by rw[aLenM_flat hx]⟩
     split at h
     ·rename_i e;rw[e];split
      ·rename_i e2;simp only[List.cons.injEq]at e2;rw[←e2.1];exact hm _ _ (fun r e=>by cases e)
      ·exact .none
     ·rename_i e;rw[e];split
      ·rename_i e2;simp only[List.cons.injEq]at e2;rw[←e2.1];exact hm _ _ (fun r e=>by cases e)
      ·exact .none
     ·rename_i e;rw[e];split
      ·rename_i e2;simp only[List.cons.injEq]at e2;rw[←e2.1];exact hm _ _ (fun r e=>by cases e)
      ·exact .none
     ·cases h
    ·show Flat fun H=>match argTypes[0]?,args.toList.map ρ with|some t,x::_=>(match P.underlying t with|some (.slice _)=>(dLen x).map (Value.int .i64 ·,H)|_=>none)|_,_=>none
     split
     ·rename_i x _ _ _
      split
      ·exact⟨(dLen x).map (Value.int .i64 ·),fun H=>by cases dLen x<;>rfl⟩
      ·exact .none
     ·exact .none
   case min=>
    refine⟨?_,.none⟩
    show Flat fun H=>match plainL (args.toList.map ρ)with|true=>(pureVal P (Builtin.min_ argTypes type (args.toList.map ρ).toArray)).map (·,H)|false=>none
    split<;>first|exact .mk _|exact .none
   case max=>
    refine⟨?_,.none⟩
    show Flat fun H=>match plainL (args.toList.map ρ)with|true=>(pureVal P (Builtin.max_ argTypes type (args.toList.map ρ).toArray)).map (·,H)|false=>none
    split<;>first|exact .mk _|exact .none
  case value f=>cases h
  case invoke f m=>cases h
theorem aLoad_get{H H':Heap}{t:TypeId}{a:Addr}(h:H'.get a.block=H.get a.block):aLoad P H' t a=aLoad P H t a:=by
 have h1:∀n,aCells H' a n=aCells H a n:=fun n=>by unfold aCells;rw[h]
 have h2:aCell1 H' a=aCell1 H a:=by unfold aCell1;rw[h]
 unfold aLoad
 simp only[h1,h2]
theorem load_ok{o:Oper}{ρ:Operand->Value}{b:Nat}(h:quietOf o.op ρ=some (some b)){H:Heap}{v:Value}{H1:Heap}(ho:aOp P o ρ H=some (v,H1)):
  H1=H/\∀H',H'.get b=H.get b->aOp P o ρ H'=some (v,H'):=by
 obtain⟨dst,op,type,pos,after,guard⟩:=o
 simp only at h
 have hl:∃t a ad,op = .load t a/\ρ a = .pointer (some ad)/\ad.block=b:=by
  unfold quietOf at h
  split at h<;>(try(cases h;done))
  ·split at h<;>cases h
  ·split at h
   ·rename_i e;simp only[Option.some.injEq]at h;exact⟨_,_,_,rfl,e,h⟩
   ·cases h
  ·split at h<;>cases h
  ·split at h<;>cases h
  ·split at h<;>cases h
 obtain⟨t,a,ad,e1,e2,e3⟩:=hl
 subst e1
 have key:∀H,aOp P ⟨dst,.load t a,type,pos,after,guard⟩ ρ H=(aLoad P H t ad).map (·,H):=by
  intro H
  have h1:aOpK (.load t a) P type ρ H=(aLoad P H t ad).map (·,H):=by simp only[aOpK,e2]
  have h2:aDeep (.load t a) P ρ H=none:=by simp only[aDeep,e2]
  unfold aOp
  simp only[h1,h2]
  cases aLoad P H t ad<;>rfl
 rw[key]at ho
 simp only[Option.map_eq_some_iff,Prod.mk.injEq]at ho
 obtain⟨x,hx,e4,e5⟩:=ho
 subst e4
 refine⟨e5.symm,fun H' hH'=>?_⟩
 rw[key,aLoad_get (H:=H) (by rw[e3];exact hH'),hx];rfl
end
end
end Go.Abs
