/- A region that draws its order, in which one new variable may be made ahead of its turn. -/
import Derived.Test.YtblbaohcelldpaaB8
set_option linter.all false
namespace Go.Abs
open Go
noncomputable section
theorem Rel.grow{G:Nat}{F:Nm}{H:Heap}{w0:Base}{w:World}(R:Rel G F H w0 w)(o:Obj):Rel G F H w0 {w with heap:=w.heap.push o}:=by
 have hold:∀i,i<w.heap.size->(w.heap.push o)[i]?=w.heap[i]?:=fun i hi=>by
  rw[Array.getElem?_push,if_neg (by omega)]
 constructor
 ·intro n ob hn
  obtain⟨b,h1,h2,_⟩:=objR_blk (R.obj n ob hn)
  exact objR_other (R.obj n ob hn) fun b' hb'=>by rw[h1]at hb';simp only[Option.some.injEq]at hb';subst hb';exact hold _ h2
 ·exact R.inj
 ·exact R.fresh
 ·exact R.glob
 ·have h1:=R.base
  show w0.w.heap.size<=(w.heap.push o).size
  rw[Array.size_push];omega
 ·intro i hi
  have h1:=w0.lt i hi
  have h2:=R.base
  rw[←R.frame i hi];exact hold i (by omega)
 ·intro b i v hz
  obtain⟨⟨c,t,fz,g1,g2⟩,g3⟩:=R.froz b i v hz
  have hb:b<w.heap.size:=by
   rcases Nat.lt_or_ge b w.heap.size with h|h
   ·exact h
   ·rw[Array.getElem?_eq_none h]at g1;cases g1
  exact⟨⟨c,t,fz,by rw[hold b hb];exact g1,g2⟩,g3⟩
 ·exact R.zprot
 ·exact R.os
 ·exact R.out
 ·exact R.tape
theorem Rel.rebase{G:Nat}{F:Nm}{H:Heap}{w0:Base}{w:World}(R:Rel G F H w0 w)(B:Base)(hw:B.w=w)(hz:B.z=F.z)(hp:∀n o b,H.get n=some o->o.own=true->blk F n=some b->¬w0.prot b->¬B.prot b)(hx:∀i,w0.prot i->B.prot i):Rel G F H B w:=by
 subst hw
 exact {obj:=fun n o hn=>objR_base (R.obj n o hn) fun ho b hb=>hp n o b hn ho hb,inj:=R.inj,fresh:=R.fresh,glob:=R.glob,base:=Nat.le_refl _,frame:=fun i _=>rfl,froz:=fun b i v h=>let ⟨⟨c,t,fz,g1,g2,g3⟩,g4⟩:=R.froz b i v h;⟨⟨c,t,fz,g1,g2,fun hb=>g3 fun hw=>hb (hx b hw)⟩,g4⟩,zprot:=fun b i v h _=>by rw[hz];exact h,os:=rfl,out:=rfl,tape:=rfl}
structure Ext(w0 B:Base):Prop where
 prot:∀i,w0.prot i->B.prot i
 size:w0.w.heap.size<=B.w.heap.size
 frame:∀i,w0.prot i->B.w.heap[i]?=w0.w.heap[i]?
 zz:∀b i v,w0.prot b->B.z b i=some v->w0.z b i=some v
 un:∀b i v,B.prot b->B.z b i=some v->¬w0.prot b->∀c t fz,B.w.heap[b]?=some (.cells c t fz)->∀j,j<c.size->¬(fz.1<=j/\j<fz.2)
 os:B.w.os=w0.w.os
 out:B.w.output=w0.w.output
 tape:B.w.tape=w0.w.tape
theorem Rel.unbase {G:Nat} {F:Nm} {H:Heap} {w0 B:Base} {w:World} (R:Rel G F H B w) (e:Ext w0 B):Rel G F H w0 w:=
  { obj:=fun n o hn=>objR_base (R.obj n o hn) fun _ b _ hb h=>hb (e.prot b h),inj:=R.inj,fresh:=R.fresh,glob:=R.glob,base:=Nat.le_trans e.size R.base,
    frame:=fun i hi=>(R.frame i (e.prot i hi)).trans (e.frame i hi),froz:=fun b i v h=>let ⟨⟨c,t,fz,g1,g2,g3⟩,g4⟩:=R.froz b i v h;⟨⟨c,t,fz,g1,g2,fun hb=>(Classical.em (B.prot b)).elim (fun hp=>e.un b i v hp (R.zprot b i v h hp) hb c t fz (by rw[←R.frame b hp];exact g1)) g3⟩,g4⟩,zprot:=fun b i v h hp=>e.zz b i v hp (R.zprot b i v h (e.prot b hp)),os:=R.os.trans e.os,out:=R.out.trans e.out,tape:=R.tape.trans e.tape}
theorem oldLoose_ok{h0 H:Heap}:∀(k:Nat),oldLoose h0 H k=true->∀n o,n<k->H.get n=some o->o.own=false->∃o',h0.get n=some o'
 | 0,_,n,o,hn,_,_=>by omega
 |k+1,h,n,o,hn,hg,ho=>by
  simp only[oldLoose,Bool.and_eq_true]at h
  by_cases e:n=k
  ·subst e
   have h1:=h.1
   rw[hg]at h1
   simp only[ho,Bool.false_or]at h1
   split at h1
   ·rename_i o' ho';exact⟨o',ho'⟩
   ·cases h1
  ·exact oldLoose_ok k h.2 n o (by omega) hg ho
theorem allBefore_ok{ms es:List Nat}{e u:Nat}(h:allBefore ms es e u=true){t e':Nat}(ht:es[t]?=some e')(hlt:t<u):(ms.getD e 0).testBit e'=true:=by
 unfold allBefore at h
 have:=zipIdx_all h ht
 simp only[show Nat.blt t u=true from Nat.ble_eq_true_of_le hlt,Bool.not_true,Bool.false_or]at this
 exact this
theorem downOk_ok{ms es:List Nat}{i:Nat}(h:downOk ms es i=true){t e:Nat}(ht:es[t]?=some e)(hb:(ms.getD i 0).testBit e=true){u e':Nat}(hu:es[u]?=some e')(hlt:u<t):(ms.getD i 0).testBit e'=true:=by
 unfold downOk at h
 have:=zipIdx_all h ht
 simp only[hb,Bool.not_true,Bool.false_or]at this
 exact allBefore_ok this hu hlt
theorem alloc_run{P:Program}{e:TypeId}{z:Value}(hz:aZero P e=some z)(w:World):(Instr.alloc e true (.tuple #[])).run P w = .ok (.pointer (some ⟨w.heap.size,0,none⟩)) {w with heap:=w.heap.push (.cells z.cells e)}:=by
 simp[Instr.alloc,run_zeroValue hz,newVar,newRow]
def tp:Value := .chan (some 0)
section
variable {P:Program} {G:Nat} {w0:Base}
structure Early(w0:Base)(zc:Array Value)(et:TypeId)(df b:Nat)(B:Base)(tmps:Array Value):Prop where
 ext:Ext w0 B
 prot:B.prot b
 at':B.w.heap[b]?=some (.cells zc et (0,0))
 new:w0.w.heap.size<=b
 slot:tmps.getD df undef = .pointer (some ⟨b,0,none⟩)
 zb:∀i,B.z b i=none
structure DInvF (G:Nat) (w0:Base) (ops:Array Oper) (recs:List DRec) (hs:List Heap) (s:St) (F0:Nm) (tf f df:Nat) (zc:Array Value) (et:TypeId) (listed:Array Bool) (a:Act) (w:World):Prop where
  size:listed.size=ops.size
  closed:Closed ops.toList (fun i=>listed.getD i false=true)
  st:∃F T k H B,Nm.le F0 F/\DsR F s.ds a.defers/\k<=(effs recs).length/\hs[k]?=some H/\Rel G F H B w/\
    ((B=w0/\TR F T a.tmps/\Slots recs s.ts (fun i=>listed.getD i false=true) T/\∀(t e:Nat),(effs recs)[t]?=some e->(listed.getD e false=true↔t<k))∨
     (k<tf/\listed.getD f false=true/\a.tmps.size=T.n/\(∀d,(d≠df∨T.n<=d)->VR F (T.get d) (a.tmps.getD d undef))/\Slots recs s.ts (fun i=>listed.getD i false=true/\i≠f) T/\
      (∀(t e:Nat),(effs recs)[t]?=some e->(listed.getD e false=true↔(t<k∨t=tf)))/\∃b,Early w0 zc et df b B a.tmps))
theorem draw_schedF{S:Cmd->Res->Prop}(hrec:∀B c r,S c r->Holds P G B c r)(hP:okProg P G=true){ops:Array Oper}{s:St}{recs:List DRec}{hs:List Heap}{ts':Tm}
  (hok:ops.all (okOper G)=true) (hgo:recs.length=ops.toList.length/\ts'=tsOf recs s.ts recs.length/\hs.length=stg recs recs.length/\∀i r,recs[i]?=some r->RecOk P S ops.toList ops.toList s.ts (s.h::hs) recs i r) {tf:Nat} (hchk:drawOkF P ops.toList recs (s.h::hs) tf=true)
  {F0:Nm} (hstart:∀n o,s.h.get n=some o->∃x,F0 n=some x/\x.1<w0.w.heap.size) {Q:Exit->Act->World->Prop}
  (hQ:∀F a w,Nm.le F0 F->TR F ts' a.tmps->DsR F s.ds a.defers->Rel G F (hs.getLastD s.h) w0 w->Q .normal a w):
  ∃f df zc et,∀(fuel:Nat) (listed:Array Bool) (a:Act) (w:World),DInvF G w0 ops recs (s.h::hs) s F0 tf f df zc et listed a w->unl listed<=fuel->wpAny P .any ops Q fuel listed a w:=by
 obtain⟨g1,g2,g3,g4⟩:=hgo
 unfold drawOkF at hchk
 simp only at hchk
 split at hchk
 case h_2=>cases hchk
 rename_i f Hf h0 hf hHf hh0
 simp only[List.getElem?_cons_zero,Option.some.injEq]at hh0
 subst hh0
 simp only[Bool.and_eq_true]at hchk
 obtain⟨hstat,hfloat,hbefore,hdown,hloose,hquiet⟩:=hchk
 have hlen:recs.length=ops.size:=by simpa using g1
 have hop:∀ {i:Nat} {r:DRec},recs[i]?=some r->ops[i]?=some r.o:=fun hi=>by simpa using (g4 _ _ hi).op
 have hrecs:∀ {i:Nat} {o:Oper},ops[i]?=some o->∃r,recs[i]?=some r/\r.o=o:=by
  intro i o ho
  have hi:i<recs.length:=by rw[hlen];exact(Array.getElem?_eq_some_iff.1 ho).1
  refine⟨recs[i],by simp,?_⟩
  have:=hop (i:=i) (r:=recs[i]) (by simp)
  rw[ho]at this;simpa using this.symm
 have hdist:∀(i j:Nat) (ri rj:DRec),recs[i]?=some ri->recs[j]?=some rj->j≠i->∀d,ri.o.dst=some d->rj.o.dst≠some d:=by
  intro i j ri rj hi hj hne d hd
  exact(stat_pair hstat (by simpa using hop hi) (by simpa using hop hj) (Ne.symm hne) hd).1
 -- the variable that may come ahead
 unfold floatAt at hfloat
 split at hfloat
 case h_2=>cases hfloat
 rename_i rf hrf
 split at hfloat
 case h_2=>cases hfloat
 rename_i et df hfop hfg hfd
 simp only[Bool.and_eq_true]at hfloat
 have hdfn:df<rf.ts.n:=Nat.le_of_ble_eq_true hfloat.2
 have rokf:=g4 f rf hrf
 have hefff:=((effs_ok recs tf f).1 hf)
 have hefft:rf.eff=true:=by
  obtain⟨⟨r,h1,h2⟩,_⟩:=hefff
  rw[hrf]at h1;simp only[Option.some.injEq]at h1;subst h1;exact h2
 obtain⟨_,Hf1,Hf2,qf1,qf2,qf3⟩:=rokf.eff hefft
 rw[hefff.2]at qf1 qf2
 rw[hHf]at qf1;simp only[Option.some.injEq]at qf1;subst qf1
 have haop:∃z n,aZero P et=some z/\plain z=true/\aSize P et=some n/\rf.v = .pointer (some ⟨Hf.next,0,none⟩)/\Hf2=Hf.push (.cells z.cells.toList et n false true):=by
  rcases qf3 with q|⟨g,args,u,q,_⟩
  ·have q:aOpK rf.o.op P rf.o.type (aev rf.ts) Hf=some (rf.v,Hf2):=by
    unfold aOp at q
    split at q
    ·rename_i r0 h0;rw[h0];exact q
    ·rw[hfop]at q;cases q
   rw[hfop]at q
   replace q:(match aZero P et with|some z=>(match plain z with|true=>aNew P Hf et z.cells.toList|false=>none)|none=>none)=some (rf.v,Hf2):=q
   split at q<;>(try(cases q;done))
   rename_i z hz
   split at q<;>(try(cases q;done))
   rename_i hp
   unfold aNew at q
   split at q<;>(try(cases q;done))
   rename_i n hn
   simp only[Option.some.injEq,Prod.mk.injEq]at q
   exact⟨z,n,hz,hp,hn,q.1.symm,q.2.symm⟩
  ·rw[hfop]at q;unfold callOf at q;cases q
 obtain⟨z,nz,hz,hzp,hnz,hfv,hHf2⟩:=haop
 refine⟨f,df,z.cells,et,?_⟩
 have hftlt:tf<(effs recs).length:=(List.getElem?_eq_some_iff.1 hf).1
 have hefinj:∀(t:Nat),(effs recs)[t]?=some f->t=tf:=fun t ht=>by rw[←((effs_ok recs t f).1 ht).2,hefff.2]
 -- where nothing more can come up all has come up
 have hall:∀listed:Array Bool,listed.size=ops.size->Region.ready .any ops listed=[]->∀i,i<ops.size->listed.getD i false=true:=by
  intro listed hsz hrd i
  induction i using Nat.strongRecOn with
  |_ i ih=>
   intro hi
   cases hb:listed.getD i false with
   |true=>rfl
   |false=>
    exfalso
    have:i∈Region.ready .any ops listed:=by
     rw[mem_ready]
     refine⟨?_,ops[i],by simp[hi],fun e he hbe=>?_⟩
     ·rw[Array.getD_eq_getD_getElem?]at hb ⊢
      have:i<listed.size:=by omega
      simp[this]at hb ⊢;exact hb
     ·have hlt:=stat_edge hstat (j:=i) (oj:=ops[i]) (by simp[hi]) he hbe
      exact ih e.on hlt (by omega)
    rw[hrd]at this;cases this
 have heffsz:∀(t e:Nat),(effs recs)[t]?=some e->e<ops.size:=fun t e ht=>by
  obtain⟨⟨r,hr,_⟩,_⟩:=(effs_ok recs t e).1 ht
  have:=(List.getElem?_eq_some_iff.1 hr).1
  omega
 have hend:∀listed a w,DInvF G w0 ops recs (s.h::hs) s F0 tf f df z.cells et listed a w->Region.ready .any ops listed=[]->Q .normal a w:=by
  intro listed a w inv hrd
  have hS:=hall listed inv.size hrd
  obtain⟨F,T,k,H,B,h1,h3,h6,h7,h8,hcase⟩:=inv.st
  rcases hcase with⟨hB,h2,h4,h5⟩ | ⟨hk,_,_,_,_,h5,_⟩
  case inr=>
   exfalso
   have hke:(effs recs)[k]?=some (effs recs)[k]:=by simp
   have:=(h5 k _ hke).1 (hS _ (heffsz _ _ hke))
   omega
  subst hB
  have hT:∀t,T.get t=ts'.get t:=by
   rw[g2]
   have hts:=slots_tsOf (ts:=s.ts) hdist recs.length (Nat.le_refl _)
   intro t
   by_cases ht:t<s.ts.n
   ·by_cases hw:∃(i:Nat) (r:DRec),recs[i]?=some r/\r.o.dst=some t
    ·obtain⟨i,r,hi,hd⟩:=hw
     have hlt:i<recs.length:=(List.getElem?_eq_some_iff.1 hi).1
     rw[h4.2.1 i r hi (hS i (by omega)) t hd ht,hts.2.1 i r hi hlt t hd ht]
    ·have hn:∀(i:Nat) (r:DRec),recs[i]?=some r->r.o.dst≠some t:=fun i r hi hd=>hw ⟨i,r,hi,hd⟩
     rw[h4.2.2 t (.inl fun i r hi _=>hn i r hi),hts.2.2 t (.inl fun i r hi _=>hn i r hi)]
   ·rw[h4.2.2 t (.inr (Nat.le_of_not_lt ht)),hts.2.2 t (.inr (Nat.le_of_not_lt ht))]
  have hTR:TR F ts' a.tmps:=by
   have hn:ts'.n=s.ts.n:=by rw[g2];exact(slots_tsOf (ts:=s.ts) hdist recs.length (Nat.le_refl _)).1
   exact⟨by rw[h2.1,hn,h4.1],fun i=>by rw[←hT i];exact h2.2 i⟩
  have hk:k=hs.length:=by
   have e:(effs recs).length=hs.length:=by rw[effs_len,g3]
   rcases Nat.lt_or_ge k (effs recs).length with hlt|hge
   ·exfalso
    have he:(effs recs)[k]?=some (effs recs)[k]:=by simp[hlt]
    have:=(h5 k _ he).1 (hS _ (heffsz _ _ he))
    omega
   ·omega
  subst hk
  refine hQ F a w h1 hTR h3 ?_
  have:(s.h::hs)[hs.length]?=some (hs.getLastD s.h):=by
   cases hs with
   |nil=>rfl
   |cons x xs=>rw[List.getLastD_cons,List.length_cons,List.getElem?_cons_succ];simp[List.getLastD_eq_getLast?,List.getLast?_eq_getElem?];cases xs<;>simp
  rw[this]at h7;simp only[Option.some.injEq]at h7;subst h7;exact h8
 intro fuel
 induction fuel with
 |zero=>
  intro listed a w inv hu
  have hrd:Region.ready .any ops listed=[]:=by
   cases hr:Region.ready .any ops listed with
   |nil=>rfl
   |cons x xs=>
    have:x∈Region.ready .any ops listed:=by rw[hr];exact List.mem_cons_self ..
    have:=unl_pos (mem_ready.1 this).1
    omega
  exact⟨hrd,hend listed a w inv hrd⟩
 |succ fuel ih=>
  intro listed a w inv hu
  refine⟨fun hrd=>hend listed a w inv hrd,fun i hi=>?_⟩
  obtain⟨hiu,o,ho,hafter⟩:=mem_ready.1 hi
  obtain⟨r,hr,hro⟩:=hrecs ho
  subst hro
  have hilt:i<listed.size:=by
   rw[inv.size];exact(Array.getElem?_eq_some_iff.1 ho).1
  have hiS:¬listed.getD i false=true:=by
   rw[Array.getD_eq_getD_getElem?]at hiu ⊢
   simp[hilt]at hiu ⊢;exact hiu
  have rok:=g4 i r hr
  have hanc:∀j,((masks ops.toList).getD i 0).testBit j=true->listed.getD j false=true:=fun j hj=>
   inv.closed.ready (i:=i) (fun o' ho' e he hb=>by
    have:o'=r.o:=by have:=ho';rw[show ops.toList[i]?=ops[i]? from by simp,ho]at this;simpa using this.symm
    subst this;exact hafter e he hb) hj
  have hdesc:∀j,listed.getD j false=true->((masks ops.toList).getD j 0).testBit i=false:=by
   intro j hj
   cases hb:((masks ops.toList).getD j 0).testBit i with
   |false=>rfl
   |true=>exact absurd (inv.closed.masks j i hj hb) hiS
  have hunl:unl (listed.setIfInBounds i true)<=fuel:=by have:=unl_set hiu;omega
  have hclosed':Closed ops.toList (fun j=>(listed.setIfInBounds i true).getD j false=true):=by
   intro j o' ho' hj e he' hb
   rw[getD_set _ _ _ hilt]at hj ⊢
   rcases hj with hj|rfl
   ·exact .inl (inv.closed j o' ho' hj e he' hb)
   ·have:o'=r.o:=by have:=ho';rw[show ops.toList[j]?=ops[j]? from by simp,ho]at this;simpa using this.symm
    subst this
    exact .inl (hafter e he' hb)
  -- what it looks at is as it was in the text's order
  have hts:=slots_tsOf (ts:=s.ts) hdist i (by have:=(List.getElem?_eq_some_iff.1 hr).1;omega)
  have hlookS:∀(S':Nat->Prop) (T:Tm),Slots recs s.ts S' T->(∀j,((masks ops.toList).getD i 0).testBit j=true->S' j)->(∀j,S' j->((masks ops.toList).getD j 0).testBit i=false)->¬S' i->
    ∀d,looks ops.toList r.o d=true->T.get d=r.ts.get d:=by
   intro S' T h4 hanc' hdesc' hiS' d hd
   rw[rok.tm]
   by_cases hdl:d<s.ts.n
   ·by_cases hw:∃(j:Nat) (rj:DRec),recs[j]?=some rj/\rj.o.dst=some d
    ·obtain⟨j,rj,hj,hdj⟩:=hw
     have hother:∀(S:Nat->Prop),¬S j->∀(i':Nat) (r':DRec),recs[i']?=some r'->S i'->r'.o.dst≠some d:=by
      intro S hnS i' r' hi' hS'
      by_cases e:i'=j
      ·subst e;exact absurd hS' hnS
      ·exact hdist j i' rj r' hj hi' e d hdj
     by_cases hji:j=i
     ·subst hji
      rw[h4.2.2 d (.inl (hother _ hiS')),hts.2.2 d (.inl (hother _ (by omega)))]
     ·have hp:=(stat_pair hstat (i:=j) (j:=i) (by simpa using hop hj) (by simpa using ho) hji hdj).2 hd
      by_cases hlt:j<i
      ·rw[if_pos hlt]at hp
       have hjS:=hanc' j hp
       rw[h4.2.1 j rj hj hjS d hdj hdl,hts.2.1 j rj hj hlt d hdj hdl]
      ·rw[if_neg hlt]at hp
       have hjS:¬S' j:=fun hS=>by rw[hdesc' j hS]at hp;cases hp
       rw[h4.2.2 d (.inl (hother _ hjS)),hts.2.2 d (.inl (hother _ hlt))]
    ·have hn:∀(i':Nat) (r':DRec),recs[i']?=some r'->r'.o.dst≠some d:=fun i' r' hi' hd'=>hw ⟨i',r',hi',hd'⟩
     rw[h4.2.2 d (.inl fun i' r' hi' _=>hn i' r' hi'),hts.2.2 d (.inl fun i' r' hi' _=>hn i' r' hi')]
   ·rw[h4.2.2 d (.inr (Nat.le_of_not_lt hdl)),hts.2.2 d (.inr (Nat.le_of_not_lt hdl))]
  -- one operation
  have core:∀(F:Nm) (T:Tm) (k:Nat) (H:Heap) (B:Base),TR F T a.tmps->(∀d,looks ops.toList r.o d=true->T.get d=r.ts.get d)->(s.h::hs)[k]?=some H->Rel G F H B w->
    (r.eff=false->mayAt (masks ops.toList) (effs recs) i k=true)->(r.eff=true->stg recs i=k)->
    (∀F' v' w' k' H',Nm.le F F'->VR F' r.v v'->((k'=k/\r.eff=false)∨(k'=k+1/\r.eff=true))->(s.h::hs)[k']?=some H'->Rel G F' H' B w'->wpAny P .any ops Q fuel (listed.setIfInBounds i true) (a.put r.o.dst v') w')->
    wpOp P ops Q i (wpAny P .any ops Q fuel (listed.setIfInBounds i true)) a w:=by
   intro F T k H B h2 hlook h7 h8 hmay hstk hgo2
   have hρ:∀x∈r.o.op.operands,VR F (aev r.ts x) (a.eval x):=by
    intro x hx
    have hxo:=aev_ok (a:=a) h8 h2 (okOper_mem hok ho x hx)
    have e:aev r.ts x=aev T x:=by
     cases x with
     |tmp t=>
      have:=hlook t (by unfold looks;rw[Bool.or_eq_true];left;rw[Array.any_eq_true'];exact⟨.tmp t,hx,by simp⟩)
      simp only[aev,this]
     |_=>rfl
    rw[e];exact hxo
   have hwant:Region.wanted r.o (yielded ops a.tmps)=r.on:=by
    refine wantedA_ok h2 ?_
    rw[←rok.on]
    unfold wantedA
    cases hgd:r.o.guard with
    |none=>rfl
    |some gw=>
     obtain⟨j,want⟩:=gw
     have e1:∀d,(ops.toList[j]?).bind (·.dst)=some d->T.get d=r.ts.get d:=fun d hd=>
      hlook d (by unfold looks;rw[Bool.or_eq_true];right;rw[hgd];simp only;rw[hd];simp)
     have e2:yieldedL ops.toList T j=yieldedL ops.toList r.ts j:=by
      unfold yieldedL
      cases hd:(ops.toList[j]?).bind (·.dst)with
      |none=>rfl
      |some d=>simp only;rw[e1 d hd]
     have e3:topAt ops.toList T j=topAt ops.toList r.ts j:=by
      unfold topAt
      cases hd:(ops.toList[j]?).bind (·.dst)with
      |none=>rfl
      |some d=>simp only;rw[e1 d hd]
     simp only[e2,e3]
   unfold wpOp
   rw[ho]
   simp only[hwant]
   cases hon:r.on with
   |false=>
    simp only[Bool.false_eq_true,if_false]
    obtain⟨hv,hre⟩:=rok.off hon
    refine hgo2 F undef w k H (Nm.le_refl F) ?_ (.inl ⟨rfl,hre⟩) h7 h8
    rw[hv];exact(VR.plain_eq _ _ rfl).2 rfl
   |true=>
    simp only[if_true]
    left
    unfold Oper.wp
    cases hre:r.eff with
    |false=>
     have hq:=rok.quiet hon hre
     have hz:=zipIdx_all hquiet hr
     rw[hon,hre]at hz
     simp only[Bool.not_true,Bool.or_self,Bool.false_or]at hz
     have hz2:=zipIdx_all hz h7
     rw[hmay hre]at hz2
     simp only[Bool.not_true,Bool.false_or]at hz2
     unfold quietAt at hz2
     split at hz2
     ·rename_i v H' hop'
      simp only[Bool.and_eq_true]at hz2
      have hv:=beqV_eq _ _ hz2.1
      have hn:=Nat.eq_of_beq_eq_true hz2.2
      have hH:=quiet_same hq hop' hn
      simp only at hH;subst hH
      obtain⟨F',v',w',n,hle,hrun,hn',hv',hR'⟩:=aOp_ok (P:=P) h8 hρ hop'
      rw[hrun]
      rcases hn' with rfl|⟨rfl,rfl⟩
      ·rw[Oper.upon_value]
       exact hgo2 F' v' w' k H' hle (by rw[hv];exact hv') (.inl ⟨rfl,hre⟩) h7 hR'
      ·rw[Oper.upon_skip]
       exact hgo2 F' undef w' k H' hle (by rw[hv];exact hv') (.inl ⟨rfl,hre⟩) h7 hR'
     ·cases hz2
    |true=>
     obtain⟨_,H1,H2,q1,q2,q3⟩:=rok.eff hre
     have hkk:=hstk hre
     rw[hkk]at q1 q2
     rw[h7]at q1;simp only[Option.some.injEq]at q1;subst q1
     rcases q3 with q3|⟨g,args,u,hcall,hrc⟩
     ·obtain⟨F',v',w',n,hle,hrun,hn',hv',hR'⟩:=aOp_ok (P:=P) h8 hρ q3
      rw[hrun]
      rcases hn' with rfl|⟨rfl,rfl⟩
      ·rw[Oper.upon_value]
       exact hgo2 F' v' w' (k+1) H2 hle hv' (.inr ⟨rfl,hre⟩) q2 hR'
      ·rw[Oper.upon_skip]
       exact hgo2 F' undef w' (k+1) H2 hle hv' (.inr ⟨rfl,hre⟩) q2 hR'
     ·obtain⟨args',hrun,hargs⟩:=callOf_run hP hρ hcall w
      rw[hrun,Oper.upon_enter]
      have HC:=hrec B _ _ hrc
      refine(HC F w args' h8 hargs).mono fun e' w' ⟨F',hle,he,hR'⟩=>?_
      simp only[EnR]at he
      obtain⟨v',hv',e⟩:=he
      subst e
      exact hgo2 F' v' w' (k+1) H2 hle hv' (.inr ⟨rfl,hre⟩) q2 hR'
  -- an effect that is not the one
  have heffi:r.eff=true->(effs recs)[stg recs i]?=some i:=fun hre=>(effs_ok recs (stg recs i) i).2 ⟨⟨r,hr,hre⟩,rfl⟩
  have hstlen:r.eff=true->stg recs i<(effs recs).length:=fun hre=>(List.getElem?_eq_some_iff.1 (heffi hre)).1
  have hnoti:r.eff=false->∀(t e:Nat),(effs recs)[t]?=some e->e≠i:=by
   intro hre t e hte e'
   subst e'
   obtain⟨⟨r',hr',he'⟩,_⟩:=(effs_ok recs t e).1 hte
   rw[hr]at hr';simp only[Option.some.injEq]at hr';subst hr';rw[hre]at he';cases he'
  have hbef:r.eff=true->i≠f->∀(t e:Nat),(effs recs)[t]?=some e->t<stg recs i->listed.getD e false=true:=by
   intro hre hif t e hte hlt
   have:=zipIdx_all hbefore (heffi hre)
   have hne:Nat.beq (stg recs i) tf=false:=by
    cases hb:Nat.beq (stg recs i) tf with
    |false=>rfl
    |true=>
     exfalso
     have hb:=Nat.eq_of_beq_eq_true hb
     have h1:=heffi hre
     rw[hb,hf]at h1
     exact hif (Option.some.inj h1).symm
   simp only[hne,Bool.false_or]at this
   exact hanc _ (allBefore_ok this hte hlt)
  obtain⟨F,T,k,H,B,h1,h3,h6,h7,h8,hcase⟩:=inv.st
  rcases hcase with⟨hB,h2,h4,h5⟩ | ⟨hktf,hfl,hsz,h2,h4,h5,b,hE⟩
  ·-- none is ahead
   subst hB
   by_cases hearly:i=f/\k<tf
   ·-- it comes ahead of its turn
    obtain⟨hif,hktf⟩:=hearly
    subst hif
    rw[hrf]at hr;simp only[Option.some.injEq]at hr;subst hr
    have hwant:Region.wanted rf.o (yielded ops a.tmps)=true:=by
     unfold Region.wanted;rw[hfg]
    unfold wpOp
    rw[ho]
    simp only[hwant,if_true]
    left
    unfold Oper.wp
    have hrun:(execOp a.eval rf.o).run P w = .ok (.value (.pointer (some ⟨w.heap.size,0,none⟩))) {w with heap:=w.heap.push (.cells z.cells et)}:=by
     generalize rf.o=o0 at hfop
     obtain⟨dst,op,type,pos,after,guard⟩:=o0
     simp only at hfop
     subst hfop
     show(do pure (Next.value (←Instr.alloc et true (.tuple #[]))):Sem Next).run P w=_
     rw[Sem.run_bind,alloc_run hz]
     rfl
    rw[hrun,Oper.upon_value]
    have R1:=h8.grow (.cells z.cells et)
    let B2:Base:=⟨{w with heap:=w.heap.push (.cells z.cells et)},fun i=>B.prot i∨i=w.heap.size,fun i h=>by
     rcases h with h|h
     ·have:=B.lt i h;have:=h8.base
      show i<(w.heap.push _).size
      rw[Array.size_push];omega
     ·subst h
      show w.heap.size<(w.heap.push _).size
      rw[Array.size_push];omega,F.z,fun g vs hg=>by
     obtain⟨q1,t,fz,q2⟩:=B.tab g vs hg
     refine⟨.inl q1,t,fz,?_⟩
     show(w.heap.push _)[g]?=_
     have:=B.lt g q1;have:=h8.base
     rw[Array.getElem?_push,if_neg (by omega),h8.frame g q1];exact q2⟩
    have R2:Rel G F H B2 {w with heap:=w.heap.push (.cells z.cells et)}:=R1.rebase B2 rfl rfl (by
     intro n o b hn ho hb hp hc
     rcases hc with hc|hc
     ·exact hp hc
     ·obtain⟨b',g1,g2,_⟩:=objR_blk (h8.obj n o hn)
      rw[hb]at g1;simp only[Option.some.injEq]at g1;subst g1;omega) (fun i h => .inl h)
    have hsz':=h2.1
    refine ih _ _ _ ⟨by simpa using inv.size,hclosed',F,T,k,H,B2,h1,by rw[put_defers];exact h3,h6,h7,R2,.inr ⟨hktf,(getD_set _ _ _ hilt).2 (.inr rfl),?_,?_,?_,?_,w.heap.size,?_⟩⟩ hunl
    ·rw[hfd];show(a.tmps.setIfInBounds df _).size=_
     rw[Array.size_setIfInBounds];exact hsz'
    ·intro d hd
     rw[hfd]
     show VR F (T.get d) ((a.tmps.setIfInBounds df _).getD d undef)
     rw[Array.getD_eq_getD_getElem?,Array.getElem?_setIfInBounds]
     have h2d:=h2.2 d
     rw[Array.getD_eq_getD_getElem?]at h2d
     by_cases e:df=d
     ·subst e
      rw[if_pos rfl,if_neg (by rw[hsz'];have:=hd.resolve_left (fun h=>h rfl);omega)]
      rw[Array.getElem?_eq_none (by rw[hsz'];exact hd.resolve_left (fun h=>h rfl))]at h2d
      exact h2d
     ·rw[if_neg e];exact h2d
    ·refine h4.congr fun j _=>?_
     rw[getD_set _ _ _ hilt]
     constructor
     ·intro h;exact⟨.inl h,fun e=>hiS (e ▸ h)⟩
     ·rintro ⟨h|h,hne⟩
      ·exact h
      ·exact absurd h hne
    ·intro t e hte
     rw[getD_set _ _ _ hilt,h5 t e hte]
     constructor
     ·rintro (h|h)
      ·exact .inl h
      ·subst h;exact .inr (hefinj t hte)
     ·rintro (h|h)
      ·exact .inl h
      ·subst h;rw[hf]at hte;exact .inr (Option.some.inj hte).symm
    ·refine⟨⟨fun i h => .inl h,?_,?_,fun b i v hp hz=>h8.zprot b i v hz hp,fun b i v _ hz hn=>R1.un b i v hz hn,h8.os,h8.out,h8.tape⟩,.inr rfl,?_,h8.base,?_,?_⟩
     ·have:=h8.base
      show B.w.heap.size<=(w.heap.push _).size
      rw[Array.size_push];omega
     ·intro i hi
      have g1:=B.lt i hi;have g2:=h8.base
      show(w.heap.push _)[i]?=_
      rw[Array.getElem?_push,if_neg (by omega)];exact h8.frame i hi
     ·show(w.heap.push _)[w.heap.size]?=_
      simp
     ·rw[hfd]
      show(a.tmps.setIfInBounds df _).getD df undef=_
      rw[Array.getD_eq_getD_getElem?,Array.getElem?_setIfInBounds,if_pos rfl]
      by_cases hdf:df<a.tmps.size
      ·rw[if_pos hdf];rfl
      ·exfalso
       have e1:rf.ts.n=s.ts.n:=by rw[rokf.tm];exact(slots_tsOf (ts:=s.ts) hdist i (by have:=(List.getElem?_eq_some_iff.1 hrf).1;omega)).1
       have e2:=h4.1
       exact hdf (by rw[hsz',e2,←e1];exact hdfn)
     ·intro j
      show F.z w.heap.size j=none
      cases hzj:F.z w.heap.size j with
      |none=>rfl
      |some v=>
       obtain⟨⟨c,t,fz,q1,_⟩,_⟩:=h8.froz _ _ _ hzj
       rw[Array.getElem?_eq_none (Nat.le_refl _)]at q1;cases q1
   ·-- in its turn
    have hstk:r.eff=true->stg recs i=k:=by
     intro hre
     have hnot:¬stg recs i<k:=fun hlt=>hiS ((h5 _ _ (heffi hre)).2 hlt)
     by_cases hif:i=f
     ·subst hif
      have e1:stg recs i=tf:=hefff.2
      have:=fun h=>hearly ⟨rfl,h⟩
      omega
     ·rcases Nat.lt_or_ge k (stg recs i)with hlt|hge
      ·exfalso
       have hkl:k<(effs recs).length:=by have:=hstlen hre;omega
       have hke:(effs recs)[k]?=some (effs recs)[k]:=by simp
       have:=(h5 k _ hke).1 (hbef hre hif k _ hke hlt)
       omega
      ·omega
    refine core F T k H B h2 (hlookS _ T h4 hanc hdesc hiS) h7 h8 ?_ hstk ?_
    ·intro hre
     refine mayAt_ok (fun t e hte hb=>(h5 t e hte).1 (hanc e hb)) (fun t e hte hlt=>hdesc e ((h5 t e hte).2 hlt))
    ·intro F' v' w' k' H' hle hv' hk' hH' hR'
     refine ih _ _ _ ⟨by simpa using inv.size,hclosed',F',putL T r.o.dst r.v,k',H',B,Nm.le_trans h1 hle,by rw[put_defers];exact h3.mono hle,?_,hH',hR',.inl ⟨rfl,putL_ok (h2.mono hle) hv' _,?_,?_⟩⟩ hunl
     ·rcases hk' with⟨e,_⟩ | ⟨e,hre⟩
      ·omega
      ·have:=hstk hre;have:=hstlen hre;omega
     ·exact(h4.put hr fun j r' hj hne d hd=>hdist i j r r' hr hj hne d hd).congr fun j _=>(getD_set _ _ _ hilt).symm
     ·intro t e hte
      rw[getD_set _ _ _ hilt,h5 t e hte]
      rcases hk' with⟨e1,hre⟩ | ⟨e1,hre⟩
      ·subst e1
       constructor
       ·rintro (h|h)
        ·exact h
        ·exact absurd h (hnoti hre t e hte)
       ·exact .inl
      ·subst e1
       have hst:=hstk hre
       constructor
       ·rintro (h|h)
        ·omega
        ·subst h
         have:=((effs_ok recs t e).1 hte).2
         omega
       ·intro hlt
        rcases Nat.lt_or_ge t k with h|h
        ·exact .inl h
        ·have:t=k:=by omega
         subst this
         have h9:=heffi hre
         rw[hst,hte]at h9
         exact .inr (Option.some.inj h9)
  ·-- it is there already
   have hif:i≠f:=fun e=>hiS (by rw[e];exact hfl)
   have hknot:∀(t e:Nat),(effs recs)[t]?=some e->t<tf->listed.getD e false=true->t<k:=by
    intro t e hte hlt hl
    rcases(h5 t e hte).1 hl with h|h
    ·exact h
    ·omega
   have hkall:(∀(t e:Nat),(effs recs)[t]?=some e->t<tf->listed.getD e false=true)->False:=by
    intro h
    have hke:(effs recs)[k]?=some (effs recs)[k]:=by simp
    have:=hknot k _ hke hktf (h k _ hke hktf)
    omega
   have hnobit:((masks ops.toList).getD i 0).testBit f=true->False:=by
    intro hb
    have hd:=zipIdx_all hdown hr
    have hne:Nat.beq i f=false:=by
     cases hb:Nat.beq i f with
     |false=>rfl
     |true=>exact absurd (Nat.eq_of_beq_eq_true hb) hif
    simp only[hne,Bool.false_or]at hd
    exact hkall fun t e hte hlt=>hanc e (downOk_ok hd hf hb hte hlt)
   have hanc':∀j,((masks ops.toList).getD i 0).testBit j=true->(listed.getD j false=true/\j≠f):=fun j hj=>⟨hanc j hj,fun e=>hnobit (e ▸ hj)⟩
   have hlook0:=hlookS _ T h4 hanc' (fun j hj=>hdesc j hj.1) (fun h=>hiS h.1)
   have hnotdf:∀d,looks ops.toList r.o d=true->d≠df:=by
    intro d hd e
    subst e
    have hp:=(stat_pair hstat (i:=f) (j:=i) (by simpa using hop hrf) (by simpa using ho) (Ne.symm hif) hfd).2 hd
    split at hp
    ·exact hnobit hp
    ·rw[hdesc f hfl]at hp;cases hp
   have hTR:TR F (T.put df tp) a.tmps:=by
    refine⟨by rw[Tm.n_put];exact hsz,fun d=>?_⟩
    rw[Tm.get_put]
    split
    ·simp[tp,VR]
    ·rename_i hn
     refine h2 d ?_
     by_cases e:d=df
     ·subst e;exact .inr (Nat.le_of_not_lt fun h=>hn ⟨rfl,h⟩)
     ·exact .inl e
   have hstk:r.eff=true->stg recs i=k:=by
    intro hre
    have hst:=heffi hre
    have hne:stg recs i≠tf:=fun e=>by rw[e,hf]at hst;exact hif (Option.some.inj hst).symm
    have hnot:¬stg recs i<k:=fun hlt=>hiS ((h5 _ _ hst).2 (.inl hlt))
    rcases Nat.lt_or_ge (stg recs i) tf with hlt|hge
    ·rcases Nat.lt_or_ge k (stg recs i)with hlt2|hge2
     ·exfalso
      have hke:(effs recs)[k]?=some (effs recs)[k]:=by simp
      have:=hknot k _ hke hktf (hbef hre hif k _ hke hlt2)
      omega
     ·omega
    ·exfalso
     exact hkall fun t e hte hlt=>hbef hre hif t e hte (by omega)
   refine core F (T.put df tp) k H B hTR (fun d hd=>?_) h7 h8 ?_ hstk ?_
   ·rw[Tm.get_put,if_neg (fun c=>hnotdf d hd c.1)];exact hlook0 d hd
   ·intro hre
    refine mayAt_ok (fun t e hte hb=>?_) (fun t e hte hlt=>hdesc e ((h5 t e hte).2 (.inl hlt)))
    obtain⟨hl,hne⟩:=hanc' e hb
    rcases(h5 t e hte).1 hl with h|h
    ·exact h
    ·exfalso;subst h;rw[hf]at hte;exact hne (Option.some.inj hte).symm
   ·intro F' v' w' k' H' hle hv' hk' hH' hR'
    have hdsti:r.o.dst≠some df:=hdist f i rf r hrf hr hif df hfd
    have hslot:(a.put r.o.dst v').tmps.getD df undef = .pointer (some ⟨b,0,none⟩):=by
     rw[←hE.slot]
     cases hd:r.o.dst with
     |none=>rfl
     |some d=>
      have hne:d≠df:=fun e=>hdsti (by rw[hd,e])
      show(a.tmps.setIfInBounds d v').getD df undef=_
      rw[Array.getD_eq_getD_getElem?,Array.getElem?_setIfInBounds,if_neg hne,←Array.getD_eq_getD_getElem?]
    have hsz2:(a.put r.o.dst v').tmps.size=(putL T r.o.dst r.v).n:=by
     cases hd:r.o.dst with
     |none=>exact hsz
     |some d=>
      show(a.tmps.setIfInBounds d v').size=(T.put d r.v).n
      rw[Array.size_setIfInBounds,Tm.n_put];exact hsz
    have hvr2:∀d,(d≠df∨(putL T r.o.dst r.v).n<=d)->VR F' ((putL T r.o.dst r.v).get d) ((a.put r.o.dst v').tmps.getD d undef):=by
     intro d hd
     cases hds:r.o.dst with
     |none=>
      rw[hds]at hd
      exact(h2 d hd).mono hle
     |some d0=>
      rw[hds]at hd
      have hd:d≠df∨T.n<=d:=by
       rcases hd with h|h
       ·exact .inl h
       ·exact .inr (by rw[show(putL T (some d0) r.v).n=T.n from Tm.n_put _ _ _]at h;exact h)
      show VR F' ((T.put d0 r.v).get d) ((a.tmps.setIfInBounds d0 v').getD d undef)
      rw[Tm.get_put,Array.getD_eq_getD_getElem?,Array.getElem?_setIfInBounds]
      have h2d:=(h2 d hd).mono hle
      rw[Array.getD_eq_getD_getElem?]at h2d
      by_cases e:d=d0
      ·subst e
       rw[if_pos rfl]
       by_cases hlt:d<T.n
       ·rw[if_pos ⟨rfl,hlt⟩,if_pos (by rw[hsz];exact hlt)];exact hv'
       ·rw[if_neg (fun c=>hlt c.2),if_neg (by rw[hsz];exact hlt)]
        rw[Array.getElem?_eq_none (by rw[hsz];exact Nat.le_of_not_lt hlt)]at h2d
        exact h2d
      ·rw[if_neg (fun c=>e c.1),if_neg (fun c=>e c.symm)];exact h2d
    have hslots2:Slots recs s.ts (fun j=>(listed.setIfInBounds i true).getD j false=true/\j≠f) (putL T r.o.dst r.v):=by
     refine(h4.put hr fun j r' hj hne d hd=>hdist i j r r' hr hj hne d hd).congr fun j _=>?_
     rw[getD_set _ _ _ hilt]
     constructor
     ·rintro (⟨h,hne⟩ | h)
      ·exact⟨.inl h,hne⟩
      ·exact⟨.inr h,fun e=>hif (h ▸ e)⟩
     ·rintro ⟨h|h,hne⟩
      ·exact .inl ⟨h,hne⟩
      ·exact .inr h
    have hiff:∀(t e:Nat),(effs recs)[t]?=some e->((listed.setIfInBounds i true).getD e false=true↔(t<k'∨t=tf)):=by
     intro t e hte
     rw[getD_set _ _ _ hilt,h5 t e hte]
     rcases hk' with⟨e1,hre⟩ | ⟨e1,hre⟩
     ·subst e1
      constructor
      ·rintro (h|h)
       ·exact h
       ·exact absurd h (hnoti hre t e hte)
      ·exact .inl
     ·subst e1
      have hst:=hstk hre
      constructor
      ·rintro (h|h)
       ·omega
       ·subst h
        have:=((effs_ok recs t e).1 hte).2
        omega
      ·intro hlt
       by_cases h:t=k
       ·subst h
        have h9:=heffi hre
        rw[hst,hte]at h9
        exact .inr (Option.some.inj h9)
       ·exact .inl (by omega)
    have hEx:Early w0 z.cells et df b B (a.put r.o.dst v').tmps:=⟨hE.ext,hE.prot,hE.at',hE.new,hslot,hE.zb⟩
    by_cases hcommit:k'=tf
    ·-- its turn
     subst hcommit
     rw[hHf]at hH';simp only[Option.some.injEq]at hH';subst hH'
     have hfr:F' Hf.next=none:=hR'.fresh _ (Nat.le_refl _)
     have hle2:Nm.le F' (F'.with Hf.next (b,0,0)):=Nm.le_with hfr _
     have hbw:w'.heap[b]?=some (.cells z.cells et (0,0)):=by rw[hR'.frame b hE.prot];exact hE.at'
     have hnewR:Rel G (F'.with Hf.next (b,0,0)) Hf2 w0 w':=by
      rw[hHf2]
      have Ru:=hR'.unbase hE.ext
      have hblk:∀n o,Hf.get n=some o->blk F' n≠some b:=by
       intro n o hn hb
       cases hown:o.own with
       |true=>
        obtain⟨b',q1,_,q3⟩:=objR_blk (hR'.obj n o hn)
        rw[hb]at q1;simp only[Option.some.injEq]at q1;subst q1
        exact q3 hown hE.prot
       |false=>
        have hlt:n<Hf.next:=by
         rcases Nat.lt_or_ge n Hf.next with h|h
         ·exact h
         ·rw[hR'.nolive h]at hn;cases hn
        obtain⟨o',ho'⟩:=oldLoose_ok _ hloose n o hlt hn hown
        obtain⟨x,hx1,hx2⟩:=hstart n o' ho'
        have:=hle.nm n x (h1.nm n x hx1)
        simp only[blk,this,Option.map_some,Option.some.injEq]at hb
        have:=hE.new
        omega
      have hbn:∀n o,Hf.get n=some o->n≠Hf.next:=fun n o hn e=>by rw[e,hR'.nolive (Nat.le_refl _)]at hn;cases hn
      have hbk:∀n o,Hf.get n=some o->blk (F'.with Hf.next (b,0,0)) n=blk F' n:=fun n o hn=>by simp[blk,Nm.with,hbn n o hn]
      have hzv:VRL (F'.with Hf.next (b,0,0)) z.cells.toList z.cells.toList:=(VRL.plain_eq _ _ (plain_cells hzp)).2 rfl
      constructor
      ·intro n ob hn
       rw[Heap.get_push]at hn
       split at hn
       ·rename_i hn'
        subst hn'
        simp only[Option.some.injEq]at hn;subst hn
        refine⟨b,0,0,z.cells,(0,0),Nm.with_self _ _ _,⟨et,hbw,fun _=>rfl⟩,?_,by simp,fun _=>⟨rfl,rfl,by simp,rfl⟩,fun _=>⟨fun hp=>?_,fun i _=>by simp⟩⟩
        ·rw[List.drop_zero,List.take_of_length_le (Nat.le_refl _)];exact hzv
        ·have:=w0.lt b hp;have:=hE.new;omega
       ·exact objR_mono hle2 (Ru.obj n ob hn)
      ·intro n m ob ob' hn hm hne how
       rw[Heap.get_push]at hn hm
       split at hn<;>split at hm
       ·omega
       ·rename_i h5' h6';subst h5'
        rw[hbk m ob' hm]
        simp only[blk,Nm.with_self,Option.map_some]
        exact fun e=>hblk m ob' hm e.symm
       ·rename_i h5' h6';subst h6'
        rw[hbk n ob hn]
        simp only[blk,Nm.with_self,Option.map_some]
        exact hblk n ob hn
       ·rw[hbk n ob hn,hbk m ob' hm];exact Ru.inj n m ob ob' hn hm hne how
      ·intro n hn
       have hn:Hf.next+1<=n:=hn
       simp only[Nm.with];rw[if_neg (by omega)];exact Ru.fresh n (by omega)
      ·intro g hg;exact hle2.nm _ _ (Ru.glob g hg)
      ·exact Ru.base
      ·exact Ru.frame
      ·intro b' i2 v2 hz
       refine⟨(Ru.froz b' i2 v2 hz).1,fun n ob hn how=>?_⟩
       rw[Heap.get_push]at hn
       split at hn
       ·rename_i hn'
        subst hn'
        simp only[blk,Nm.with_self,Option.map_some]
        intro e
        simp only[Option.some.injEq]at e
        have hz2:=hR'.zprot b' i2 v2 hz (by rw[←e];exact hE.prot)
        rw[←e,hE.zb i2]at hz2;cases hz2
       ·rw[hbk n ob hn];exact(Ru.froz b' i2 v2 hz).2 n ob hn how
      ·exact Ru.zprot
      ·exact Ru.os
      ·exact Ru.out
      ·exact Ru.tape
     refine ih _ _ _ ⟨by simpa using inv.size,hclosed',F'.with Hf.next (b,0,0),(putL T r.o.dst r.v).put df rf.v,k'+1,Hf2,w0,Nm.le_trans h1 (Nm.le_trans hle hle2),by rw[put_defers];exact h3.mono (Nm.le_trans hle hle2),by omega,qf2,hnewR,.inl ⟨rfl,?_,?_,?_⟩⟩ hunl
     ·refine⟨by rw[Tm.n_put];exact hsz2,fun d=>?_⟩
      rw[Tm.get_put]
      split
      ·rename_i hd
       rw[hd.1,hslot,hfv]
       simp only[VR]
       exact⟨⟨b,0,none⟩,⟨0,0,Nm.with_self _ _ _,rfl,rfl⟩,rfl⟩
      ·rename_i hn
       refine(hvr2 d ?_).mono hle2
       by_cases e:d=df
       ·subst e;exact .inr (Nat.le_of_not_lt fun h=>hn ⟨rfl,h⟩)
       ·exact .inl e
     ·have hp:=hslots2.put hrf fun j r' hj hne d hd=>hdist f j rf r' hrf hj hne d hd
      rw[hfd]at hp
      refine hp.congr fun j _=>?_
      constructor
      ·rintro (⟨h,_⟩ | h)
       ·exact h
       ·subst h;rw[getD_set _ _ _ hilt];exact .inl hfl
      ·intro h
       by_cases e:j=f
       ·exact .inr e
       ·exact .inl ⟨h,e⟩
     ·intro t e hte
      rw[hiff t e hte];omega
    ·refine ih _ _ _ ⟨by simpa using inv.size,hclosed',F',putL T r.o.dst r.v,k',H',B,Nm.le_trans h1 hle,by rw[put_defers];exact h3.mono hle,?_,hH',hR',.inr ⟨?_,?_,hsz2,hvr2,hslots2,hiff,b,hEx⟩⟩ hunl
     ·rcases hk' with⟨e,_⟩ | ⟨e,hre⟩<;>omega
     ·rcases hk' with⟨e,_⟩ | ⟨e,hre⟩<;>omega
     ·rw[getD_set _ _ _ hilt];exact .inl hfl
theorem aDraw_ok{rec:Cmd->Option Res}(hrec:∀B c r,rec c=some r->Holds P G B c r)(hP:okProg P G=true){ops:Array Oper}{s s':St}(h:aDraw P rec ops s=some s'):Holds P G w0 (.draw ops s) (.ex .normal s'):=by
 unfold aDraw at h
 split at h
 ·rename_i recs hs ts' hgo
  split at h
  ·rename_i hchk
   simp only[Option.some.injEq]at h;subst h
   exact draw_ok (hrec w0) hP (drawGo_ok _ _ _ _ _ _ hgo) hchk (fun _ _ h=>h)
  ·split at h<;>(try(cases h;done))
   rename_i tf _
   split at h<;>(try(cases h;done))
   rename_i hchk
   simp only[Option.some.injEq]at h;subst h
   intro hok c0 rest F a cs w hsr
   obtain⟨k1,k2,k3,k4⟩:=hsr
   have hf:∀j,(Array.replicate ops.size false).getD j false=false:=by
    intro j;rw[Array.getD_eq_getD_getElem?,Array.getElem?_replicate];split<;>rfl
   -- from here on
   let B:Base:=⟨w,fun i=>w0.prot i,fun i h=>Nat.lt_of_lt_of_le (w0.lt i h) k1.base,F.z,fun g vs hg=>by
    obtain⟨q1,t,fz,q2⟩:=w0.tab g vs hg
    exact⟨q1,t,fz,by rw[k1.frame g q1];exact q2⟩⟩
   have hext:Ext w0 B:=⟨fun i h=>h,k1.base,k1.frame,fun b i v hp hz=>k1.zprot b i v hz hp,fun b i v hp _ hn=>absurd hp hn,k1.os,k1.out,k1.tape⟩
   have RB:Rel G F s.h B w:=k1.rebase B rfl rfl (fun _ _ _ _ _ _ h=>h) fun _ h=>h
   obtain⟨f,df,zc,et,key⟩:=draw_schedF (w0:=B) hrec hP hok (drawGo_ok _ _ _ _ _ _ hgo) hchk (F0:=F) (fun n o hn=>by
    obtain⟨b,g1,g2,_⟩:=objR_blk (k1.obj n o hn)
    cases hF:F n with
    |none=>simp[blk,hF]at g1
    |some x=>simp only[blk,hF,Option.map_some,Option.some.injEq]at g1;subst g1;exact⟨x,rfl,g2⟩)
    (Q:=fun e' a' w'=>Ends G w0 false c0 rest F .normal {s with ts:=ts',h:=hs.getLastD s.h} e' a' cs w') (fun F' a' w' hle q1 q2 q3=>⟨F',hle,rfl,q3.unbase hext,q1,q2,k4⟩)
   refine key ops.size (Array.replicate ops.size false) a {w with drawn:=w.drawn+1} ⟨by simp,?_,F,s.ts,0,s.h,B,Nm.le_refl F,k3,Nat.zero_le _,rfl,RB.draws _,.inl ⟨rfl,k2,⟨rfl,?_,fun _ _=>rfl⟩,?_⟩⟩ ?_
   ·intro i o _ hi;rw[hf]at hi;cases hi
   ·intro i r _ hi;rw[hf]at hi;cases hi
   ·intro t e _;rw[hf];simp
   ·unfold unl
    exact Nat.le_trans (List.length_filter_le _ _) (by simp)
 ·cases h
end
end
end Go.Abs
