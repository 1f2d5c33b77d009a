/- The abstract heap, and how it stands to a world: reading, writing, new blocks. -/
import Derived.Test.YtblbaohcelldpaaA1
import GoSem.Dispatch
set_option linter.all false
namespace Go.Abs
open Go
noncomputable section
inductive Tr(α:Type) where
 |lf
 |nd (l:Tr α) (v:Option α) (r:Tr α)
def Tr.get{α:Type}(t:Tr α):Nat->Option α:=
 Tr.rec (motive:=fun _=>Nat->Option α) (fun _=>none)
  (fun _ v _ gl gr n=>Nat.rec (motive:=fun _=>Option α) v (fun k _=>Bool.rec (motive:=fun _=>Option α) (gr (Nat.div k 2)) (gl (Nat.div k 2)) (Nat.beq (Nat.mod k 2) 0)) n) t
def Tr.one{α:Type}(f:Nat):Nat->Option α->Tr α:=
 Nat.rec (motive:=fun _=>Nat->Option α->Tr α) (fun _ _ => .lf)
  (fun _ go n x=>Nat.rec (motive:=fun _=>Tr α) (.nd .lf x .lf) (fun k _=>Bool.rec (motive:=fun _=>Tr α) (.nd .lf none (go (Nat.div k 2) x)) (.nd (go (Nat.div k 2) x) none .lf) (Nat.beq (Nat.mod k 2) 0)) n) f
def Tr.set{α:Type}(t:Tr α):Nat->Option α->Tr α:=
 Tr.rec (motive:=fun _=>Nat->Option α->Tr α) (fun n x=>Tr.one (Nat.succ n) n x)
  (fun l v r sl sr n x=>Nat.rec (motive:=fun _=>Tr α) (.nd l x r) (fun k _=>Bool.rec (motive:=fun _=>Tr α) (.nd l v (sr (Nat.div k 2) x)) (.nd (sl (Nat.div k 2) x) v r) (Nat.beq (Nat.mod k 2) 0)) n) t
theorem Tr.get_lf{α:Type}(n:Nat):(Tr.lf:Tr α).get n=none:=rfl
theorem Tr.get_zero{α:Type}(l:Tr α)(v:Option α)(r:Tr α):(Tr.nd l v r).get 0=v:=rfl
theorem Tr.get_succ{α:Type}(l:Tr α)(v:Option α)(r:Tr α)(k:Nat):(Tr.nd l v r).get (k+1)=match Nat.beq (k % 2) 0 with|true=>l.get (k / 2)|false=>r.get (k / 2):=by
 show Bool.rec (motive:=fun _=>Option α) (r.get (k / 2)) (l.get (k / 2)) (Nat.beq (k % 2) 0)=_
 cases Nat.beq (k % 2) 0<;>rfl
theorem Tr.one_zero{α:Type}(f:Nat)(x:Option α):Tr.one (f+1) 0 x = .nd .lf x .lf:=rfl
theorem Tr.one_succ{α:Type}(f k:Nat)(x:Option α):Tr.one (f+1) (k+1) x=match Nat.beq (k % 2) 0 with|true => .nd (Tr.one f (k / 2) x) none .lf|false => .nd .lf none (Tr.one f (k / 2) x):=by
 show Bool.rec (motive:=fun _=>Tr α) (.nd .lf none (Tr.one f (k / 2) x)) (.nd (Tr.one f (k / 2) x) none .lf) (Nat.beq (k % 2) 0)=_
 cases Nat.beq (k % 2) 0<;>rfl
theorem Tr.set_lf{α:Type}(n:Nat)(x:Option α):(Tr.lf:Tr α).set n x=Tr.one (n+1) n x:=rfl
theorem Tr.set_zero{α:Type}(l:Tr α)(v:Option α)(r:Tr α)(x:Option α):(Tr.nd l v r).set 0 x = .nd l x r:=rfl
theorem Tr.set_succ{α:Type}(l:Tr α)(v:Option α)(r:Tr α)(k:Nat)(x:Option α):(Tr.nd l v r).set (k+1) x=match Nat.beq (k % 2) 0 with|true => .nd (l.set (k / 2) x) v r|false => .nd l v (r.set (k / 2) x):=by
 show Bool.rec (motive:=fun _=>Tr α) (.nd l v (r.set (k / 2) x)) (.nd (l.set (k / 2) x) v r) (Nat.beq (k % 2) 0)=_
 cases Nat.beq (k % 2) 0<;>rfl
theorem half_inj{k m:Nat}(h:Nat.beq (k % 2) 0=Nat.beq (m % 2) 0):k / 2=m / 2↔k=m:=by
 have:(k % 2=0)↔(m % 2=0):=by
  constructor<;>intro e
  ·have:=h;rw[show Nat.beq (k % 2) 0=true from by simp[e]]at this;exact Nat.eq_of_beq_eq_true this.symm
  ·have:=h;rw[show Nat.beq (m % 2) 0=true from by simp[e]]at this;exact Nat.eq_of_beq_eq_true this
 omega
theorem Tr.get_one{α:Type}:∀(f n:Nat) (x:Option α) (m:Nat),n<f->(Tr.one f n x).get m=if m=n then x else none
 | 0,n,x,m,h=>by omega
 |f+1,0,x,m,h=>by
  rw[Tr.one_zero]
  cases m with
  |zero=>rfl
  |succ j=>rw[Tr.get_succ];cases Nat.beq (j % 2) 0<;>simp[Tr.get_lf]
 |f+1,k+1,x,m,h=>by
  rw[Tr.one_succ]
  have ih:=fun j=>Tr.get_one f (k / 2) x j (by omega)
  cases m with
  |zero=>cases Nat.beq (k % 2) 0<;>simp[Tr.get_zero]
  |succ j=>
   by_cases c:j=k
   ·subst c
    cases hk:Nat.beq (j % 2) 0<;>simp[Tr.get_succ,hk,ih]
   ·have e:=fun h hc=>c ((half_inj (k:=j) (m:=k) h).1 hc)
    cases hk:Nat.beq (k % 2) 0<;>cases hj:Nat.beq (j % 2) 0<;>simp[Tr.get_succ,hj,Tr.get_lf,ih,c]
    ·exact fun h=>absurd h (e (by rw[hj,hk]))
    ·exact fun h=>absurd h (e (by rw[hj,hk]))
theorem Tr.get_set{α:Type}:∀(t:Tr α) (n:Nat) (x:Option α) (m:Nat),(t.set n x).get m=if m=n then x else t.get m
 | .lf,n,x,m=>by rw[Tr.set_lf,Tr.get_one _ _ _ _ (by omega),Tr.get_lf]
 | .nd l v r,0,x,m=>by
  rw[Tr.set_zero]
  cases m with
  |zero=>rfl
  |succ j=>rw[Tr.get_succ,Tr.get_succ];simp
 | .nd l v r,k+1,x,m=>by
  rw[Tr.set_succ]
  have ihl:=fun j=>Tr.get_set l (k / 2) x j
  have ihr:=fun j=>Tr.get_set r (k / 2) x j
  cases m with
  |zero=>cases Nat.beq (k % 2) 0<;>simp[Tr.get_zero]
  |succ j=>
   by_cases c:j=k
   ·subst c
    cases hk:Nat.beq (j % 2) 0<;>simp[Tr.get_succ,hk,ihl,ihr]
   ·have e:=fun h hc=>c ((half_inj (k:=j) (m:=k) h).1 hc)
    cases hk:Nat.beq (k % 2) 0<;>cases hj:Nat.beq (j % 2) 0<;>simp[Tr.get_succ,hj,ihl,ihr,c]
    ·exact fun h=>absurd h (e (by rw[hj,hk]))
    ·exact fun h=>absurd h (e (by rw[hj,hk]))
inductive AObj where
 |cells (vs:List Value) (elem:TypeId) (sz:Nat) (loose own:Bool)
 |map (ks vs:List Value) (bs:List Nat) (clock:Nat)
def AObj.own:AObj->Bool
 | .cells _ _ _ _ o=>o
 | .map ..=>true
structure Heap where
 mem:Tr AObj
 next:Nat
def Heap.get(H:Heap)(n:Nat):Option AObj:=H.mem.get n
def Heap.put(H:Heap)(n:Nat)(o:Option AObj):Heap:={H with mem:=H.mem.set n o}
def Heap.push(H:Heap)(o:AObj):Heap:={mem:=H.mem.set H.next (some o),next:=H.next+1}
theorem Heap.get_put(H:Heap)(n:Nat)(o:Option AObj)(m:Nat):(H.put n o).get m=if m=n then o else H.get m:=Tr.get_set _ _ _ _
theorem Heap.get_push(H:Heap)(o:AObj)(m:Nat):(H.push o).get m=if m=H.next then some o else H.get m:=Tr.get_set _ _ _ _
structure Base where
 w:World
 prot:Nat->Prop
 lt:∀i,prot i->i<w.heap.size
 z:Nat->Nat->Option Value
 tab:∀g vs,tabOf g=some vs->prot g/\∃t fz,w.heap[g]?=some (.cells vs.toArray t fz)
def objR(F:Nm)(w0:Base)(w:World)(n:Nat):AObj->Prop
 | .cells vs elem sz loose own=>∃b d o c fz,F n=some (b,d,o)/\(∃t,w.heap[b]?=some (.cells c t fz)/\(own=true->t=t))/\
  VRL F vs ((c.toList.drop o).take vs.length)/\o+vs.length+d*sz<=c.size/\
  (loose=false->d=0/\o=0/\c.size=vs.length/\fz=(0,0))/\
  (own=true->¬w0.prot b/\∀i,i<c.size->¬(fz.1<=i/\i<fz.2))
 | .map ks vs bs clock=>∃b es,F n=some (b,0,0)/\w.heap[b]?=some (.map es clock)/\VRL F ks (es.toList.map (·.key))/\VRL F vs (es.toList.map (·.val))/\es.toList.map (·.born)=bs/\¬w0.prot b
def blk(F:Nm)(n:Nat):Option Nat:=(F n).map (·.1)
theorem objR_blk{F:Nm}{w0:Base}{w:World}{n:Nat}{o:AObj}(h:objR F w0 w n o):∃b,blk F n=some b/\b<w.heap.size/\(o.own=true->¬w0.prot b):=by
 have key:∀(b:Nat) (x:Obj),w.heap[b]?=some x->b<w.heap.size:=fun b x hw=>by
  rcases Nat.lt_or_ge b w.heap.size with h|h
  ·exact h
  ·rw[Array.getElem?_eq_none h]at hw;cases hw
 cases o with
 |cells vs elem sz lo ow=>
  obtain⟨b,d,o,c,fz,hF,⟨t,hw,_⟩,_,_,_,hown⟩:=h
  exact⟨b,by simp[blk,hF],key _ _ hw,fun ho=>(hown ho).1⟩
 |map ks vs bs clock=>
  obtain⟨b,es,hF,hw,_,_,_,hp⟩:=h
  exact⟨b,by simp[blk,hF],key _ _ hw,fun _=>hp⟩
theorem objR_mono{F F':Nm}(hle:Nm.le F F'){w0:Base}{w:World}{n:Nat}{o:AObj}(h:objR F w0 w n o):objR F' w0 w n o:=by
 cases o with
 |cells vs elem sz lo ow=>
  obtain⟨b,d,o,c,fz,hF,hw,hl,rest⟩:=h
  exact⟨b,d,o,c,fz,hle.nm _ _ hF,hw,VRL.mono hle _ _ hl,rest⟩
 |map ks vs bs clock=>
  obtain⟨b,es,hF,hw,h1,h2,rest⟩:=h
  exact⟨b,es,hle.nm _ _ hF,hw,VRL.mono hle _ _ h1,VRL.mono hle _ _ h2,rest⟩
theorem objR_base{F:Nm}{B B':Base}{w:World}{n:Nat}{o:AObj}(h:objR F B w n o)(hb:o.own=true->∀b,blk F n=some b->¬B.prot b->¬B'.prot b):objR F B' w n o:=by
 cases o with
 |cells vs elem sz lo ow=>
  obtain⟨b,d,o,c,fz,hF,hw,hl,h1,h2,hown⟩:=h
  exact⟨b,d,o,c,fz,hF,hw,hl,h1,h2,fun ho=>⟨hb ho b (by simp[blk,hF]) (hown ho).1,(hown ho).2⟩⟩
 |map ks vs bs clock=>
  obtain⟨b,es,hF,hw,h1,h2,h3,hp⟩:=h
  exact⟨b,es,hF,hw,h1,h2,h3,hb rfl b (by simp[blk,hF]) hp⟩
structure Rel(G:Nat)(F:Nm)(H:Heap)(w0:Base)(w:World):Prop where
 obj:∀n o,H.get n=some o->objR F w0 w n o
 inj:∀n m o o',H.get n=some o->H.get m=some o'->n≠m->o.own=true->blk F n≠blk F m
 fresh:∀n,H.next<=n->F n=none
 glob:∀g,g<G->F g=some (g,0,0)
 base:w0.w.heap.size<=w.heap.size
 frame:∀i,w0.prot i->w.heap[i]?=w0.w.heap[i]?
 froz:∀b i v,F.z b i=some v->(∃c t fz,w.heap[b]?=some (.cells c t fz)/\c[i]?=some v/\(¬w0.prot b->∀j,j<c.size->¬(fz.1<=j/\j<fz.2)))/\∀n o,H.get n=some o->o.own=true->blk F n≠some b
 zprot:∀b i v,F.z b i=some v->w0.prot b->w0.z b i=some v
 os:w.os=w0.w.os
 out:w.output=w0.w.output
 tape:w.tape=w0.w.tape
section
variable {G:Nat} {F:Nm} {H:Heap} {w0:Base} {w:World}
theorem Rel.tabW(R:Rel G F H w0 w):TabW w:=fun g vs h=>by
 obtain⟨h1,t,fz,h2⟩:=w0.tab g vs h
 exact⟨t,fz,by rw[R.frame g h1];exact h2⟩
theorem Rel.un(R:Rel G F H w0 w)(b i:Nat)(v:Value)(hz:F.z b i=some v)(hp:¬w0.prot b)(c:Array Value)(t:TypeId)(fz:Nat×Nat)(hw:w.heap[b]?=some (.cells c t fz)):∀j,j<c.size->¬(fz.1<=j/\j<fz.2):=by
 obtain⟨⟨c',t',fz',g1,_,g3⟩,_⟩:=R.froz b i v hz
 rw[hw]at g1;simp only[Option.some.injEq,Obj.cells.injEq]at g1
 obtain⟨rfl,rfl,rfl⟩:=g1
 exact g3 hp
theorem Rel.frozB{F':Nm}{H':Heap}{w1:Base}{w':World}(R:Rel G F' H' w1 w'){b i:Nat}{v:Value}(hz:F'.z b i=some v)
  (h:¬w0.prot b->w1.prot b->∀c t fz,w'.heap[b]?=some (.cells c t fz)->∀j,j<c.size->¬(fz.1<=j/\j<fz.2)):
  ∃c t fz,w'.heap[b]?=some (.cells c t fz)/\c[i]?=some v/\(¬w0.prot b->∀j,j<c.size->¬(fz.1<=j/\j<fz.2)):=
 let ⟨⟨c,t,fz,g1,g2,g3⟩,_⟩:=R.froz b i v hz
 ⟨c,t,fz,g1,g2,fun hb=>(Classical.em (w1.prot b)).elim (fun hp=>h hb hp c t fz g1) g3⟩
theorem Rel.nolive(R:Rel G F H w0 w){n:Nat}(h:H.next<=n):H.get n=none:=by
 cases e:H.get n with
 |none=>rfl
 |some o=>
  obtain⟨b,hb,_⟩:=objR_blk (R.obj n o e)
  simp[blk,R.fresh n h]at hb
theorem Rel.draws(R:Rel G F H w0 w)(k:Nat):Rel G F H w0 {w with drawn:=k}:=
 {obj:=R.obj,inj:=R.inj,fresh:=R.fresh,glob:=R.glob,base:=R.base,frame:=R.frame,froz:=R.froz,zprot:=R.zprot,os:=R.os,out:=R.out,tape:=R.tape}
theorem Rel.cell(R:Rel G F H w0 w){a a':Addr}(ha:AR F a a')(hs:a.spot=none){vs:List Value}{elem:TypeId}{sz:Nat}{lo ow:Bool}
  (hg:H.get a.block=some (.cells vs elem sz lo ow)) {v:Value} (hv:vs[a.off]?=some v):∃v',w.cell? a'=some v'/\VR F v v':=by
 obtain⟨b,d,o,c,fz,hF,⟨t,hw,_⟩,hl,hsz,_⟩:=R.obj _ _ hg
 obtain⟨d2,o2,e,h1,h2⟩:=ha
 rw[hF]at e;simp only[Option.some.injEq,Prod.mk.injEq]at e
 obtain⟨e1,e2,e3⟩:=e
 obtain⟨v',h3,h4⟩:=hl.get hv
 refine⟨v',?_,h4⟩
 unfold World.cell?
 rw[←e1,hw,h2,hs]
 simp only[Option.isSome_none,Bool.false_eq_true,if_false]
 rw[List.getElem?_take]at h3
 split at h3
 ·rw[List.getElem?_drop]at h3
  rw[h1,←e3,Nat.add_comm,←h3];simp
 ·cases h3
def ldrop(l:List Value):Nat->List Value:=List.rec (motive:=fun _=>Nat->List Value) (fun _=>[]) (fun a b ih n=>Nat.rec (motive:=fun _=>List Value) (a::b) (fun k _=>ih k) n) l
def ltake(l:List Value):Nat->List Value:=List.rec (motive:=fun _=>Nat->List Value) (fun _=>[]) (fun a _ ih n=>Nat.rec (motive:=fun _=>List Value) [] (fun k _=>a::ih k) n) l
theorem ldrop_eq:∀(l:List Value) (n:Nat),ldrop l n=l.drop n
 | [],n=>by simp[ldrop]
 |a::l,0=>rfl
 |a::l,n+1=>by show ldrop l n=_;rw[ldrop_eq l n];rfl
theorem ltake_eq:∀(l:List Value) (n:Nat),ltake l n=l.take n
 | [],n=>by simp[ltake]
 |a::l,0=>rfl
 |a::l,n+1=>by show a::ltake l n=_;rw[ltake_eq l n];rfl
def ldropQ(l:List Value)(q:Nat):List Value:=Nat.rec (motive:=fun _=>List Value) l (fun _ ih=>ldrop ih 64) q
theorem ldropQ_eq(l:List Value):∀q:Nat,ldropQ l q=l.drop (q*64)
 | 0=>by rw[Nat.zero_mul,List.drop_zero];rfl
 |q+1=>by
  show ldrop (ldropQ l q) 64=_
  rw[ldrop_eq,ldropQ_eq l q,List.drop_drop,Nat.succ_mul]
def lcut(l:List Value)(off n:Nat):List Value:=ltake (ldrop (ldropQ l (Nat.div off 64)) (Nat.mod off 64)) n
theorem lcut_eq(l:List Value)(off n:Nat):lcut l off n=(l.drop off).take n:=by
 have e:Nat.div off 64*64+Nat.mod off 64=off:=by
  have:=Nat.div_add_mod off 64
  rw[Nat.mul_comm]at this;exact this
 rw[lcut,ltake_eq,ldrop_eq,ldropQ_eq,List.drop_drop,e]
def reaches(l:List Value)(off n:Nat):Bool:=
 match n with
 | 0=>Nat.ble off l.length
 |k+1=>Nat.beq (lcut l off (k+1)).length (k+1)
theorem reaches_le{l:List Value}{off:Nat}:∀ {n:Nat},reaches l off n=true->off+n<=l.length
 | 0,h=>Nat.le_of_ble_eq_true h
 |k+1,h=>by
  have h:=Nat.eq_of_beq_eq_true h
  rw[lcut_eq,List.length_take,List.length_drop]at h
  omega
def aCells(H:Heap)(a:Addr)(n:Nat):Option (List Value):=
 match n with
 | 0=>some []
 |_=>match a.spot with
  |some _=>none
  |none=>match H.get a.block with
   |some (.cells vs _ _ _ _)=>match reaches vs a.off n with
    |true=>some (lcut vs a.off n)
    |false=>none
   |_=>none
theorem loadCellsFrom_run(P:Program)(R:Rel G F H w0 w){a a':Addr}(ha:AR F a a')(hs:a.spot=none){vs:List Value}{elem:TypeId}{sz:Nat}{lo ow:Bool}
  (hg:H.get a.block=some (.cells vs elem sz lo ow)):∀(n i:Nat) (acc:Array Value),a.off+i+n<=vs.length->
  ∃l',(loadCellsFrom a' i n acc).run P w = .ok (acc++l'.toArray) w/\VRL F ((vs.drop (a.off+i)).take n) l'
 | 0,i,acc,_=>⟨[],by simp[loadCellsFrom],by simp[VRL]⟩
 |n+1,i,acc,hle=>by
  have hlt:a.off+i<vs.length:=by omega
  have hv:vs[(a.add i).off]?=some vs[a.off+i]:=by
   have:(a.add i).off=a.off+i:=by unfold Addr.add;split<;>simp_all
   rw[this];simp[hlt]
  have hb:(a.add i).block=a.block:=by unfold Addr.add;split<;>rfl
  have hsp:(a.add i).spot=none:=by unfold Addr.add;split<;>simp[hs]
  obtain⟨v',hc,hvr⟩:=R.cell (ha.add i) hsp (by rw[hb];exact hg) hv
  obtain⟨l',hr,hl⟩:=loadCellsFrom_run P R ha hs hg n (i+1) (acc.push v') (by omega)
  refine⟨v'::l',?_,?_⟩
  ·simp only[loadCellsFrom,Sem.run_bind,run_load,hc,Result.andThen_ok,hr]
   simp
  ·rw[List.drop_eq_getElem_cons hlt,List.take_succ_cons]
   simp only[VRL];exact⟨v',l',hvr,by simpa [Nat.add_assoc]using hl,rfl⟩
theorem Rel.loadCells(P:Program)(R:Rel G F H w0 w){a a':Addr}(ha:AR F a a'){n:Nat}{l:List Value}(h:aCells H a n=some l):
  ∃l',(loadCells a' n).run P w = .ok l'.toArray w/\VRL F l l':=by
 unfold aCells at h
 simp only[lcut_eq]at h
 split at h
 ·simp only[Option.some.injEq]at h;subst h
  exact⟨[],by simp[Go.loadCells,loadCellsFrom],by simp[VRL]⟩
 ·split at h
  ·cases h
  ·rename_i hs
   split at h
   ·rename_i vs elem sz lo ow hg
    split at h
    ·rename_i hle
     simp only[Option.some.injEq]at h;subst h
     obtain⟨l',hr,hl⟩:=loadCellsFrom_run P R ha hs hg n 0 #[] (by have:=reaches_le hle;omega)
     exact⟨l',by simpa [Go.loadCells]using hr,by simpa using hl⟩
    ·cases h
   ·cases h
def isCell:Value->Bool
 | .agg _ | .tuple _ | .chan (some _)=>false
 |_=>true
theorem isTop_cell{v:Value}(h:v.cells.toList.all Abs.isCell=true):isTop v=false:=by
 cases v<;>first|rfl|skip
 rename_i a;cases a<;>first|rfl|(simp[Value.cells,Abs.isCell]at h)
theorem VR.isCell{F:Nm}{v v':Value}(h:VR F v v')(hc:isCell v=true):v'.oneCell'=true:=by
 cases v with
 |agg cs=>simp[Abs.isCell]at hc
 |tuple cs=>simp[Abs.isCell]at hc
 |pointer a=>cases a<;>simp only[VR]at h<;>first
  |(subst h;rfl)
  |(obtain⟨_,_,e⟩:=h;subst e;rfl)
 |slice a l c=>cases a<;>simp only[VR]at h<;>first
  |(subst h;rfl)
  |(obtain⟨_,_,_,_,_,_,e⟩:=h;subst e;rfl)
 |map a=>cases a<;>simp only[VR]at h<;>first
  |(subst h;rfl)
  |(obtain⟨_,_,_,_,e⟩:=h;subst e;rfl)
 |chan a=>cases a<;>simp only[VR]at h<;>first
  |(subst h;rfl)
  |(cases hc)
 |func f x y=>simp only[VR]at h;obtain⟨_,_,_,_,e⟩:=h;subst e;rfl
 |iface t x=>rcases h.iface_cases with⟨_,_,_,e⟩ | ⟨_,⟨_,_,_,e⟩ | ⟨_,e⟩⟩<;>subst e<;>rfl
 |_=>simp only[VR]at h;subst h;rfl
theorem objR_other{F:Nm}{w0:Base}{w w':World}{n:Nat}{o:AObj}(h:objR F w0 w n o)(hb:∀b,blk F n=some b->w'.heap[b]?=w.heap[b]?):objR F w0 w' n o:=by
 cases o with
 |cells vs elem sz lo ow=>
  obtain⟨b,d,o,c,fz,hF,hw,rest⟩:=h
  exact⟨b,d,o,c,fz,hF,by rw[hb b (by simp[blk,hF])];exact hw,rest⟩
 |map ks vs bs clock=>
  obtain⟨b,es,hF,hw,rest⟩:=h
  exact⟨b,es,hF,by rw[hb b (by simp[blk,hF])];exact hw,rest⟩
theorem heap_setCell(w:World)(a:Addr)(v:Value)(i:Nat)(h:i≠a.block):(w.setCell a v).heap[i]?=w.heap[i]?:=by
 simp only[World.setCell,Array.getElem?_modify];rw[if_neg (by omega)]
theorem Rel.setCell(R:Rel G F H w0 w){a a':Addr}(ha:AR F a a')(hs:a.spot=none){vs:List Value}{elem:TypeId}{sz:Nat}{lo:Bool}
  (hg:H.get a.block=some (.cells vs elem sz lo true)) {v v':Value} (hlt:a.off<vs.length) (hv:VR F v v'):
  w.frozen? a'=false/\Rel G F (H.put a.block (some (.cells (vs.set a.off v) elem sz lo true))) w0 (w.setCell a' v'):=by
 obtain⟨b,d,o,c,fz,hF,⟨t,hw,ht⟩,hl,hsz,hex,hown⟩:=R.obj _ _ hg
 have ht:=ht rfl
 rw[ht]at hw
 obtain⟨d2,o2,e,h1,h2⟩:=ha
 rw[hF]at e;simp only[Option.some.injEq,Prod.mk.injEq]at e
 obtain⟨e1,e2,e3⟩:=e
 obtain⟨hb0,hfz⟩:=hown rfl
 have hoff:a'.off<c.size:=by omega
 have hws:(w.setCell a' v').heap[b]?=some (.cells (c.setIfInBounds a'.off v') t fz):=by
  simp only[World.setCell,Array.getElem?_modify]
  rw[if_pos e1.symm,hw];simp[h2,hs]
 refine⟨?_,?_⟩
 ·unfold World.frozen?
  rw[←e1,hw]
  have:=hfz _ hoff
  simp only[Bool.and_eq_false_iff,decide_eq_false_iff_not]
  omega
 ·constructor
  ·intro n ob hn
   rw[Heap.get_put]at hn
   split at hn
   ·rename_i hn'
    subst hn'
    simp only[Option.some.injEq]at hn;subst hn
    refine⟨b,d,o,_,fz,hF,⟨_,hws,fun _=>rfl⟩,?_,?_,?_,?_⟩
    ·have:=hl.set a.off hv
     rw[List.length_set]
     have e4:List.take vs.length (List.drop o (c.setIfInBounds a'.off v').toList)=(List.take vs.length (List.drop o c.toList)).set a.off v':=by
      rw[Array.toList_setIfInBounds,←List.take_set,h1,←e3]
      congr 1
      rw[Nat.add_comm a.off o]
      rw[List.drop_set];simp;intro hc;omega
     rw[e4];exact this
    ·simpa using hsz
    ·intro hlo;obtain⟨x1,x2,x3,x4⟩:=hex hlo;exact⟨x1,x2,by simpa using x3,x4⟩
    ·intro _;exact⟨hb0,by simpa using hfz⟩
   ·rename_i hne
    refine objR_other (R.obj n ob hn) fun b' hb'=>?_
    refine heap_setCell _ _ _ _ ?_
    have:=R.inj a.block n _ ob hg hn (Ne.symm hne) rfl
    intro hc;apply this;rw[hb'];simp[blk,hF,hc,e1]
  ·intro n m ob ob' hn hm hne how
   rw[Heap.get_put]at hn hm
   split at hn<;>split at hm
   ·omega
   ·rename_i h5 h6;subst h5
    exact R.inj _ m _ ob' hg hm hne rfl
   ·rename_i h5 h6;subst h6
    exact R.inj n _ ob _ hn hg hne how
   ·exact R.inj n m ob ob' hn hm hne how
  ·exact R.fresh
  ·exact R.glob
  ·simpa using R.base
  ·intro i hi
   rw[heap_setCell _ _ _ _ (fun e=>hb0 (by rw[e1,←e];exact hi))];exact R.frame i hi
  ·intro b' i v2 hz
   obtain⟨⟨c2,t2,fz2,g1,g2⟩,g3⟩:=R.froz b' i v2 hz
   refine⟨⟨c2,t2,fz2,?_,g2⟩,fun n ob hn how=>?_⟩
   ·rw[heap_setCell _ _ _ _ (fun e=>g3 a.block _ hg rfl (by simp[blk,hF,e,e1]))];exact g1
   ·rw[Heap.get_put]at hn
    split at hn
    ·rename_i h5;subst h5;exact g3 _ _ hg rfl
    ·exact g3 n ob hn how
  ·exact R.zprot
  ·exact R.os
  ·exact R.out
  ·exact R.tape
def Nm.with(F:Nm)(n:Nat)(x:Nat×Nat×Nat):Nm:=⟨fun m=>if m=n then some x else F m,F.z⟩
theorem Nm.le_with{F:Nm}{n:Nat}(h:F n=none)(x:Nat×Nat×Nat):Nm.le F (F.with n x):=by
 refine⟨?_,zle_refl _⟩
 intro m y e;simp only[Nm.with];split
 ·rename_i h2;subst h2;rw[h]at e;cases e
 ·exact e
theorem Nm.with_self(F:Nm)(n:Nat)(x:Nat×Nat×Nat):F.with n x n=some x:=by simp[Nm.with]
theorem Rel.pushObj(R:Rel G F H w0 w){new:AObj}{x:Obj}{d:Nat}(hnew:Nm.le F (F.with H.next (w.heap.size,d,0))->objR (F.with H.next (w.heap.size,d,0)) w0 {w with heap:=w.heap.push x} H.next new):
  Nm.le F (F.with H.next (w.heap.size,d,0))/\Rel G (F.with H.next (w.heap.size,d,0)) (H.push new) w0 {w with heap:=w.heap.push x}:=by
 have hle:Nm.le F (F.with H.next (w.heap.size,d,0)):=Nm.le_with (R.fresh _ (Nat.le_refl _)) _
 refine⟨hle,?_⟩
 have hlt:∀n o,H.get n=some o->∃b,blk F n=some b/\b<w.heap.size/\blk (F.with H.next (w.heap.size,d,0)) n=some b:=by
  intro n o hn
  obtain⟨b,h1,h2,_⟩:=objR_blk (R.obj n o hn)
  refine⟨b,h1,h2,?_⟩
  cases hF:F n with
  |none=>simp[blk,hF]at h1
  |some x=>simp only[blk,hF,Option.map_some]at h1;simp only[blk,hle.nm _ _ hF,Option.map_some];exact h1
 constructor
 ·intro n ob hn
  rw[Heap.get_push]at hn
  split at hn
  ·rename_i hn';subst hn'
   simp only[Option.some.injEq]at hn;subst hn
   exact hnew hle
  ·rename_i hne
   have h1:=R.obj n ob hn
   obtain⟨b,hb1,hb2,hb3⟩:=hlt n ob hn
   refine objR_mono hle (objR_other h1 fun b' hb'=>?_)
   rw[hb1]at hb';simp only[Option.some.injEq]at hb';subst hb'
   simp only[Array.getElem?_push];rw[if_neg (by omega)]
 ·intro n m ob ob' hn hm hne how
  rw[Heap.get_push]at hn hm
  split at hn<;>split at hm
  ·omega
  ·rename_i h5 h6;subst h5
   obtain⟨b,hb1,hb2,hb3⟩:=hlt m ob' hm
   rw[hb3];simp[blk,Nm.with_self];omega
  ·rename_i h5 h6;subst h6
   obtain⟨b,hb1,hb2,hb3⟩:=hlt n ob hn
   rw[hb3];simp[blk,Nm.with_self];omega
  ·obtain⟨b,hb1,hb2,hb3⟩:=hlt n ob hn
   obtain⟨b',hb1',hb2',hb3'⟩:=hlt m ob' hm
   rw[hb3,hb3',←hb1,←hb1'];exact R.inj n m ob ob' hn hm hne how
 ·intro n hn
  simp only[Heap.push]at hn
  simp only[Nm.with];rw[if_neg (by omega)];exact R.fresh n (by omega)
 ·intro g hg
  exact hle.nm _ _ (R.glob g hg)
 ·simp only[Array.size_push];have:=R.base;omega
 ·intro i hi
  have h0:=R.base
  have h1:=w0.lt i hi
  simp only[Array.getElem?_push];rw[if_neg (by omega)];exact R.frame i hi
 ·intro b' i v2 hz
  obtain⟨⟨c2,t2,fz2,g1,g2⟩,g3⟩:=R.froz b' i v2 hz
  have hb':b' < w.heap.size:=by
   rcases Nat.lt_or_ge b' w.heap.size with h|h
   ·exact h
   ·rw[Array.getElem?_eq_none h]at g1;cases g1
  refine⟨⟨c2,t2,fz2,?_,g2⟩,fun n ob hn how=>?_⟩
  ·simp only[Array.getElem?_push];rw[if_neg (by omega)];exact g1
  ·rw[Heap.get_push]at hn
   split at hn
   ·rename_i h5;subst h5;simp[blk,Nm.with_self];omega
   ·obtain⟨b,hb1,hb2,hb3⟩:=hlt n ob hn
    rw[hb3,←hb1];exact g3 n ob hn how
 ·exact R.zprot
 ·exact R.os
 ·exact R.out
 ·exact R.tape
theorem Rel.push(R:Rel G F H w0 w){vs:List Value}{c:Array Value}{elem:TypeId}{sz d:Nat}{lo:Bool}(fz:Nat×Nat)
  (hv:VRL F vs (c.toList.take vs.length)) (hsz:vs.length+d*sz<=c.size) (hlo:lo=false->d=0/\c.size=vs.length/\fz=(0,0))
  (hfz:∀i,i<c.size->¬(fz.1<=i/\i<fz.2)):
  Nm.le F (F.with H.next (w.heap.size,d,0))/\Rel G (F.with H.next (w.heap.size,d,0)) (H.push (.cells vs elem sz lo true)) w0 {w with heap:=w.heap.push (.cells c elem fz)}:=by
 refine R.pushObj fun hle=>?_
 refine⟨w.heap.size,d,0,c,fz,Nm.with_self _ _ _,⟨elem,by simp,fun _=>rfl⟩,?_,by omega,fun h=>?_,fun _=>⟨fun hp=>by have h1:=w0.lt _ hp;have h2:=R.base;omega,hfz⟩⟩
 ·simpa using VRL.mono hle _ _ hv
 ·obtain⟨x1,x2,x3⟩:=hlo h;exact⟨x1,rfl,x2,x3⟩
theorem Rel.pushMap(R:Rel G F H w0 w):Nm.le F (F.with H.next (w.heap.size,0,0))/\Rel G (F.with H.next (w.heap.size,0,0)) (H.push (.map [] [] [] 0)) w0 {w with heap:=w.heap.push (.map #[] 0)}:=by
 refine R.pushObj fun hle=>?_
 exact⟨w.heap.size,#[],Nm.with_self _ _ _,by simp,by simp[VRL],by simp[VRL],rfl,fun hp=>by have h1:=w0.lt _ hp;have h2:=R.base;omega⟩
theorem Rel.setMap(R:Rel G F H w0 w){r b d o:Nat}(hF:F r=some (b,d,o)){ks vs:List Value}{bs:List Nat}{clock:Nat}(hg:H.get r=some (.map ks vs bs clock)){es':Array MapEntry}{clock':Nat}{ks' vs':List Value}{bs':List Nat}
  (hk:VRL F ks' (es'.toList.map (·.key))) (hv:VRL F vs' (es'.toList.map (·.val))) (hbo:es'.toList.map (·.born)=bs'):
  Rel G F (H.put r (some (.map ks' vs' bs' clock'))) w0 {w with heap:=w.heap.setIfInBounds b (.map es' clock')}:=by
 obtain⟨b2,es,hF2,hw,_,_,_,hp⟩:=R.obj _ _ hg
 rw[hF]at hF2;simp only[Option.some.injEq,Prod.mk.injEq]at hF2
 obtain⟨e1,e2,e3⟩:=hF2
 subst e1;subst e2;subst e3
 have hlt:b<w.heap.size:=by
  rcases Nat.lt_or_ge b w.heap.size with h|h
  ·exact h
  ·rw[Array.getElem?_eq_none h]at hw;cases hw
 have hne:∀i,i≠b->(w.heap.setIfInBounds b (.map es' clock'))[i]?=w.heap[i]?:=fun i h=>by rw[Array.getElem?_setIfInBounds];rw[if_neg (by omega)]
 constructor
 ·intro n ob hn
  rw[Heap.get_put]at hn
  split at hn
  ·rename_i hn'
   subst hn'
   simp only[Option.some.injEq]at hn;subst hn
   exact⟨b,es',hF,by simp[hlt],hk,hv,hbo,hp⟩
  ·rename_i hne'
   refine objR_other (R.obj n ob hn) fun b' hb'=>hne b' fun hc=>?_
   have:=R.inj r n _ ob hg hn (Ne.symm hne') rfl
   apply this;rw[hb'];simp[blk,hF,hc]
 ·intro n m ob ob' hn hm hne' how
  rw[Heap.get_put]at hn hm
  split at hn<;>split at hm
  ·omega
  ·rename_i h5 h6;subst h5
   exact R.inj _ m _ ob' hg hm hne' rfl
  ·rename_i h5 h6;subst h6
   exact R.inj n _ ob _ hn hg hne' how
  ·exact R.inj n m ob ob' hn hm hne' how
 ·exact R.fresh
 ·exact R.glob
 ·simpa using R.base
 ·intro i hi
  rw[←R.frame i hi]
  exact hne i fun e=>hp (e ▸ hi)
 ·intro b' i v2 hz
  obtain⟨⟨c2,t2,fz2,g1,g2⟩,g3⟩:=R.froz b' i v2 hz
  refine⟨⟨c2,t2,fz2,?_,g2⟩,fun n ob hn how=>?_⟩
  ·rw[←g1];exact hne b' fun e=>g3 r _ hg rfl (by simp[blk,hF,e])
  ·rw[Heap.get_put]at hn
   split at hn
   ·rename_i h5;subst h5;exact g3 _ _ hg rfl
   ·exact g3 n ob hn how
 ·exact R.zprot
 ·exact R.os
 ·exact R.out
 ·exact R.tape
end
end
end Go.Abs
namespace Go.Abs
open Go
noncomputable section
def pureSem{α:Type}(P:Program):Sem α->Option α
 | .pure a=>some a
 | .program k=>pureSem P (k P)
 | .mark _ k=>pureSem P k
 |_=>none
theorem pureSem_run{α:Type}(P:Program):∀(s:Sem α) (a:α),pureSem P s=some a->∀w,s.run P w = .ok a w
 | .pure x,a,h,w=>by simp only[pureSem,Option.some.injEq]at h;subst h;rfl
 | .program k,a,h,w=>by simp only[pureSem]at h;simp only[Sem.run];exact pureSem_run P (k P) a h w
 | .mark m k,a,h,w=>by simp only[pureSem]at h;simp only[Sem.run];exact pureSem_run P k a h w
 | .load ..,a,h,w=>by simp[pureSem]at h
 | .store ..,a,h,w=>by simp[pureSem]at h
 | .new ..,a,h,w=>by simp[pureSem]at h
 | .shape ..,a,h,w=>by simp[pureSem]at h
 | .freeze ..,a,h,w=>by simp[pureSem]at h
 | .frozen ..,a,h,w=>by simp[pureSem]at h
 | .getObj ..,a,h,w=>by simp[pureSem]at h
 | .setObj ..,a,h,w=>by simp[pureSem]at h
 | .choose ..,a,h,w=>by simp[pureSem]at h
 | .sys ..,a,h,w=>by simp[pureSem]at h
 | .halt ..,a,h,w=>by simp[pureSem]at h
def OpOK(P:Program)(G:Nat)(F:Nm)(w0:Base)(w:World)(s:Sem Value)(v:Value)(H':Heap):Prop:=
 ∃F' v' w',Nm.le F F'/\s.run P w = .ok v' w'/\VR F' v v'/\Rel G F' H' w0 w'
section
variable {P:Program} {G:Nat} {F:Nm} {H:Heap} {w0:Base} {w:World}
theorem OpOK.pure(R:Rel G F H w0 w){s:Sem Value}{v:Value}(h:pureSem P s=some v)(hp:plain v=true):OpOK P G F w0 w s v H:=
 ⟨F,v,w,Nm.le_refl F,pureSem_run P s v h w,(VR.plain_eq _ _ hp).2 rfl,R⟩
theorem OpOK.same(R:Rel G F H w0 w){s:Sem Value}{v v':Value}(h:s.run P w = .ok v' w)(hv:VR F v v'):OpOK P G F w0 w s v H:=
 ⟨F,v',w,Nm.le_refl F,h,hv,R⟩
@[simp] theorem run_underlying{t:TypeId}{d:TypeDesc}(h:P.underlying t=some d)(w:World):(underlying t).run P w = .ok d w:=by
 simp[underlying,h]
@[simp] theorem run_typeInfo{t:TypeId}{i:TypeInfo}(h:P.info? t=some i)(w:World):(typeInfo t).run P w = .ok i w:=by
 simp[typeInfo,h]
theorem run_sizeOf{t:TypeId}{i:TypeInfo}(h:P.info? t=some i)(w:World):(sizeOf t).run P w = .ok i.size w:=by
 simp[sizeOf,run_typeInfo h]
def aSize(P:Program)(t:TypeId):Option Nat:=(P.info? t).map (·.size)
theorem run_sizeOf'{t:TypeId}{n:Nat}(h:aSize P t=some n)(w:World):(sizeOf t).run P w = .ok n w:=by
 unfold aSize at h
 cases e:P.info? t with
 |none=>rw[e]at h;cases h
 |some i=>rw[e]at h;simp only[Option.map_some,Option.some.injEq]at h;rw[run_sizeOf e,h]
def aZero(P:Program)(t:TypeId):Option Value:=(P.info? t).bind (·.zero)
theorem run_zeroValue{t:TypeId}{z:Value}(h:aZero P t=some z)(w:World):(zeroValue t).run P w = .ok z w:=by
 unfold aZero at h
 cases e:P.info? t with
 |none=>rw[e]at h;cases h
 |some i=>rw[e]at h;simp only[Option.bind_some]at h;simp[zeroValue,run_typeInfo e,h]
def isAggD:TypeDesc->Bool
 | .struct _ | .array _ _=>true
 |_=>false
theorem run_isAgg{t:TypeId}{d:TypeDesc}(h:P.underlying t=some d)(w:World):(isAgg t).run P w = .ok (isAggD d) w:=by
 unfold isAgg;simp only[Sem.run_bind,run_underlying h,Result.andThen_ok]
 cases d<;>rfl
def aCell1(H:Heap)(a:Addr):Option Value:=
 match a.spot with
 |some _=>none
 |none=>match H.get a.block with
  |some (.cells vs _ _ _ _)=>vs[a.off]?
  |_=>none
def aLoad(P:Program)(H:Heap)(t:TypeId)(a:Addr):Option Value:=
 match P.underlying t with
 |none=>none
 |some d=>match isAggD d with
  |true=>match aSize P t with
   |none=>none
   |some n=>match aCells H a n with
    |none=>none
    |some l=>some (.agg l.toArray)
  |false=>aCell1 H a
theorem aLoad_ok(R:Rel G F H w0 w){t:TypeId}{a a':Addr}(ha:AR F a a'){v:Value}(h:aLoad P H t a=some v):
  ∃v',(loadVar t a').run P w = .ok v' w/\VR F v v':=by
 unfold aLoad at h
 split at h
 ·cases h
 ·rename_i d hd
  split at h
  ·rename_i hagg
   split at h
   ·cases h
   ·rename_i n hn
    split at h
    ·cases h
    ·rename_i l hl
     simp only[Option.some.injEq]at h;subst h
     obtain⟨l',hr,hv⟩:=R.loadCells P ha hl
     refine⟨.agg l'.toArray,?_,?_⟩
     ·simp[loadVar,run_isAgg hd,hagg,run_sizeOf' hn,hr]
     ·simp only[VR];exact⟨_,VRA.ofL (by simpa using hv),rfl⟩
  ·rename_i hagg
   unfold aCell1 at h
   split at h
   ·cases h
   ·rename_i hs
    split at h
    ·rename_i vs elem sz lo ow hg
     obtain⟨v',hc,hv⟩:=R.cell ha hs hg h
     refine⟨v',?_,hv⟩
     simp only[loadVar,Sem.run_bind,run_isAgg hd,hagg,Result.andThen_ok,Bool.false_eq_true,if_false,run_load,hc]
    ·cases h
def setAll(vs:List Value)(i:Nat):List Value->List Value
 | []=>vs
 |v::r=>setAll (vs.set i v) (i+1) r
theorem setAll_length(vs:List Value)(i:Nat)(l:List Value):(setAll vs i l).length=vs.length:=by
 induction l generalizing vs i with
 |nil=>rfl
 |cons v r ih=>simp[setAll,ih]
def over:List Value->List Value->List Value
 | [],_=>[]
 |v::vs,[]=>v::vs
 |_::vs,x::l=>x::over vs l
def splice:List Value->Nat->List Value->List Value
 | [],_,_=>[]
 |v::vs,0,l=>over (v::vs) l
 |v::vs,i+1,l=>v::splice vs i l
theorem setAll_nil:∀(i:Nat) (l:List Value),setAll [] i l=[]
 |_,[]=>rfl
 |i,_::l=>by rw[setAll];exact setAll_nil (i+1) l
theorem setAll_cons:∀(l:List Value) (v:Value) (vs:List Value) (i:Nat),setAll (v::vs) (i+1) l=v::setAll vs i l
 | [],_,_,_=>rfl
 |x::l,v,vs,i=>by rw[setAll,setAll,List.set_cons_succ,setAll_cons l]
theorem over_eq:∀(vs l:List Value),over vs l=setAll vs 0 l
 | [],l=>by rw[setAll_nil];cases l<;>rfl
 |v::vs,[]=>rfl
 |v::vs,x::l=>by rw[over,setAll,List.set_cons_zero,setAll_cons,over_eq vs l]
theorem splice_eq:∀(vs:List Value) (i:Nat) (l:List Value),splice vs i l=setAll vs i l
 | [],i,l=>by rw[setAll_nil];rfl
 |v::vs,0,l=>over_eq (v::vs) l
 |v::vs,i+1,l=>by rw[splice,setAll_cons,splice_eq vs i l]
def aStore(P:Program)(H:Heap)(t:TypeId)(a:Addr)(v:Value):Option Heap:=
 match aSize P t,a.spot,H.get a.block with
 |some n,none,some (.cells vs elem sz lo true)=>
  match Nat.beq v.cells.toList.length n&&v.cells.toList.all isCell&&reaches vs a.off n with
  |true=>some (H.put a.block (some (.cells (splice vs a.off v.cells.toList) elem sz lo true)))
  |false=>none
 |_,_,_=>none
theorem Heap.put_put(H:Heap)(n:Nat)(o o':Option AObj)(m:Nat):((H.put n o).put n o').get m=(H.put n o').get m:=by
 simp only[Heap.get_put];split<;>rfl
theorem Rel.congr {H':Heap} (R:Rel G F H w0 w) (hg:∀n,H'.get n=H.get n) (hn:H'.next=H.next):Rel G F H' w0 w:=
  { obj:=fun n o h=>R.obj n o (by rw[←hg];exact h),inj:=fun n m o o' h h'=>R.inj n m o o' (by rw[←hg];exact h) (by rw[←hg];exact h'),
    fresh:=fun n h=>R.fresh n (by rw[←hn];exact h),glob:=R.glob,base:=R.base,frame:=R.frame,froz:=fun b i v h=>⟨(R.froz b i v h).1,fun n o h1 h2=>(R.froz b i v h).2 n o (by rw[←hg];exact h1) h2⟩,zprot:=R.zprot,os:=R.os,out:=R.out,tape:=R.tape}
theorem storeCells_ok:∀(l l':List Value) (i:Nat) {H:Heap} {w:World} (_:Rel G F H w0 w) {a a':Addr} (_:AR F a a') (_:a.spot=none)
  {vs:List Value} {elem:TypeId} {sz:Nat} {lo:Bool} (_:H.get a.block=some (.cells vs elem sz lo true)) (_:l.all isCell=true) (_:a.off+i+l.length<=vs.length) (_:VRL F l l'),
  ∃w',(storeCells a' l' i).run P w = .ok () w'/\Rel G F (H.put a.block (some (.cells (setAll vs (a.off+i) l) elem sz lo true))) w0 w'
 | [],l',i,H,w,R,a,a',ha,hs,vs,elem,sz,lo,hg,_,_,hl=>by
  simp only[VRL]at hl;subst hl
  refine⟨w,by simp[storeCells],R.congr (fun n=>?_) rfl⟩
  rw[Heap.get_put];split
  ·rename_i h;subst h;simp[setAll,hg]
  ·rfl
 |v::l,l',i,H,w,R,a,a',ha,hs,vs,elem,sz,lo,hg,hc,hle,hl=>by
  simp only[VRL]at hl;obtain⟨v',r',h1,h2,e⟩:=hl;subst e
  simp only[List.all_cons,Bool.and_eq_true]at hc
  simp only[List.length_cons]at hle
  have hoff:(a.add i).off=a.off+i:=by unfold Addr.add;split<;>simp_all
  have hb:(a.add i).block=a.block:=by unfold Addr.add;split<;>rfl
  have hsp:(a.add i).spot=none:=by unfold Addr.add;split<;>simp[hs]
  have hoff':vs[(a.add i).off]?=some vs[a.off+i]:=by rw[hoff];simp
  obtain⟨x',hcell,_⟩:=R.cell (ha.add i) hsp (by rw[hb];exact hg) hoff'
  obtain⟨hf,R2⟩:=R.setCell (ha.add i) hsp (by rw[hb];exact hg) (by rw[hoff];omega) h1
  rw[hb,hoff]at R2
  obtain⟨w',hr,R3⟩:=storeCells_ok l r' (i+1) R2 ha hs (by rw[Heap.get_put];simp;exact⟨rfl,rfl,rfl,rfl⟩) hc.2 (by rw[List.length_set];omega) h2
  refine⟨w',?_,R3.congr (fun n=>?_) rfl⟩
  ·simp only[storeCells,Sem.run_bind,run_store P w _ _ _ (h1.isCell hc.1),hcell,hf,Bool.false_eq_true,if_false,Result.andThen_ok,hr]
  ·rw[Heap.put_put];simp only[Heap.get_put,setAll,Nat.add_assoc]
theorem aStore_ok(R:Rel G F H w0 w){t:TypeId}{a a':Addr}(ha:AR F a a'){v v':Value}(hv:VR F v v'){H':Heap}(h:aStore P H t a v=some H'):
  ∃w',(storeVar t a' v').run P w = .ok () w'/\Rel G F H' w0 w':=by
 unfold aStore at h;simp only[splice_eq]at h
 split at h
 ·rename_i n vs elem sz lo hn hs hg
  split at h
  ·rename_i hc
   simp only[Option.some.injEq]at h;subst h
   simp only[Bool.and_eq_true]at hc
   obtain⟨⟨h1,h2⟩,h3⟩:=hc
   have h1:=Nat.eq_of_beq_eq_true h1
   have h3:=reaches_le h3
   obtain⟨w',hr,R'⟩:=storeCells_ok (P:=P) v.cells.toList v'.cells.toList 0 R ha hs hg h2 (by omega) (hv.cells (isTop_cell h2))
   refine⟨w',?_,by simpa using R'⟩
   have hl:=(hv.cells (isTop_cell h2)).length
   simp only[Array.length_toList]at hl h1
   simp[storeVar,run_sizeOf' hn,hl,h1,hr]
  ·cases h
 ·cases h
def aNew(P:Program)(H:Heap)(t:TypeId)(l:List Value):Option (Value×Heap):=
 match aSize P t with
 |some n=>some (.pointer (some ⟨H.next,0,none⟩),H.push (.cells l t n false true))
 |none=>none
theorem aNew_ok(R:Rel G F H w0 w){t:TypeId}{l:List Value}{c:Array Value}(hl:VRL F l c.toList){r:Value×Heap}(h:aNew P H t l=some r):
  OpOK P G F w0 w (do pure (.pointer (some (←newRow t c)))) r.1 r.2:=by
 unfold aNew at h
 split at h
 ·rename_i n hn
  simp only[Option.some.injEq]at h;subst h
  have hlen:=hl.length
  simp only[Array.length_toList]at hlen
  obtain⟨hle,R'⟩:=R.push (vs:=l) (c:=c) (elem:=t) (sz:=n) (d:=0) (lo:=false) (0,0)
   (by rw[List.take_of_length_le (by simp[hlen])];exact hl) (by simp[hlen]) (fun _=>⟨rfl,hlen,rfl⟩) (by intro i _;simp)
  refine⟨_,.pointer (some ⟨w.heap.size,0,none⟩),_,hle,by simp[newRow],?_,R'⟩
  simp only[VR];exact⟨⟨w.heap.size,0,none⟩,⟨0,0,Nm.with_self _ _ _,rfl,rfl⟩,rfl⟩
 ·cases h
def aPart(P:Program)(t:TypeId)(cs:List Value)(off:Nat):Option Value:=
 match P.underlying t with
 |none=>none
 |some d=>match isAggD d with
  |true=>match aSize P t with
   |none=>none
   |some n=>some (.agg ((cs.drop off).take n).toArray)
  |false=>cs[off]?
theorem aPart_ok{t:TypeId}{cs cs':Array Value}(hc:VRA F cs cs'){off:Nat}{v:Value}(h:aPart P t cs.toList off=some v)(w:World):
  ∃v',(part t cs' off).run P w = .ok v' w/\VR F v v':=by
 unfold aPart at h
 split at h
 ·cases h
 ·rename_i d hd
  split at h
  ·rename_i hagg
   split at h
   ·cases h
   ·rename_i n hn
    simp only[Option.some.injEq]at h;subst h
    refine⟨.agg (cs'.extract off (off+n)),by simp[part,run_isAgg hd,hagg,run_sizeOf' hn],?_⟩
    simp only[VR]
    refine⟨_,VRA.ofL ?_,rfl⟩
    have:=(hc.toL.drop off).take n
    have e:(cs'.extract off (off+n)).toList=List.take n (List.drop off cs'.toList):=by
     simp[List.extract_eq_take_drop]
    rw[e];exact this
  ·rename_i hagg
   obtain⟨v',h1,h2⟩:=hc.toL.get h
   have h1':cs'[off]?=some v':=by simpa using h1
   exact⟨v',by simp[part,run_isAgg hd,hagg,h1'],h2⟩
theorem Rel.zcell(R:Rel G F H w0 w){b i:Nat}{v:Value}(h:F.z b i=some v):w.cell? ⟨b,i,none⟩=some v:=by
 obtain⟨⟨c,t,fz,h1,h2⟩,_⟩:=R.froz b i v h
 simp[World.cell?,h1,h2]
theorem Rel.zloadFrom(P:Program)(R:Rel G F H w0 w){b off:Nat}:∀(n i:Nat) (l:List Value) (acc:Array Value),(∀j,i<=j->j<i+n->∃v,l[j-i]?=some v/\F.z b (off+j)=some v)->
  (loadCellsFrom ⟨b,off,none⟩ i n acc).run P w = .ok (acc++(l.take n).toArray) w
 | 0,i,l,acc,_=>by simp[loadCellsFrom]
 |n+1,i,l,acc,h=>by
  obtain⟨v,h1,h2⟩:=h i (Nat.le_refl _) (by omega)
  cases l with
  |nil=>simp at h1
  |cons x l=>
   simp at h1;subst h1
   have ha:(Addr.add ⟨b,off,none⟩ i)=⟨b,off+i,none⟩:=by unfold Addr.add;split<;>simp_all
   have ih:=R.zloadFrom P n (i+1) l (acc.push x) (fun j h3 h4=>by
    obtain⟨v,g1,g2⟩:=h j (by omega) (by omega)
    refine⟨v,?_,g2⟩
    rw[show j-i=(j-(i+1))+1 from by omega,List.getElem?_cons_succ]at g1;exact g1)
   simp only[loadCellsFrom,Sem.run_bind,run_load,ha,R.zcell h2,Result.andThen_ok,ih]
   simp
theorem Rel.zload(P:Program)(R:Rel G F H w0 w){b off:Nat}{l:List Value}(h:zRow F.z b off l){n:Nat}(hn:n<=l.length):(Go.loadCells ⟨b,off,none⟩ n).run P w = .ok (l.take n).toArray w:=by
 have:=R.zloadFrom P n 0 l #[] (fun j h1 h2=>⟨l[j],by simp,h j _ (by simp)⟩)
 simpa [Go.loadCells]using this
end
end
end Go.Abs
