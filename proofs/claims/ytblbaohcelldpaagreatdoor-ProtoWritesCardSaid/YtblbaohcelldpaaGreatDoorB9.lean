/- . -/
import Derived.Test.YtblbaohcelldpaaGreatDoorM2
import Derived.RowKit3
import Derived.OpenShut
set_option linter.all false
namespace Go.Abs
open Go
noncomputable section
section
variable {P:Program} {G:Nat} {w0:Base} {orc:Orc}
theorem nX(hP:D8 P G=true)(horc:∀B,ACJ P G B orc):∀(n:Nat) (B:Base) (c:Cmd) (r:Res),ev P orc n c=some r->Holds P G B c r
 | 0,_,_,_,h=>by cases h
 |n+1,B,c,r,h=>by
  have hall:=nX hP horc n
  have hrec:=hall B
  have h:step P orc (ev P orc n) c=some r:=h
  cases c with
  |code D c s=>exact NT hrec hP h
  |loop D c s=>exact ZK hrec h
  |ops D ops k todo s=>exact OA hrec hP h
  |draw ops s=>
   simp only[step,H6,ALb]at h
   split at h
   ·rename_i s' hs'
    simp only[Option.some.injEq]at h;subst h
    exact AGo hall hP hs'
   ·cases h
  |call f args hh=>exact qY hrec hP (horc B) h
  |callD f args u hh=>exact ZJ hrec hP h
  |leaves fn ts ds u hh=>exact R5 hrec hP h
def AOn(w:World)(b i:Nat):Option Value:=match w.heap[b]? with
 |some (.cells c _ _)=>c[i]?
 |_=>none
def AGu(w:World)(ht:AD6 w):Base:=⟨w,(· < w.heap.size),fun _ h=>h,AOn w,fun g vs h=>by
 obtain⟨t,fz,h2⟩:=ht g vs h
 exact⟨(Array.getElem?_eq_some_iff.1 h2).1,t,fz,h2⟩⟩
theorem AHZ(B:Base):ACJ P G B (fun _=>none):=fun f g args h e h' hf=>by cases hf
def vR:Option Res->Bool
 |some (.en (.returned (.bool true)) _ _)=>true
 |_=>false
end
end
end Go.Abs
namespace Go.Abs
open Go
noncomputable section
mutual
def F7(τ:Nat->Nat):Value->Value
 | .pointer (some a) => .pointer (some {a with block:=τ a.block})
 | .slice (some a) l c => .slice (some {a with block:=τ a.block}) l c
 | .map (some r) => .map (some (τ r))
 | .func fn x y => .func fn (YU τ x) (YU τ y)
 | .iface t v=>match ABR t with
  |true => .iface t v
  |false => .iface t (F7 τ v)
 | .agg c => .agg (YU τ c)
 | .tuple c => .tuple (YU τ c)
 |v=>v
def YU(τ:Nat->Nat):Array Value->Array Value
 |⟨l⟩=>⟨FE τ l⟩
def FE(τ:Nat->Nat):List Value->List Value
 | []=>[]
 |v::l=>F7 τ v::FE τ l
end
mutual
theorem VT{F:Nm}{τ:Nat->Nat}:∀(v v':Value),VR F (F7 τ v) v'↔VR (F.re τ) v v'
 | .bool b,v'=>by simp[VR,F7]
 | .int k n,v'=>by simp[VR,F7]
 | .float k n,v'=>by simp[VR,F7]
 | .complex k n m,v'=>by simp[VR,F7]
 | .string s,v'=>by simp[VR,F7]
 | .pointer none,v'=>by simp[VR,F7]
 | .pointer (some a),v'=>by simp only[VR,F7];rfl
 | .slice none l c,v'=>by simp[VR,F7]
 | .slice (some a) l c,v'=>by simp only[VR,F7];rfl
 | .map none,v'=>by simp[VR,F7]
 | .map (some r),v'=>by simp only[VR,F7];rfl
 | .chan none,v'=>by simp[VR,F7]
 | .chan (some r),v'=>by simp[VR,F7]
 | .func fn x y,v'=>by simp only[VR,F7];simp only[iB x,iB y]
 | .nilFunc,v'=>by simp[VR,F7]
 | .iface t v,v'=>by
  simp only[F7]
  split
  ·rename_i h
   simp only[VR,Nm.re_on h];rfl
  ·rename_i h
   have hn:kC (F7 τ v)=kC v:=by
    cases v with
    |slice a l c=>cases a<;>cases l<;>rfl
    |pointer a=>cases a<;>rfl
    |map a=>cases a<;>rfl
    |iface t x=>simp only[F7];split<;>rfl
    |_=>rfl
   simp only[VR,Nm.re_on' h,hn,VT v];rfl
 | .nilIface,v'=>by simp[VR,F7]
 | .agg c,v'=>by simp only[VR,F7];simp only[iB c]
 | .tuple c,v'=>by simp only[VR,F7];simp only[iB c]
theorem iB{F:Nm}{τ:Nat->Nat}:∀(c c':Array Value),VRA F (YU τ c) c'↔VRA (F.re τ) c c'
 |⟨l⟩,c'=>by simp only[VRA,YU];exact O3 l _
theorem O3{F:Nm}{τ:Nat->Nat}:∀(l l':List Value),VRL F (FE τ l) l'↔VRL (F.re τ) l l'
 | [],l'=>by simp[VRL,FE]
 |v::l,l'=>by simp only[VRL,FE];simp only[VT v,O3 l]
end
theorem U2(τ:Nat->Nat):∀l:List Value,(FE τ l).length=l.length
 | []=>rfl
 |v::l=>by simp[FE,U2 τ l]
def G8(τ:Nat->Nat):AA->AA
 | .cells vs elem sz lo ow => .cells (FE τ vs) elem sz lo ow
 | .map ks vs bs clock => .map (FE τ ks) (FE τ vs) bs clock
theorem GK(τ:Nat->Nat)(o:AA):(G8 τ o).own=o.own:=by cases o<;>rfl
theorem TH{F:Nm}{τ:Nat->Nat}{B:Base}{w:World}{n:Nat}{o:AA}(h:PH F B w (τ n) (G8 τ o)):PH (F.re τ) B w n o:=by
 cases o with
 |cells vs elem sz lo ow=>
  obtain⟨b,d,s,c,fz,h1,h2,h3,h4,h5,h6⟩:=h
  rw[U2]at h3 h4 h5
  exact⟨b,d,s,c,fz,h1,h2,(O3 _ _).1 h3,h4,h5,h6⟩
 |map ks vs bs clock=>
  obtain⟨b,es,h1,h2,h3,h4,h5⟩:=h
  exact⟨b,es,h1,h2,(O3 _ _).1 h3,(O3 _ _).1 h4,h5⟩
theorem qM{F:Nm}{τ:Nat->Nat}{B:Base}{w:World}{n:Nat}{o:AA}(h:PH (F.re τ) B w n o):PH F B w (τ n) (G8 τ o):=by
 cases o with
 |cells vs elem sz lo ow=>
  obtain⟨b,d,s,c,fz,h1,h2,h3,h4,h5,h6⟩:=h
  refine⟨b,d,s,c,fz,h1,h2,?_,?_,?_,h6⟩<;>rw[U2]
  ·exact(O3 _ _).2 h3
  ·exact h4
  ·exact h5
 |map ks vs bs clock=>
  obtain⟨b,es,h1,h2,h3,h4,h5⟩:=h
  exact⟨b,es,h1,h2,(O3 _ _).2 h3,(O3 _ _).2 h4,h5⟩
def mH(τ:Nat->Nat):Ending->Ending
 | .returned v => .returned (F7 τ v)
 | .panicked c => .panicked (c.map fun e=>{e with v:=F7 τ e.v})
 | .outgrown => .outgrown
theorem fQ{F:Nm}{τ:Nat->Nat}:∀(l l':List PanicEntry),ChR F (l.map fun e=>{e with v:=F7 τ e.v}) l'↔ChR (F.re τ) l l'
 | [],l'=>Iff.rfl
 |e::l,l'=>by
  simp only[List.map_cons,ChR]
  constructor
  ·rintro ⟨v',r',h1,h2,h3⟩;exact⟨v',r',(VT _ _).1 h1,(fQ l r').1 h2,h3⟩
  ·rintro ⟨v',r',h1,h2,h3⟩;exact⟨v',r',(VT _ _).2 h1,(fQ l r').2 h2,h3⟩
theorem ACv{F:Nm}{τ:Nat->Nat}(e e':Ending):EnR F (mH τ e) e'↔EnR (F.re τ) e e':=by
 cases e with
 |returned v=>
  simp only[mH,EnR]
  constructor
  ·rintro ⟨v',h1,h2⟩;exact⟨v',(VT _ _).1 h1,h2⟩
  ·rintro ⟨v',h1,h2⟩;exact⟨v',(VT _ _).2 h1,h2⟩
 |panicked c=>
  simp only[mH,EnR]
  constructor
  ·rintro ⟨v',h1,h2⟩;exact⟨v',(fQ _ _).1 h1,h2⟩
  ·rintro ⟨v',h1,h2⟩;exact⟨v',(fQ _ _).2 h1,h2⟩
 |outgrown=>exact Iff.rfl
def dJ:List (Nat×AA)->Tr AA
 | [] => .lf
 |x::l=>(dJ l).set x.1 (some x.2)
theorem j5:∀(gl:List (Nat×AA)) (m:Nat) (o:AA),(dJ gl).get m=some o->(m,o)∈gl
 | [],m,o,h=>by rw[dJ,Tr.get_lf]at h;cases h
 |x::l,m,o,h=>by
  rw[dJ,Tr.get_set]at h
  split at h
  ·rename_i e;simp only[Option.some.injEq]at h;subst e;subst h;exact List.mem_cons_self ..
  ·exact List.mem_cons_of_mem _ (j5 l m o h)
def hOf(G:Nat)(gl:List (Nat×AA))(l:List (Option AA)):Heap:=⟨putRow G l (dJ gl),G+l.length⟩
where putRow:Nat->List (Option AA)->Tr AA->Tr AA
 |_,[],t=>t
 |n,o::l,t=>putRow (n+1) l (t.set n o)
theorem kU:∀(l:List (Option AA)) (n:Nat) (t:Tr AA) (m:Nat),(hOf.putRow n l t).get m=if n<=m/\m<n+l.length then(l[m-n]?).getD none else t.get m
 | [],n,t,m=>by simp only[hOf.putRow,List.length_nil];rw[if_neg (by omega)]
 |o::l,n,t,m=>by
  simp only[hOf.putRow,kU l (n+1),Tr.get_set,List.length_cons]
  by_cases e:m=n
  ·subst e;rw[if_neg (by omega),if_pos rfl,if_pos (by omega)];simp
  ·by_cases h:n+1<=m/\m<n+1+l.length
   ·rw[if_pos h,if_pos (by omega)]
    have:m-n=(m-(n+1))+1:=by omega
    rw[this,List.getElem?_cons_succ]
   ·rw[if_neg h,if_neg e,if_neg (by omega)]
theorem J8(G:Nat)(gl:List (Nat×AA))(l:List (Option AA))(m:Nat):(hOf G gl l).get m=if G<=m/\m<G+l.length then(l[m-G]?).getD none else(dJ gl).get m:=kU _ _ _ _
structure Ctr where
 f:FuncId
 args:List Value
 gl:List (Nat×AA)
 ins:List AA
 e:Ending
 upd:List (Option AA)
 new:List AA
def AGj(P:Program)(G:Nat)(c:Ctr):Prop:=c.upd.length=c.ins.length/\c.new.all (·.own)=true/\
 ∀B,BM P G B c.f c.args (hOf G c.gl (c.ins.map some)) c.e (hOf G [] (c.upd++c.new.map some))
def tau(G:Nat)(ns:List Nat)(next:Nat)(n:Nat):Nat:=
 match Nat.blt n G with
 |true=>n
 |false=>match ns[n-G]? with
  |some m=>m
  |none=>next+(n-G-ns.length)
theorem Q6{G:Nat}{ns:List Nat}{next n:Nat}(h:n<G):tau G ns next n=n:=by
 unfold tau;rw[show Nat.blt n G=true from Nat.ble_eq_true_of_le h]
theorem nS{n G:Nat}(h:G<=n):Nat.blt n G=false:=by
 cases hb:Nat.blt n G with
 |false=>rfl
 |true=>have:n<G:=Nat.le_of_ble_eq_true hb;omega
theorem MZ{G:Nat}{ns:List Nat}{next n m:Nat}(h:G<=n)(hm:ns[n-G]?=some m):tau G ns next n=m:=by
 unfold tau;rw[nS h];simp only[hm]
theorem YC{G:Nat}{ns:List Nat}{next n:Nat}(h:G+ns.length<=n):tau G ns next n=next+(n-G-ns.length):=by
 unfold tau;rw[nS (by omega),List.getElem?_eq_none (by omega)]
def IW(H:Heap):List Nat->List (Option AA)->Heap
 |n::ns,o::os=>IW (H.put n o) ns os
 |_,_=>H
def MJ(H:Heap):List AA->Heap
 | []=>H
 |o::os=>MJ (H.push o) os
theorem NS:∀(ns:List Nat) (os:List (Option AA)) (H:Heap),(IW H ns os).next=H.next
 | [],_,_=>rfl
 |_::_,[],_=>rfl
 |n::ns,o::os,H=>by simp only[IW];rw[NS ns os];rfl
theorem LV:∀(ns:List Nat) (os:List (Option AA)) (H:Heap) (m:Nat),ns.length=os.length->ns.Nodup->
  ((∀i:Nat,ns[i]?=some m->(IW H ns os).get m=(os[i]?).getD none)/\(m ∉ ns->(IW H ns os).get m=H.get m))
 | [],os,H,m,_,_=>⟨fun i hi=>by simp at hi,fun _=>rfl⟩
 |n::ns,[],H,m,hl,_=>by simp at hl
 |n::ns,o::os,H,m,hl,hnd=>by
  simp only[List.nodup_cons]at hnd
  obtain⟨h1,h2⟩:=LV ns os (H.put n o) m (by simpa using hl) hnd.2
  simp only[IW]
  constructor
  ·intro i hi
   cases i with
   |zero=>
    simp only[List.getElem?_cons_zero,Option.some.injEq]at hi;subst hi
    rw[h2 hnd.1,Heap.get_put,if_pos rfl];rfl
   |succ i=>
    simp only[List.getElem?_cons_succ]at hi
    rw[h1 i hi];rfl
  ·intro hm
   simp only[List.mem_cons,not_or]at hm
   rw[h2 hm.2,Heap.get_put,if_neg hm.1]
theorem UX:∀(os:List AA) (H:Heap),(MJ H os).next=H.next+os.length
 | [],H=>rfl
 |o::os,H=>by simp only[MJ];rw[UX os];simp only[Heap.push,List.length_cons];omega
theorem WW:∀(os:List AA) (H:Heap) (m:Nat),(MJ H os).get m=if H.next<=m/\m<H.next+os.length then os[m-H.next]? else H.get m
 | [],H,m=>by simp only[MJ,List.length_nil];rw[if_neg (by omega)]
 |o::os,H,m=>by
  simp only[MJ,WW os (H.push o),Heap.get_push,List.length_cons]
  have hn:(H.push o).next=H.next+1:=rfl
  rw[hn]
  by_cases e:m=H.next
  ·subst e;rw[if_neg (by omega),if_pos rfl,if_pos (by omega)];simp
  ·by_cases h:H.next+1<=m/\m<H.next+1+os.length
   ·rw[if_pos h,if_pos (by omega)]
    have:m-H.next=(m-(H.next+1))+1:=by omega
    rw[this,List.getElem?_cons_succ]
   ·rw[if_neg h,if_neg e,if_neg (by omega)]
section
variable {P:Program} {G:Nat}
theorem Rel.next_le{F:Nm}{H:Heap}{B:Base}{w:World}(R:Rel G F H B w):G<=H.next:=by
 rcases Nat.lt_or_ge H.next G with h|h
 ·have h1:=R.glob H.next h
  rw[R.fresh H.next (Nat.le_refl _)]at h1;cases h1
 ·exact h
theorem Rel.live_lt{F:Nm}{H:Heap}{B:Base}{w:World}(R:Rel G F H B w){n:Nat}{o:AA}(h:H.get n=some o):n<H.next:=by
 rcases Nat.lt_or_ge n H.next with h2|h2
 ·exact h2
 ·rw[R.nolive h2]at h;cases h
theorem Rel.blk_lt{F:Nm}{H:Heap}{B:Base}{w:World}(R:Rel G F H B w){n:Nat}{o:AA}(h:H.get n=some o):∃b,blk F n=some b/\b<w.heap.size/\(o.own=true->¬B.prot b):=QU (R.obj n o h)
theorem AGj.call{c:Ctr}(hv:AGj P G c){H:Heap}{ns:List Nat}(hl:ns.length=c.ins.length)(hnd:ns.Nodup)
  (hobj:∀(i:Nat) (o:AA),c.ins[i]?=some o->∃n:Nat,ns[i]?=some n/\G<=n/\H.get n=some (G8 (tau G ns H.next) o))
  (hgl:∀x∈c.gl,x.1<G/\x.2.own=false/\H.get x.1=some x.2/\G8 (tau G ns H.next) x.2=x.2) (B:Base):
  BM P G B c.f (FE (tau G ns H.next) c.args) H (mH (tau G ns H.next) c.e)
   (MJ (IW H ns (c.upd.map (·.map (G8 (tau G ns H.next))))) (c.new.map (G8 (tau G ns H.next)))):=by
 obtain⟨hu,hnew,hcall⟩:=hv
 intro F w args' R ha
 have hGn:=R.next_le
 generalize hτ:tau G ns H.next=τ at*
 have hτlt:∀n,n<G->τ n=n:=fun n h=>by rw[←hτ];exact Q6 h
 have hτin:∀n m:Nat,G<=n->ns[n-G]?=some m->τ n=m:=fun n m h h2=>by rw[←hτ];exact MZ h h2
 have hτnew:∀n,G+ns.length<=n->τ n=H.next+(n-G-ns.length):=fun n h=>by rw[←hτ];exact YC h
 -- a name that is handed in
 have hin:∀n,G<=n->n<G+ns.length->∃o m,c.ins[n-G]?=some o/\ns[n-G]?=some m/\τ n=m/\H.get m=some (G8 τ o):=by
  intro n h1 h2
  have h3:n-G<c.ins.length:=by omega
  obtain⟨m,g1,g2,g3⟩:=hobj (n-G) c.ins[n-G] (by simp[h3])
  exact⟨_,m,by simp[h3],g1,hτin n m h1 g1,g3⟩
 -- what must stay
 let B2:Base:=⟨w,fun i=>i<w.heap.size/\∀n o,n∈ns->H.get n=some o->o.own=true->blk F n≠some i,fun i h=>h.1,F.z,fun g vs hg=>by
  obtain⟨h1,t,fz,h2⟩:=B.tab g vs hg
  refine⟨⟨Nat.lt_of_lt_of_le (B.lt g h1) R.base,fun n o _ ho hown hblk=>?_⟩,t,fz,by rw[R.frame g h1];exact h2⟩
  obtain⟨b',g1,_,g3⟩:=R.blk_lt ho
  rw[hblk]at g1;simp only[Option.some.injEq]at g1;subst g1
  exact g3 hown h1⟩
 have hins:∀n o,(hOf G c.gl (c.ins.map some)).get n=some o->(G<=n/\n<G+ns.length/\c.ins[n-G]?=some o)∨(n<G/\o.own=false/\H.get n=some o/\G8 τ o=o):=by
  intro n o h
  rw[J8]at h
  split at h
  ·rename_i hg
   rw[List.getElem?_map]at h
   cases hc:c.ins[n-G]? with
   |none=>rw[hc]at h;cases h
   |some o'=>
    rw[hc]at h;simp only[Option.map_some,Option.getD_some,Option.some.injEq]at h;subst h
    have:=(List.getElem?_eq_some_iff.1 hc).1
    exact .inl ⟨hg.1,by omega,rfl⟩
  ·exact .inr (hgl _ (j5 _ _ _ h))
 have R2:Rel G (F.re τ) (hOf G c.gl (c.ins.map some)) B2 w:=by
  constructor
  ·intro n o h
   rcases hins n o h with⟨h1,h2,h3⟩ | ⟨h1,h2,h3,h4⟩
   case inr=>
    have h5:=R.obj n o h3
    have h6:PH F B2 w (τ n) (G8 τ o):=by
     rw[h4,hτlt n h1]
     exact OZ h5 fun ho=>by rw[h2]at ho;cases ho
    exact TH h6
   obtain⟨o',m,g1,g2,g3,g4⟩:=hin n h1 h2
   rw[h3]at g1;simp only[Option.some.injEq]at g1;subst g1
   have h5:=R.obj m _ g4
   have hm:m∈ns:=List.mem_of_getElem? g2
   have h6:PH F B2 w m (G8 τ o):=by
    exact OZ h5 fun ho b hb _ hp=>hp.2 m _ hm g4 ho hb
   rw[←g3]at h6
   exact TH h6
  ·intro n m o o' hn hm hne ho
   rcases hins n o hn with⟨h1,h2,h3⟩ | ⟨h1,h2,h3,h4⟩
   case inr=>rw[h2]at ho;cases ho
   rcases hins m o' hm with⟨h1',h2',h3'⟩ | ⟨h1',h2',h3',h4'⟩
   case inr=>
    obtain⟨p,a,g1,g2,g3,g4⟩:=hin n h1 h2
    rw[h3]at g1;simp only[Option.some.injEq]at g1;subst g1
    obtain⟨q,e1,e2,e3⟩:=hobj (n-G) _ h3
    rw[g2]at e1;simp only[Option.some.injEq]at e1;subst e1
    have:=R.inj a m _ _ g4 h3' (by omega) (by rw[GK];exact ho)
    simp only[blk,Nm.re,g3,hτlt m h1']at this ⊢;exact this
   obtain⟨p,a,g1,g2,g3,g4⟩:=hin n h1 h2
   obtain⟨p',a',g1',g2',g3',g4'⟩:=hin m h1' h2'
   rw[h3]at g1;simp only[Option.some.injEq]at g1;subst g1
   have hne':a≠a':=by
    intro e;subst e
    have h4:n-G<ns.length:=by omega
    have:=(List.getElem?_inj h4 hnd).1 (g2.trans g2'.symm)
    omega
   have:=R.inj a a' _ _ g4 g4' hne' (by rw[GK];exact ho)
   simp only[blk,Nm.re,g3,g3']at this ⊢;exact this
  ·intro n hn
   have hn:G+(c.ins.map some).length<=n:=hn
   rw[List.length_map]at hn
   simp only[Nm.re,hτnew n (by omega)]
   exact R.fresh _ (by omega)
  ·intro g hg
   simp only[Nm.re,hτlt g hg];exact R.glob g hg
  ·exact Nat.le_refl _
  ·intro i _;rfl
  ·intro b i v hz
   refine⟨R.frozB hz fun hn hp=>absurd ⟨Nat.lt_of_lt_of_le (B.lt b hp) R.base,fun n o _ ho hown hblk=>by
    obtain⟨b',g1,_,g3⟩:=R.blk_lt ho
    rw[hblk]at g1;simp only[Option.some.injEq]at g1;subst g1
    exact g3 hown hp⟩ hn,fun n o hn ho=>?_⟩
   rcases hins n o hn with⟨h1,h2,h3⟩ | ⟨h1,h2,h3,h4⟩
   case inr=>rw[h2]at ho;cases ho
   obtain⟨p,a,g1,g2,g3,g4⟩:=hin n h1 h2
   rw[h3]at g1;simp only[Option.some.injEq]at g1;subst g1
   have:=(R.froz b i v hz).2 a _ g4 (by rw[GK];exact ho)
   simp only[blk,Nm.re,g3]at this ⊢;exact this
  ·intro b i v hz _;exact hz
  ·rfl
  ·rfl
  ·rfl
 refine(hcall B2 _ w args' R2 ((O3 _ _).1 ha)).mono fun e1 w' ⟨F3,hle,he,R3⟩=>?_
 -- the names behind the call
 let F4:Nm:=⟨fun n=>if H.next<=n then F3 (G+ns.length+(n-H.next))else F n,F3.z⟩
 have hF4:∀n,F3 n=F4 (τ n):=by
  intro n
  rcases Nat.lt_or_ge n G with h|h
  ·have h1:F4 (τ n)=F n:=by simp only[F4,hτlt n h];rw[if_neg (by omega)]
   rw[h1]
   have:=R.glob n h
   rw[this];exact hle.nm n _ (by simp only[Nm.re,hτlt n h];exact this)
  ·rcases Nat.lt_or_ge n (G+ns.length)with h2|h2
   ·obtain⟨o,m,g1,g2,g3,g4⟩:=hin n h h2
    have hm:=R.live_lt g4
    have h1:F4 (τ n)=F m:=by simp only[F4,g3];rw[if_neg (by omega)]
    rw[h1]
    obtain⟨b,hb,_⟩:=R.blk_lt g4
    cases hF:F m with
    |none=>simp[blk,hF]at hb
    |some x=>exact hle.nm n x (by simp only[Nm.re,g3];exact hF)
   ·have h1:F4 (τ n)=F3 (G+ns.length+(H.next+(n-G-ns.length)-H.next)):=by
     simp only[F4,hτnew n h2];rw[if_pos (by omega)]
    rw[h1];congr 1;omega
 have hF3:F3=F4.re τ:=Nm.ext_of (fun n=>hF4 n) rfl
 have hleF:Nm.le F F4:=by
  refine⟨?_,hle.zs⟩
  intro n x hx
  have:n<H.next:=by
   rcases Nat.lt_or_ge n H.next with h|h
   ·exact h
   ·rw[R.fresh n h]at hx;cases hx
  simp only[F4];rw[if_neg (by omega)];exact hx
 refine⟨F4,hleF,(ACv _ _).2 (by rw[←hF3];exact he),?_⟩
 rw[hF3]at R3
 -- what the heap holds
 have hul:ns.length=(c.upd.map (·.map (G8 τ))).length:=by rw[List.length_map];omega
 have hcases:∀n o,(MJ (IW H ns (c.upd.map (·.map (G8 τ)))) (c.new.map (G8 τ))).get n=some o->
   (∃k p,n=τ k/\o=G8 τ p/\(hOf G [] (c.upd++c.new.map some)).get k=some p/\((k<G+ns.length/\n∈ns)∨(G+ns.length<=k/\H.next<=n/\p.own=true)))∨(n ∉ ns/\n<H.next/\H.get n=some o):=by
  intro n o h
  rw[WW,NS]at h
  split at h
  ·rename_i hr
   left
   rw[List.getElem?_map]at h
   rw[List.length_map]at hr
   cases hc:c.new[n-H.next]? with
   |none=>rw[hc]at h;cases h
   |some p=>
    rw[hc]at h;simp only[Option.map_some,Option.some.injEq]at h
    refine⟨G+ns.length+(n-H.next),p,?_,h.symm,?_,.inr ⟨by omega,hr.1,?_⟩⟩
    ·rw[hτnew _ (by omega)];omega
    ·rw[J8,if_pos (by rw[List.length_append,List.length_map];omega),List.getElem?_append_right (by omega),List.getElem?_map]
     have:G+ns.length+(n-H.next)-G-c.upd.length=n-H.next:=by omega
     rw[this,hc];rfl
    ·exact List.all_eq_true.1 hnew p (List.mem_of_getElem? hc)
  ·rename_i hr
   by_cases hm:n∈ns
   ·left
    obtain⟨i,hi⟩:=List.getElem?_of_mem hm
    have hil:i<ns.length:=(List.getElem?_eq_some_iff.1 hi).1
    rw[(LV ns _ H n hul hnd).1 i hi,List.getElem?_map]at h
    have hiu:i<c.upd.length:=by omega
    rw[List.getElem?_eq_getElem hiu]at h
    simp only[Option.map_some,Option.getD_some,Option.map_eq_some_iff]at h
    obtain⟨p,hp,e⟩:=h
    refine⟨G+i,p,(hτin (G+i) n (by omega) (by rw[Nat.add_sub_cancel_left];exact hi)).symm,e.symm,?_,.inl ⟨by omega,hm⟩⟩
    rw[J8,if_pos (by rw[List.length_append,List.length_map];omega),Nat.add_sub_cancel_left,List.getElem?_append_left hiu,List.getElem?_eq_getElem hiu]
    simpa using hp
   ·right
    rw[(LV ns _ H n hul hnd).2 hm]at h
    exact⟨hm,R.live_lt h,h⟩
 -- whose block an object of the callee's may write
 have hprot:∀b,¬B2.prot b->w.heap.size<=b∨∃n o,n∈ns/\H.get n=some o/\o.own=true/\blk F n=some b:=by
  intro b hb
  rcases Nat.lt_or_ge b w.heap.size with h|h
  ·right
   refine Classical.byContradiction fun hc=>hb ⟨h,fun n o hn ho hown hblk=>hc ⟨n,o,hn,ho,hown,hblk⟩⟩
  ·exact .inl h
 have hnprot:∀b,¬B2.prot b->¬B.prot b:=by
  intro b hb hB
  rcases hprot b hb with h|⟨n,o,h1,h2,h3,h4⟩
  ·have:=B.lt b hB;have:=R.base;omega
  ·obtain⟨b',g1,_,g3⟩:=R.blk_lt h2
   rw[h4]at g1;simp only[Option.some.injEq]at g1;subst g1
   exact g3 h3 hB
 have hother:∀n o,n ∉ ns->H.get n=some o->∀b,blk F n=some b->B2.prot b:=by
  intro n o hn ho b hb
  obtain⟨b',g1,g2,_⟩:=R.blk_lt ho
  rw[hb]at g1;simp only[Option.some.injEq]at g1;subst g1
  refine⟨g2,fun m o' hm ho' hown hblk=>?_⟩
  have:=R.inj m n o' o ho' ho (fun e=>hn (e ▸ hm)) hown
  exact this (by rw[hblk,hb])
 have hF4old:∀n,n<H.next->F4 n=F n:=fun n h=>by simp only[F4];rw[if_neg (by omega)]
 constructor
 ·intro n o h
  rcases hcases n o h with⟨k,p,e1,e2,e3,e4⟩ | ⟨h1,h2,h3⟩
  ·subst e1;subst e2
   have h5:=R3.obj k p e3
   have h6:PH (F4.re τ) B w' k p:=by
    exact OZ h5 fun _ b _ hb=>hnprot b hb
   exact qM h6
  ·have h5:=R.obj n o h3
   have h6:PH F B w' n o:=LQ h5 fun b hb=>R3.frame b (hother n o h1 h3 b hb)
   exact NR hleF h6
 ·intro n m o o' hn hm hne ho
  have hA:∀n o,(∃k p,n=τ k/\o=G8 τ p/\(hOf G [] (c.upd++c.new.map some)).get k=some p)->∃b,blk F4 n=some b/\(o.own=true->¬B2.prot b):=by
   rintro n o ⟨k,p,e1,e2,e3⟩
   subst e1;subst e2
   obtain⟨b,g1,_,g3⟩:=R3.blk_lt e3
   exact⟨b,g1,fun h=>g3 (by rw[GK]at h;exact h)⟩
  rcases hcases n o hn with⟨k,p,e1,e2,e3,e4⟩ | ⟨h1,h2,h3⟩<;>rcases hcases m o' hm with⟨k',p',e1',e2',e3',e4'⟩ | ⟨h1',h2',h3'⟩
  ·subst e1;subst e2;subst e1'
   exact R3.inj k k' p p' e3 e3' (fun e=>hne (by rw[e])) (by rw[GK]at ho;exact ho)
  ·obtain⟨b,hb,hown⟩:=hA n o ⟨k,p,e1,e2,e3⟩
   obtain⟨b',hb',hlt',_⟩:=R.blk_lt h3'
   intro e
   rw[hb]at e
   simp only[blk,hF4old m h2']at e
   have e':blk F m=some b:=e.symm
   exact hown ho (hother m o' h1' h3' b e')
  ·obtain⟨b',hb',hown'⟩:=hA m o' ⟨k',p',e1',e2',e3'⟩
   intro e
   simp only[blk,hF4old n h2]at e
   have e':blk F n=some b':=by rw[←hb'];exact e
   -- n is ours to write; m is one of the callee's
   rcases e4' with⟨_,hmem⟩ | ⟨_,_,hown2⟩
   ·obtain⟨i,hi⟩:=List.getElem?_of_mem hmem
    have hil:i<c.ins.length:=by have:=(List.getElem?_eq_some_iff.1 hi).1;omega
    obtain⟨q,g1,_,g3⟩:=hobj i c.ins[i] (by simp[hil])
    rw[hi]at g1;simp only[Option.some.injEq]at g1;subst g1
    have:=R.inj n m o _ h3 g3 hne ho
    apply this
    have hmlt:=R.live_lt g3
    simp only[blk,hF4old m hmlt]at hb'
    rw[e'];exact hb'.symm
   ·have:=hother n o h1 h3 b' e'
    exact hown' (by rw[e2',GK];exact hown2) this
  ·have:=R.inj n m o o' h3 h3' hne ho
   simp only[blk,hF4old n h2,hF4old m h2']at this ⊢;exact this
 ·intro n hn
  rw[UX,NS,List.length_map]at hn
  simp only[F4];rw[if_pos (by omega)]
  have:=R3.fresh (G+ns.length+(n-H.next)) (by show G+(c.upd++c.new.map some).length<=_;rw[List.length_append,List.length_map];omega)
  have this:F4 (τ (G+ns.length+(n-H.next)))=none:=this
  rw[←hF4]at this;exact this
 ·intro g hg
  exact hleF.nm _ _ (R.glob g hg)
 ·have:=R.base;have:=R3.base
  have e:B2.w.heap.size=w.heap.size:=rfl
  omega
 ·intro i hi
  have h1:=B.lt i hi
  have h2:=R.base
  have h3:B2.prot i:=⟨by omega,fun n o _ ho hown hblk=>by
   obtain⟨b,g1,_,g3⟩:=R.blk_lt ho
   rw[hblk]at g1;simp only[Option.some.injEq]at g1;subst g1
   exact g3 hown hi⟩
  rw[R3.frame i h3];exact R.frame i hi
 ·intro b i v hz
  refine⟨R3.frozB hz fun hn hp c t fz hw=>R.un b i v (R3.zprot b i v hz hp) hn c t fz (by rw[←R3.frame b hp];exact hw),fun n o hn ho=>?_⟩
  rcases hcases n o hn with⟨k,p,e1,e2,e3,e4⟩ | ⟨h1,h2,h3⟩
  ·subst e1;subst e2
   exact(R3.froz b i v hz).2 k p e3 (by rw[GK]at ho;exact ho)
  ·intro e
   simp only[blk,hF4old n h2]at e
   have hp:=hother n o h1 h3 b e
   exact(R.froz b i v (R3.zprot b i v hz hp)).2 n o h3 ho e
 ·intro b i v hz hp
  have h1:=B.lt b hp
  have h2:=R.base
  have h3:B2.prot b:=⟨by omega,fun n o _ ho hown hblk=>by
   obtain⟨b',g1,_,g3⟩:=R.blk_lt ho
   rw[hblk]at g1;simp only[Option.some.injEq]at g1;subst g1
   exact g3 hown hp⟩
  exact R.zprot b i v (R3.zprot b i v hz h3) hp
 ·rw[R3.os];exact R.os
 ·rw[R3.out];exact R.out
 ·rw[R3.tape];exact R.tape
end
end
end Go.Abs
namespace Go.Abs
open Go
noncomputable section
def AOp:List Nat->List Nat->Bool
 | [],[]=>true
 |a::l,b::l'=>Nat.beq a b&&AOp l l'
 |_,_=>false
def AOq:AA->AA->Bool
 | .cells vs e s l o,.cells vs' e' s' l' o'=>Nat.beq e e'&&(Nat.beq s s'&&((l==l')&&((o==o')&&sO vs vs')))
 | .map ks vs bs c,.map ks' vs' bs' c'=>Nat.beq c c'&&(AOp bs bs'&&(sO ks ks'&&sO vs vs'))
 |_,_=>false
def AOo:List PanicEntry->List PanicEntry->Bool
 | [],[]=>true
 |e::l,e'::l'=>RF e.v e'.v&&((e.recovered==e'.recovered)&&((e.goexit==e'.goexit)&&AOo l l'))
 |_,_=>false
def ARd:Ending->Ending->Bool
 | .returned v,.returned v'=>RF v v'
 | .panicked c,.panicked c'=>AOo c c'
 |_,_=>false
def APq(n:Nat):List Nat->Bool
 | []=>false
 |m::l=>Nat.beq n m||APq n l
def nodupB:List Nat->Bool
 | []=>true
 |n::l=>!APq n l&&nodupB l
def atB(h0:Heap)(n:Nat)(o:AA):Bool:=match h0.get n with
 |some o'=>AOq o o'
 |none=>false
def ALa(τ:Nat->Nat)(v v':Value):Bool:=match v with
 | .int k n=>match v' with
  | .int k' n'=>decide (k=k')&&decide (n=n')
  |_=>false
 | .slice none a b=>match v' with
  | .slice none a' b'=>Nat.beq a a'&&Nat.beq b b'
  |_=>false
 | .bool b=>match v' with
  | .bool b'=>b==b'
  |_=>false
 |v=>RF (F7 τ v) v'
def lR(τ:Nat->Nat)(l:List Value):List Value->Bool:=
 List.rec (motive:=fun _=>List Value->Bool) (fun m=>match m with
  | []=>true
  |_::_=>false) (fun a _ ih m=>match m with
  | []=>false
  |b::r=>match ALa τ a b with
   |true=>ih r
   |false=>false) l
def AOA(τ:Nat->Nat)(v v':Value):Bool:=match v with
 | .agg ⟨l⟩=>match v' with
  | .agg ⟨l'⟩=>lR τ l l'
  |_=>false
 |v=>ALa τ v v'
def l2(τ:Nat->Nat):List Value->List Value->Bool
 | [],[]=>true
 |a::l,b::r=>AOA τ a b&&l2 τ l r
 |_,_=>false
def oR(τ:Nat->Nat)(o o':AA):Bool:=match o with
 | .cells vs e s l w=>match o' with
  | .cells vs' e' s' l' w'=>Nat.beq e e'&&(Nat.beq s s'&&((l==l')&&((w==w')&&lR τ vs vs')))
  |_=>false
 |o=>AOq (G8 τ o) o'
def atR(h0:Heap)(τ:Nat->Nat)(n:Nat)(o:AA):Bool:=match h0.get n with
 |some o'=>oR τ o o'
 |none=>false
def AI4(τ:Nat->Nat)(h0:Heap):Nat->List (Option AA)->Bool
 |_,[]=>true
 |n,none::l=>AI4 τ h0 (n+1) l
 |n,some o::l=>atR h0 τ n o&&AI4 τ h0 (n+1) l
def ALG(τ:Nat->Nat)(h0:Heap)(lo:Nat):List AA->List Nat->Bool
 | [],[]=>true
 |o::l,m::ms=>o.own&&(Nat.ble lo m&&(atR h0 τ m o&&ALG τ h0 lo l ms))
 |_,_=>false
section
variable {P:Program} {G:Nat} {orc:Orc}
theorem Rel.pick{F:Nm}{H H':Heap}{B:Base}{w:World}(R:Rel G F H B w)(τ:Nat->Nat)(hobj:∀n o,H'.get n=some o->H.get (τ n)=some (G8 τ o))
  (hinj:∀n m o o',H'.get n=some o->H'.get m=some o'->τ n=τ m->n=m) (hfresh:∀n,H'.next<=n->H.next<=τ n) (hglob:∀g,g<G->τ g=g):
  Rel G (F.re τ) H' B w:=by
 constructor
 ·intro n o h;exact TH (R.obj _ _ (hobj n o h))
 ·intro n m o o' hn hm hne ho
  exact R.inj (τ n) (τ m) _ _ (hobj n o hn) (hobj m o' hm) (fun e=>hne (hinj n m o o' hn hm e)) (by rw[GK];exact ho)
 ·intro n hn;exact R.fresh _ (hfresh n hn)
 ·intro g hg;simp only[Nm.re,hglob g hg];exact R.glob g hg
 ·exact R.base
 ·exact R.frame
 ·intro b i v hz
  exact⟨(R.froz b i v hz).1,fun n o hn ho=>(R.froz b i v hz).2 _ _ (hobj n o hn) (by rw[GK];exact ho)⟩
 ·exact R.zprot
 ·exact R.os
 ·exact R.out
 ·exact R.tape
def madeOf(G:Nat)(c:Ctr)(ms:List Nat)(h0:Heap)(e0:Ending):Bool:=
 ARd (mH (tau (G+c.ins.length) ms h0.next) c.e) e0&&(AI4 (tau (G+c.ins.length) ms h0.next) h0 G c.upd&&
  (ALG (tau (G+c.ins.length) ms h0.next) h0 (G+c.ins.length) c.new ms&&nodupB ms))
def made(P:Program)(G:Nat)(orc:Orc)(N:Nat)(c:Ctr)(ms:List Nat):Bool:=
 Nat.beq c.upd.length c.ins.length&&match ev P orc N (.call c.f c.args (hOf G c.gl (c.ins.map some)))with
  |some (.en e0 _ h0)=>madeOf G c ms h0 e0
  |_=>false
def ALD(G:Nat)(τ:Nat->Nat)(h:Heap):List AA->List Nat->Bool
 | [],[]=>true
 |o::l,n::ns=>Nat.ble G n&&(atR h τ n o&&ALD G τ h l ns)
 |_,_=>false
mutual
theorem ZL{τ:Nat->Nat}:∀v:Value,plain v=true->F7 τ v=v
 | .bool b,_=>rfl
 | .int k n,_=>rfl
 | .float k n,_=>rfl
 | .complex k n m,_=>rfl
 | .string s,_=>rfl
 | .pointer none,_=>rfl
 | .pointer (some a),h=>by simp[plain]at h
 | .slice none l c,_=>rfl
 | .slice (some a) l c,h=>by simp[plain]at h
 | .map none,_=>rfl
 | .map (some r),h=>by simp[plain]at h
 | .chan none,_=>rfl
 | .chan (some r),h=>by simp[plain]at h
 | .func fn x y,h=>by
  simp only[plain,Bool.and_eq_true]at h
  rw[F7,R7 x h.1,R7 y h.2]
 | .nilFunc,_=>rfl
 | .iface t v,h=>by
  simp only[plain]at h
  split at h
  ·cases h
  ·rw[F7,ZL v h];split<;>rfl
 | .nilIface,_=>rfl
 | .agg c,h=>by
  simp only[plain]at h
  rw[F7,R7 c h]
 | .tuple c,h=>by
  simp only[plain]at h
  rw[F7,R7 c h]
theorem R7{τ:Nat->Nat}:∀c:Array Value,PU c=true->YU τ c=c
 |⟨l⟩,h=>by simp only[PU]at h;rw[YU,fI l h]
theorem fI{τ:Nat->Nat}:∀l:List Value,DV l=true->FE τ l=l
 | [],_=>rfl
 |v::l,h=>by
  simp only[DV,Bool.and_eq_true]at h
  rw[FE,ZL v h.1,fI l h.2]
end
mutual
def AOG(G:Nat):Value->Bool
 | .pointer (some a)=>Nat.blt a.block G
 | .slice (some a) _ _=>Nat.blt a.block G
 | .map (some r)=>Nat.blt r G
 | .func _ x y=>AJJ G x&&AJJ G y
 | .iface _ v=>AOG G v
 | .agg c=>AJJ G c
 | .tuple c=>AJJ G c
 |_=>true
def AJJ(G:Nat):Array Value->Bool
 |⟨l⟩=>AGL G l
def AGL(G:Nat):List Value->Bool
 | []=>true
 |v::l=>AOG G v&&AGL G l
end
def ARH(G:Nat):AA->Bool
 | .cells vs _ _ _ _=>AGL G vs
 | .map ks vs _ _=>AGL G ks&&AGL G vs
def APe(G:Nat)(h:Heap):List (Nat×AA)->Bool
 | []=>true
 |x::l=>Nat.blt x.1 G&&(!x.2.own&&(atB h x.1 x.2&&(ARH G x.2&&APe G h l)))
def fits(G:Nat)(c:Ctr)(args:List Value)(h:Heap)(ns:List Nat)(τ:Nat->Nat):Bool:=
 l2 τ c.args args&&(ALD G τ h c.ins ns&&(nodupB ns&&APe G h c.gl))
end
end
end Go.Abs
namespace Go.Abs
open Go
noncomputable section
def vs(l:List Nat):Value := .string ⟨(l.map UInt8.ofNat).toArray⟩
def va(l:List Value):Value := .agg l.toArray
def re(v:Value):Ending := .returned v
end
end Go.Abs
namespace Go.Abs
open Go
noncomputable section
section
variable {P:Program} {G:Nat}
end
end
end Go.Abs
namespace Go.Abs
open Go
theorem vG{P:Program}{w:World}{t e:TypeId}{n:Nat}{k:IntKind}(hu:P.underlying t=some (.array n e))(he:P.underlying e=some (.int k))(hc:P.cellsOf e=1)
  {l:List Int} (hn:n=l.length) (hct:P.cellsOf t=n) {H:Type} {enc:TypeId×Value->H} {base:Nat} {spare:Nat->Bool} {held:Bool} {fuel:Nat} {cs:List Value} {p:List MemPlace}
  (hd:DataW.trod enc P w base spare held fuel t cs=some (.agg (l.map fun v => .lit (.int k v)),p)):cs=l.map (Value.int k):=by
 obtain⟨xs,m,rfl,hx,hlen,hxn,hel⟩:=DataW.trod_array hu hd
 simp only[Prod.mk.injEq,DataW.agg.injEq]at hx
 obtain⟨hx1,_⟩:=hx
 apply List.ext_getElem?
 intro i
 rw[List.getElem?_map]
 rcases Nat.lt_or_ge i n with hi|hi
 ·have h1:=hel i hi
  rw[hc,Nat.mul_one]at h1
  have hxi:i<xs.length:=by omega
  rw[List.getElem?_eq_getElem hxi]at h1
  obtain⟨v,e1,e2,_⟩:=DataW.trod_int he h1
  have h2:(l.map fun v=>(DataW.lit (Lit.int k v):DataW H))[i]?=(xs.map (·.1))[i]?:=by rw[hx1]
  rw[List.getElem?_map,List.getElem?_map,List.getElem?_eq_getElem hxi,e2,List.getElem?_eq_getElem (by omega:i<l.length)]at h2
  simp only[Option.map_some,Option.some.injEq,DataW.lit.injEq,Lit.int.injEq,true_and]at h2
  rw[List.getElem?_eq_getElem (by omega:i<l.length),h2]
  have h3:((cs.drop i).take 1)[0]?=some (Value.int k v):=by rw[e1];rfl
  rw[List.getElem?_take,if_pos (by omega),List.getElem?_drop]at h3
  simpa using h3
 ·rw[List.getElem?_eq_none (by omega),List.getElem?_eq_none (by omega)];rfl
end Go.Abs
