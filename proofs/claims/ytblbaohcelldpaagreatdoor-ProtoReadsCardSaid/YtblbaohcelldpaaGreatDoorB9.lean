/- . -/
import Derived.Test.YtblbaohcelldpaaGreatDoorM2
import Derived.RowKit3
import Derived.OpenShut
set_option linter.all false
namespace Go.Abs
open Go
noncomputable section
section
variable {P:Program} {G:Nat} {w0:Base} {orc:Orc}
theorem iO(hP:CV P G=true)(horc:∀B,xX P G B orc):∀(n:Nat) (B:Base) (c:Cmd) (r:Res),ev P orc n c=some r->Holds P G B c r
 | 0,_,_,_,h=>by cases h
 |n+1,B,c,r,h=>by
  have hall:=iO hP horc n
  have hrec:=hall B
  have h:step P orc (ev P orc n) c=some r:=h
  cases c with
  |code D c s=>exact J8 hrec hP h
  |loop D c s=>exact V5 hrec h
  |ops D ops k todo s=>exact KL hrec hP h
  |draw ops s=>
   simp only[step,FR,AGn]at h
   split at h
   ·rename_i s' hs'
    simp only[Option.some.injEq]at h;subst h
    exact ABU hall hP hs'
   ·cases h
  |call f args hh=>exact kC hrec hP (horc B) h
  |callD f args u hh=>exact V4 hrec hP h
  |leaves fn ts ds u hh=>exact O6 hrec hP h
def AIS(w:World)(b i:Nat):Option Value:=match w.heap[b]? with
 |some (.cells c _ _)=>c[i]?
 |_=>none
def ABY(w:World)(ht:AAl w):Base:=⟨w,(· < w.heap.size),fun _ h=>h,AIS w,fun g vs h=>by
 obtain⟨t,fz,h2⟩:=ht g vs h
 exact⟨(Array.getElem?_eq_some_iff.1 h2).1,t,fz,h2⟩⟩
theorem AC9(B:Base):xX P G B (fun _=>none):=fun f g args h e h' hf=>by cases hf
def nT:Option Res->Bool
 |some (.en (.returned (.bool true)) _ _)=>true
 |_=>false
end
end
end Go.Abs
namespace Go.Abs
open Go
noncomputable section
mutual
def GA(τ:Nat->Nat):Value->Value
 | .pointer (some a) => .pointer (some {a with block:=τ a.block})
 | .slice (some a) l c => .slice (some {a with block:=τ a.block}) l c
 | .map (some r) => .map (some (τ r))
 | .func fn x y => .func fn (ZK τ x) (ZK τ y)
 | .iface t v=>match vM t with
  |true => .iface t v
  |false => .iface t (GA τ v)
 | .agg c => .agg (ZK τ c)
 | .tuple c => .tuple (ZK τ c)
 |v=>v
def ZK(τ:Nat->Nat):Array Value->Array Value
 |⟨l⟩=>⟨FZ τ l⟩
def FZ(τ:Nat->Nat):List Value->List Value
 | []=>[]
 |v::l=>GA τ v::FZ τ l
end
mutual
theorem SE{F:Nm}{τ:Nat->Nat}:∀(v v':Value),VR F (GA τ v) v'↔VR (F.re τ) v v'
 | .bool b,v'=>by simp[VR,GA]
 | .int k n,v'=>by simp[VR,GA]
 | .float k n,v'=>by simp[VR,GA]
 | .complex k n m,v'=>by simp[VR,GA]
 | .string s,v'=>by simp[VR,GA]
 | .pointer none,v'=>by simp[VR,GA]
 | .pointer (some a),v'=>by simp only[VR,GA];rfl
 | .slice none l c,v'=>by simp[VR,GA]
 | .slice (some a) l c,v'=>by simp only[VR,GA];rfl
 | .map none,v'=>by simp[VR,GA]
 | .map (some r),v'=>by simp only[VR,GA];rfl
 | .chan none,v'=>by simp[VR,GA]
 | .chan (some r),v'=>by simp[VR,GA]
 | .func fn x y,v'=>by simp only[VR,GA];simp only[aQ x,aQ y]
 | .nilFunc,v'=>by simp[VR,GA]
 | .iface t v,v'=>by
  simp only[GA]
  split
  ·rename_i h
   simp only[VR,Nm.re_on h];rfl
  ·rename_i h
   have hn:dQ (GA τ v)=dQ v:=by
    cases v with
    |slice a l c=>cases a<;>cases l<;>rfl
    |pointer a=>cases a<;>rfl
    |map a=>cases a<;>rfl
    |iface t x=>simp only[GA];split<;>rfl
    |_=>rfl
   simp only[VR,Nm.re_on' h,hn,SE v];rfl
 | .nilIface,v'=>by simp[VR,GA]
 | .agg c,v'=>by simp only[VR,GA];simp only[aQ c]
 | .tuple c,v'=>by simp only[VR,GA];simp only[aQ c]
theorem aQ{F:Nm}{τ:Nat->Nat}:∀(c c':Array Value),VRA F (ZK τ c) c'↔VRA (F.re τ) c c'
 |⟨l⟩,c'=>by simp only[VRA,ZK];exact LQ l _
theorem LQ{F:Nm}{τ:Nat->Nat}:∀(l l':List Value),VRL F (FZ τ l) l'↔VRL (F.re τ) l l'
 | [],l'=>by simp[VRL,FZ]
 |v::l,l'=>by simp only[VRL,FZ];simp only[SE v,LQ l]
end
theorem RV(τ:Nat->Nat):∀l:List Value,(FZ τ l).length=l.length
 | []=>rfl
 |v::l=>by simp[FZ,RV τ l]
def GV(τ:Nat->Nat):AJ->AJ
 | .cells vs elem sz lo ow => .cells (FZ τ vs) elem sz lo ow
 | .map ks vs bs clock => .map (FZ τ ks) (FZ τ vs) bs clock
theorem EX(τ:Nat->Nat)(o:AJ):(GV τ o).own=o.own:=by cases o<;>rfl
theorem QG{F:Nm}{τ:Nat->Nat}{B:Base}{w:World}{n:Nat}{o:AJ}(h:NA F B w (τ n) (GV τ o)):NA (F.re τ) B w n o:=by
 cases o with
 |cells vs elem sz lo ow=>
  obtain⟨b,d,s,c,fz,h1,h2,h3,h4,h5,h6⟩:=h
  rw[RV]at h3 h4 h5
  exact⟨b,d,s,c,fz,h1,h2,(LQ _ _).1 h3,h4,h5,h6⟩
 |map ks vs bs clock=>
  obtain⟨b,es,h1,h2,h3,h4,h5⟩:=h
  exact⟨b,es,h1,h2,(LQ _ _).1 h3,(LQ _ _).1 h4,h5⟩
theorem jT{F:Nm}{τ:Nat->Nat}{B:Base}{w:World}{n:Nat}{o:AJ}(h:NA (F.re τ) B w n o):NA F B w (τ n) (GV τ o):=by
 cases o with
 |cells vs elem sz lo ow=>
  obtain⟨b,d,s,c,fz,h1,h2,h3,h4,h5,h6⟩:=h
  refine⟨b,d,s,c,fz,h1,h2,?_,?_,?_,h6⟩<;>rw[RV]
  ·exact(LQ _ _).2 h3
  ·exact h4
  ·exact h5
 |map ks vs bs clock=>
  obtain⟨b,es,h1,h2,h3,h4,h5⟩:=h
  exact⟨b,es,h1,h2,(LQ _ _).2 h3,(LQ _ _).2 h4,h5⟩
def lW(τ:Nat->Nat):Ending->Ending
 | .returned v => .returned (GA τ v)
 | .panicked c => .panicked (c.map fun e=>{e with v:=GA τ e.v})
 | .outgrown => .outgrown
theorem ZV{F:Nm}{τ:Nat->Nat}:∀(l l':List PanicEntry),ChR F (l.map fun e=>{e with v:=GA τ e.v}) l'↔ChR (F.re τ) l l'
 | [],l'=>Iff.rfl
 |e::l,l'=>by
  simp only[List.map_cons,ChR]
  constructor
  ·rintro ⟨v',r',h1,h2,h3⟩;exact⟨v',r',(SE _ _).1 h1,(ZV l r').1 h2,h3⟩
  ·rintro ⟨v',r',h1,h2,h3⟩;exact⟨v',r',(SE _ _).2 h1,(ZV l r').2 h2,h3⟩
theorem xI{F:Nm}{τ:Nat->Nat}(e e':Ending):EnR F (lW τ e) e'↔EnR (F.re τ) e e':=by
 cases e with
 |returned v=>
  simp only[lW,EnR]
  constructor
  ·rintro ⟨v',h1,h2⟩;exact⟨v',(SE _ _).1 h1,h2⟩
  ·rintro ⟨v',h1,h2⟩;exact⟨v',(SE _ _).2 h1,h2⟩
 |panicked c=>
  simp only[lW,EnR]
  constructor
  ·rintro ⟨v',h1,h2⟩;exact⟨v',(ZV _ _).1 h1,h2⟩
  ·rintro ⟨v',h1,h2⟩;exact⟨v',(ZV _ _).2 h1,h2⟩
 |outgrown=>exact Iff.rfl
def YP:List (Nat×AJ)->Tr AJ
 | [] => .lf
 |x::l=>(YP l).set x.1 (some x.2)
theorem dM:∀(gl:List (Nat×AJ)) (m:Nat) (o:AJ),(YP gl).get m=some o->(m,o)∈gl
 | [],m,o,h=>by rw[YP,Tr.get_lf]at h;cases h
 |x::l,m,o,h=>by
  rw[YP,Tr.get_set]at h
  split at h
  ·rename_i e;simp only[Option.some.injEq]at h;subst e;subst h;exact List.mem_cons_self ..
  ·exact List.mem_cons_of_mem _ (dM l m o h)
def hOf(G:Nat)(gl:List (Nat×AJ))(l:List (Option AJ)):Heap:=⟨putRow G l (YP gl),G+l.length⟩
where putRow:Nat->List (Option AJ)->Tr AJ->Tr AJ
 |_,[],t=>t
 |n,o::l,t=>putRow (n+1) l (t.set n o)
theorem eH:∀(l:List (Option AJ)) (n:Nat) (t:Tr AJ) (m:Nat),(hOf.putRow n l t).get m=if n<=m/\m<n+l.length then(l[m-n]?).getD none else t.get m
 | [],n,t,m=>by simp only[hOf.putRow,List.length_nil];rw[if_neg (by omega)]
 |o::l,n,t,m=>by
  simp only[hOf.putRow,eH l (n+1),Tr.get_set,List.length_cons]
  by_cases e:m=n
  ·subst e;rw[if_neg (by omega),if_pos rfl,if_pos (by omega)];simp
  ·by_cases h:n+1<=m/\m<n+1+l.length
   ·rw[if_pos h,if_pos (by omega)]
    have:m-n=(m-(n+1))+1:=by omega
    rw[this,List.getElem?_cons_succ]
   ·rw[if_neg h,if_neg e,if_neg (by omega)]
theorem H6(G:Nat)(gl:List (Nat×AJ))(l:List (Option AJ))(m:Nat):(hOf G gl l).get m=if G<=m/\m<G+l.length then(l[m-G]?).getD none else(YP gl).get m:=eH _ _ _ _
structure Ctr where
 f:FuncId
 args:List Value
 gl:List (Nat×AJ)
 ins:List AJ
 e:Ending
 upd:List (Option AJ)
 new:List AJ
def ABP(P:Program)(G:Nat)(c:Ctr):Prop:=c.upd.length=c.ins.length/\c.new.all (·.own)=true/\
 ∀B,BP P G B c.f c.args (hOf G c.gl (c.ins.map some)) c.e (hOf G [] (c.upd++c.new.map some))
def tau(G:Nat)(ns:List Nat)(next:Nat)(n:Nat):Nat:=
 match Nat.blt n G with
 |true=>n
 |false=>match ns[n-G]? with
  |some m=>m
  |none=>next+(n-G-ns.length)
theorem PV{G:Nat}{ns:List Nat}{next n:Nat}(h:n<G):tau G ns next n=n:=by
 unfold tau;rw[show Nat.blt n G=true from Nat.ble_eq_true_of_le h]
theorem iH{n G:Nat}(h:G<=n):Nat.blt n G=false:=by
 cases hb:Nat.blt n G with
 |false=>rfl
 |true=>have:n<G:=Nat.le_of_ble_eq_true hb;omega
theorem UB{G:Nat}{ns:List Nat}{next n m:Nat}(h:G<=n)(hm:ns[n-G]?=some m):tau G ns next n=m:=by
 unfold tau;rw[iH h];simp only[hm]
theorem bM{G:Nat}{ns:List Nat}{next n:Nat}(h:G+ns.length<=n):tau G ns next n=next+(n-G-ns.length):=by
 unfold tau;rw[iH (by omega),List.getElem?_eq_none (by omega)]
def G9(H:Heap):List Nat->List (Option AJ)->Heap
 |n::ns,o::os=>G9 (H.put n o) ns os
 |_,_=>H
def LY(H:Heap):List AJ->Heap
 | []=>H
 |o::os=>LY (H.push o) os
theorem NB:∀(ns:List Nat) (os:List (Option AJ)) (H:Heap),(G9 H ns os).next=H.next
 | [],_,_=>rfl
 |_::_,[],_=>rfl
 |n::ns,o::os,H=>by simp only[G9];rw[NB ns os];rfl
theorem K7:∀(ns:List Nat) (os:List (Option AJ)) (H:Heap) (m:Nat),ns.length=os.length->ns.Nodup->
  ((∀i:Nat,ns[i]?=some m->(G9 H ns os).get m=(os[i]?).getD none)/\(m ∉ ns->(G9 H ns os).get m=H.get m))
 | [],os,H,m,_,_=>⟨fun i hi=>by simp at hi,fun _=>rfl⟩
 |n::ns,[],H,m,hl,_=>by simp at hl
 |n::ns,o::os,H,m,hl,hnd=>by
  simp only[List.nodup_cons]at hnd
  obtain⟨h1,h2⟩:=K7 ns os (H.put n o) m (by simpa using hl) hnd.2
  simp only[G9]
  constructor
  ·intro i hi
   cases i with
   |zero=>
    simp only[List.getElem?_cons_zero,Option.some.injEq]at hi;subst hi
    rw[h2 hnd.1,Heap.get_put,if_pos rfl];rfl
   |succ i=>
    simp only[List.getElem?_cons_succ]at hi
    rw[h1 i hi];rfl
  ·intro hm
   simp only[List.mem_cons,not_or]at hm
   rw[h2 hm.2,Heap.get_put,if_neg hm.1]
theorem RP:∀(os:List AJ) (H:Heap),(LY H os).next=H.next+os.length
 | [],H=>rfl
 |o::os,H=>by simp only[LY];rw[RP os];simp only[Heap.push,List.length_cons];omega
theorem TK:∀(os:List AJ) (H:Heap) (m:Nat),(LY H os).get m=if H.next<=m/\m<H.next+os.length then os[m-H.next]? else H.get m
 | [],H,m=>by simp only[LY,List.length_nil];rw[if_neg (by omega)]
 |o::os,H,m=>by
  simp only[LY,TK os (H.push o),Heap.get_push,List.length_cons]
  have hn:(H.push o).next=H.next+1:=rfl
  rw[hn]
  by_cases e:m=H.next
  ·subst e;rw[if_neg (by omega),if_pos rfl,if_pos (by omega)];simp
  ·by_cases h:H.next+1<=m/\m<H.next+1+os.length
   ·rw[if_pos h,if_pos (by omega)]
    have:m-H.next=(m-(H.next+1))+1:=by omega
    rw[this,List.getElem?_cons_succ]
   ·rw[if_neg h,if_neg e,if_neg (by omega)]
section
variable {P:Program} {G:Nat}
theorem Rel.next_le{F:Nm}{H:Heap}{B:Base}{w:World}(R:Rel G F H B w):G<=H.next:=by
 rcases Nat.lt_or_ge H.next G with h|h
 ·have h1:=R.glob H.next h
  rw[R.fresh H.next (Nat.le_refl _)]at h1;cases h1
 ·exact h
theorem Rel.live_lt{F:Nm}{H:Heap}{B:Base}{w:World}(R:Rel G F H B w){n:Nat}{o:AJ}(h:H.get n=some o):n<H.next:=by
 rcases Nat.lt_or_ge n H.next with h2|h2
 ·exact h2
 ·rw[R.nolive h2]at h;cases h
theorem Rel.blk_lt{F:Nm}{H:Heap}{B:Base}{w:World}(R:Rel G F H B w){n:Nat}{o:AJ}(h:H.get n=some o):∃b,blk F n=some b/\b<w.heap.size/\(o.own=true->¬B.prot b):=OA (R.obj n o h)
theorem ABP.call{c:Ctr}(hv:ABP P G c){H:Heap}{ns:List Nat}(hl:ns.length=c.ins.length)(hnd:ns.Nodup)
  (hobj:∀(i:Nat) (o:AJ),c.ins[i]?=some o->∃n:Nat,ns[i]?=some n/\G<=n/\H.get n=some (GV (tau G ns H.next) o))
  (hgl:∀x∈c.gl,x.1<G/\x.2.own=false/\H.get x.1=some x.2/\GV (tau G ns H.next) x.2=x.2) (B:Base):
  BP P G B c.f (FZ (tau G ns H.next) c.args) H (lW (tau G ns H.next) c.e)
   (LY (G9 H ns (c.upd.map (·.map (GV (tau G ns H.next))))) (c.new.map (GV (tau G ns H.next)))):=by
 obtain⟨hu,hnew,hcall⟩:=hv
 intro F w args' R ha
 have hGn:=R.next_le
 generalize hτ:tau G ns H.next=τ at*
 have hτlt:∀n,n<G->τ n=n:=fun n h=>by rw[←hτ];exact PV h
 have hτin:∀n m:Nat,G<=n->ns[n-G]?=some m->τ n=m:=fun n m h h2=>by rw[←hτ];exact UB h h2
 have hτnew:∀n,G+ns.length<=n->τ n=H.next+(n-G-ns.length):=fun n h=>by rw[←hτ];exact bM h
 -- a name that is handed in
 have hin:∀n,G<=n->n<G+ns.length->∃o m,c.ins[n-G]?=some o/\ns[n-G]?=some m/\τ n=m/\H.get m=some (GV τ o):=by
  intro n h1 h2
  have h3:n-G<c.ins.length:=by omega
  obtain⟨m,g1,g2,g3⟩:=hobj (n-G) c.ins[n-G] (by simp[h3])
  exact⟨_,m,by simp[h3],g1,hτin n m h1 g1,g3⟩
 -- what must stay
 let B2:Base:=⟨w,fun i=>i<w.heap.size/\∀n o,n∈ns->H.get n=some o->o.own=true->blk F n≠some i,fun i h=>h.1,F.z,fun g vs hg=>by
  obtain⟨h1,t,fz,h2⟩:=B.tab g vs hg
  refine⟨⟨Nat.lt_of_lt_of_le (B.lt g h1) R.base,fun n o _ ho hown hblk=>?_⟩,t,fz,by rw[R.frame g h1];exact h2⟩
  obtain⟨b',g1,_,g3⟩:=R.blk_lt ho
  rw[hblk]at g1;simp only[Option.some.injEq]at g1;subst g1
  exact g3 hown h1⟩
 have hins:∀n o,(hOf G c.gl (c.ins.map some)).get n=some o->(G<=n/\n<G+ns.length/\c.ins[n-G]?=some o)∨(n<G/\o.own=false/\H.get n=some o/\GV τ o=o):=by
  intro n o h
  rw[H6]at h
  split at h
  ·rename_i hg
   rw[List.getElem?_map]at h
   cases hc:c.ins[n-G]? with
   |none=>rw[hc]at h;cases h
   |some o'=>
    rw[hc]at h;simp only[Option.map_some,Option.getD_some,Option.some.injEq]at h;subst h
    have:=(List.getElem?_eq_some_iff.1 hc).1
    exact .inl ⟨hg.1,by omega,rfl⟩
  ·exact .inr (hgl _ (dM _ _ _ h))
 have R2:Rel G (F.re τ) (hOf G c.gl (c.ins.map some)) B2 w:=by
  constructor
  ·intro n o h
   rcases hins n o h with⟨h1,h2,h3⟩ | ⟨h1,h2,h3,h4⟩
   case inr=>
    have h5:=R.obj n o h3
    have h6:NA F B2 w (τ n) (GV τ o):=by
     rw[h4,hτlt n h1]
     exact K5 h5 fun ho=>by rw[h2]at ho;cases ho
    exact QG h6
   obtain⟨o',m,g1,g2,g3,g4⟩:=hin n h1 h2
   rw[h3]at g1;simp only[Option.some.injEq]at g1;subst g1
   have h5:=R.obj m _ g4
   have hm:m∈ns:=List.mem_of_getElem? g2
   have h6:NA F B2 w m (GV τ o):=by
    exact K5 h5 fun ho b hb _ hp=>hp.2 m _ hm g4 ho hb
   rw[←g3]at h6
   exact QG h6
  ·intro n m o o' hn hm hne ho
   rcases hins n o hn with⟨h1,h2,h3⟩ | ⟨h1,h2,h3,h4⟩
   case inr=>rw[h2]at ho;cases ho
   rcases hins m o' hm with⟨h1',h2',h3'⟩ | ⟨h1',h2',h3',h4'⟩
   case inr=>
    obtain⟨p,a,g1,g2,g3,g4⟩:=hin n h1 h2
    rw[h3]at g1;simp only[Option.some.injEq]at g1;subst g1
    obtain⟨q,e1,e2,e3⟩:=hobj (n-G) _ h3
    rw[g2]at e1;simp only[Option.some.injEq]at e1;subst e1
    have:=R.inj a m _ _ g4 h3' (by omega) (by rw[EX];exact ho)
    simp only[blk,Nm.re,g3,hτlt m h1']at this ⊢;exact this
   obtain⟨p,a,g1,g2,g3,g4⟩:=hin n h1 h2
   obtain⟨p',a',g1',g2',g3',g4'⟩:=hin m h1' h2'
   rw[h3]at g1;simp only[Option.some.injEq]at g1;subst g1
   have hne':a≠a':=by
    intro e;subst e
    have h4:n-G<ns.length:=by omega
    have:=(List.getElem?_inj h4 hnd).1 (g2.trans g2'.symm)
    omega
   have:=R.inj a a' _ _ g4 g4' hne' (by rw[EX];exact ho)
   simp only[blk,Nm.re,g3,g3']at this ⊢;exact this
  ·intro n hn
   have hn:G+(c.ins.map some).length<=n:=hn
   rw[List.length_map]at hn
   simp only[Nm.re,hτnew n (by omega)]
   exact R.fresh _ (by omega)
  ·intro g hg
   simp only[Nm.re,hτlt g hg];exact R.glob g hg
  ·exact Nat.le_refl _
  ·intro i _;rfl
  ·intro b i v hz
   refine⟨R.frozB hz fun hn hp=>absurd ⟨Nat.lt_of_lt_of_le (B.lt b hp) R.base,fun n o _ ho hown hblk=>by
    obtain⟨b',g1,_,g3⟩:=R.blk_lt ho
    rw[hblk]at g1;simp only[Option.some.injEq]at g1;subst g1
    exact g3 hown hp⟩ hn,fun n o hn ho=>?_⟩
   rcases hins n o hn with⟨h1,h2,h3⟩ | ⟨h1,h2,h3,h4⟩
   case inr=>rw[h2]at ho;cases ho
   obtain⟨p,a,g1,g2,g3,g4⟩:=hin n h1 h2
   rw[h3]at g1;simp only[Option.some.injEq]at g1;subst g1
   have:=(R.froz b i v hz).2 a _ g4 (by rw[EX];exact ho)
   simp only[blk,Nm.re,g3]at this ⊢;exact this
  ·intro b i v hz _;exact hz
  ·rfl
  ·rfl
  ·rfl
 refine(hcall B2 _ w args' R2 ((LQ _ _).1 ha)).mono fun e1 w' ⟨F3,hle,he,R3⟩=>?_
 -- the names behind the call
 let F4:Nm:=⟨fun n=>if H.next<=n then F3 (G+ns.length+(n-H.next))else F n,F3.z⟩
 have hF4:∀n,F3 n=F4 (τ n):=by
  intro n
  rcases Nat.lt_or_ge n G with h|h
  ·have h1:F4 (τ n)=F n:=by simp only[F4,hτlt n h];rw[if_neg (by omega)]
   rw[h1]
   have:=R.glob n h
   rw[this];exact hle.nm n _ (by simp only[Nm.re,hτlt n h];exact this)
  ·rcases Nat.lt_or_ge n (G+ns.length)with h2|h2
   ·obtain⟨o,m,g1,g2,g3,g4⟩:=hin n h h2
    have hm:=R.live_lt g4
    have h1:F4 (τ n)=F m:=by simp only[F4,g3];rw[if_neg (by omega)]
    rw[h1]
    obtain⟨b,hb,_⟩:=R.blk_lt g4
    cases hF:F m with
    |none=>simp[blk,hF]at hb
    |some x=>exact hle.nm n x (by simp only[Nm.re,g3];exact hF)
   ·have h1:F4 (τ n)=F3 (G+ns.length+(H.next+(n-G-ns.length)-H.next)):=by
     simp only[F4,hτnew n h2];rw[if_pos (by omega)]
    rw[h1];congr 1;omega
 have hF3:F3=F4.re τ:=Nm.ext_of (fun n=>hF4 n) rfl
 have hleF:Nm.le F F4:=by
  refine⟨?_,hle.zs⟩
  intro n x hx
  have:n<H.next:=by
   rcases Nat.lt_or_ge n H.next with h|h
   ·exact h
   ·rw[R.fresh n h]at hx;cases hx
  simp only[F4];rw[if_neg (by omega)];exact hx
 refine⟨F4,hleF,(xI _ _).2 (by rw[←hF3];exact he),?_⟩
 rw[hF3]at R3
 -- what the heap holds
 have hul:ns.length=(c.upd.map (·.map (GV τ))).length:=by rw[List.length_map];omega
 have hcases:∀n o,(LY (G9 H ns (c.upd.map (·.map (GV τ)))) (c.new.map (GV τ))).get n=some o->
   (∃k p,n=τ k/\o=GV τ p/\(hOf G [] (c.upd++c.new.map some)).get k=some p/\((k<G+ns.length/\n∈ns)∨(G+ns.length<=k/\H.next<=n/\p.own=true)))∨(n ∉ ns/\n<H.next/\H.get n=some o):=by
  intro n o h
  rw[TK,NB]at h
  split at h
  ·rename_i hr
   left
   rw[List.getElem?_map]at h
   rw[List.length_map]at hr
   cases hc:c.new[n-H.next]? with
   |none=>rw[hc]at h;cases h
   |some p=>
    rw[hc]at h;simp only[Option.map_some,Option.some.injEq]at h
    refine⟨G+ns.length+(n-H.next),p,?_,h.symm,?_,.inr ⟨by omega,hr.1,?_⟩⟩
    ·rw[hτnew _ (by omega)];omega
    ·rw[H6,if_pos (by rw[List.length_append,List.length_map];omega),List.getElem?_append_right (by omega),List.getElem?_map]
     have:G+ns.length+(n-H.next)-G-c.upd.length=n-H.next:=by omega
     rw[this,hc];rfl
    ·exact List.all_eq_true.1 hnew p (List.mem_of_getElem? hc)
  ·rename_i hr
   by_cases hm:n∈ns
   ·left
    obtain⟨i,hi⟩:=List.getElem?_of_mem hm
    have hil:i<ns.length:=(List.getElem?_eq_some_iff.1 hi).1
    rw[(K7 ns _ H n hul hnd).1 i hi,List.getElem?_map]at h
    have hiu:i<c.upd.length:=by omega
    rw[List.getElem?_eq_getElem hiu]at h
    simp only[Option.map_some,Option.getD_some,Option.map_eq_some_iff]at h
    obtain⟨p,hp,e⟩:=h
    refine⟨G+i,p,(hτin (G+i) n (by omega) (by rw[Nat.add_sub_cancel_left];exact hi)).symm,e.symm,?_,.inl ⟨by omega,hm⟩⟩
    rw[H6,if_pos (by rw[List.length_append,List.length_map];omega),Nat.add_sub_cancel_left,List.getElem?_append_left hiu,List.getElem?_eq_getElem hiu]
    simpa using hp
   ·right
    rw[(K7 ns _ H n hul hnd).2 hm]at h
    exact⟨hm,R.live_lt h,h⟩
 -- whose block an object of the callee's may write
 have hprot:∀b,¬B2.prot b->w.heap.size<=b∨∃n o,n∈ns/\H.get n=some o/\o.own=true/\blk F n=some b:=by
  intro b hb
  rcases Nat.lt_or_ge b w.heap.size with h|h
  ·right
   refine Classical.byContradiction fun hc=>hb ⟨h,fun n o hn ho hown hblk=>hc ⟨n,o,hn,ho,hown,hblk⟩⟩
  ·exact .inl h
 have hnprot:∀b,¬B2.prot b->¬B.prot b:=by
  intro b hb hB
  rcases hprot b hb with h|⟨n,o,h1,h2,h3,h4⟩
  ·have:=B.lt b hB;have:=R.base;omega
  ·obtain⟨b',g1,_,g3⟩:=R.blk_lt h2
   rw[h4]at g1;simp only[Option.some.injEq]at g1;subst g1
   exact g3 h3 hB
 have hother:∀n o,n ∉ ns->H.get n=some o->∀b,blk F n=some b->B2.prot b:=by
  intro n o hn ho b hb
  obtain⟨b',g1,g2,_⟩:=R.blk_lt ho
  rw[hb]at g1;simp only[Option.some.injEq]at g1;subst g1
  refine⟨g2,fun m o' hm ho' hown hblk=>?_⟩
  have:=R.inj m n o' o ho' ho (fun e=>hn (e ▸ hm)) hown
  exact this (by rw[hblk,hb])
 have hF4old:∀n,n<H.next->F4 n=F n:=fun n h=>by simp only[F4];rw[if_neg (by omega)]
 constructor
 ·intro n o h
  rcases hcases n o h with⟨k,p,e1,e2,e3,e4⟩ | ⟨h1,h2,h3⟩
  ·subst e1;subst e2
   have h5:=R3.obj k p e3
   have h6:NA (F4.re τ) B w' k p:=by
    exact K5 h5 fun _ b _ hb=>hnprot b hb
   exact jT h6
  ·have h5:=R.obj n o h3
   have h6:NA F B w' n o:=IQ h5 fun b hb=>R3.frame b (hother n o h1 h3 b hb)
   exact JH hleF h6
 ·intro n m o o' hn hm hne ho
  have hA:∀n o,(∃k p,n=τ k/\o=GV τ p/\(hOf G [] (c.upd++c.new.map some)).get k=some p)->∃b,blk F4 n=some b/\(o.own=true->¬B2.prot b):=by
   rintro n o ⟨k,p,e1,e2,e3⟩
   subst e1;subst e2
   obtain⟨b,g1,_,g3⟩:=R3.blk_lt e3
   exact⟨b,g1,fun h=>g3 (by rw[EX]at h;exact h)⟩
  rcases hcases n o hn with⟨k,p,e1,e2,e3,e4⟩ | ⟨h1,h2,h3⟩<;>rcases hcases m o' hm with⟨k',p',e1',e2',e3',e4'⟩ | ⟨h1',h2',h3'⟩
  ·subst e1;subst e2;subst e1'
   exact R3.inj k k' p p' e3 e3' (fun e=>hne (by rw[e])) (by rw[EX]at ho;exact ho)
  ·obtain⟨b,hb,hown⟩:=hA n o ⟨k,p,e1,e2,e3⟩
   obtain⟨b',hb',hlt',_⟩:=R.blk_lt h3'
   intro e
   rw[hb]at e
   simp only[blk,hF4old m h2']at e
   have e':blk F m=some b:=e.symm
   exact hown ho (hother m o' h1' h3' b e')
  ·obtain⟨b',hb',hown'⟩:=hA m o' ⟨k',p',e1',e2',e3'⟩
   intro e
   simp only[blk,hF4old n h2]at e
   have e':blk F n=some b':=by rw[←hb'];exact e
   -- n is ours to write; m is one of the callee's
   rcases e4' with⟨_,hmem⟩ | ⟨_,_,hown2⟩
   ·obtain⟨i,hi⟩:=List.getElem?_of_mem hmem
    have hil:i<c.ins.length:=by have:=(List.getElem?_eq_some_iff.1 hi).1;omega
    obtain⟨q,g1,_,g3⟩:=hobj i c.ins[i] (by simp[hil])
    rw[hi]at g1;simp only[Option.some.injEq]at g1;subst g1
    have:=R.inj n m o _ h3 g3 hne ho
    apply this
    have hmlt:=R.live_lt g3
    simp only[blk,hF4old m hmlt]at hb'
    rw[e'];exact hb'.symm
   ·have:=hother n o h1 h3 b' e'
    exact hown' (by rw[e2',EX];exact hown2) this
  ·have:=R.inj n m o o' h3 h3' hne ho
   simp only[blk,hF4old n h2,hF4old m h2']at this ⊢;exact this
 ·intro n hn
  rw[RP,NB,List.length_map]at hn
  simp only[F4];rw[if_pos (by omega)]
  have:=R3.fresh (G+ns.length+(n-H.next)) (by show G+(c.upd++c.new.map some).length<=_;rw[List.length_append,List.length_map];omega)
  have this:F4 (τ (G+ns.length+(n-H.next)))=none:=this
  rw[←hF4]at this;exact this
 ·intro g hg
  exact hleF.nm _ _ (R.glob g hg)
 ·have:=R.base;have:=R3.base
  have e:B2.w.heap.size=w.heap.size:=rfl
  omega
 ·intro i hi
  have h1:=B.lt i hi
  have h2:=R.base
  have h3:B2.prot i:=⟨by omega,fun n o _ ho hown hblk=>by
   obtain⟨b,g1,_,g3⟩:=R.blk_lt ho
   rw[hblk]at g1;simp only[Option.some.injEq]at g1;subst g1
   exact g3 hown hi⟩
  rw[R3.frame i h3];exact R.frame i hi
 ·intro b i v hz
  refine⟨R3.frozB hz fun hn hp c t fz hw=>R.un b i v (R3.zprot b i v hz hp) hn c t fz (by rw[←R3.frame b hp];exact hw),fun n o hn ho=>?_⟩
  rcases hcases n o hn with⟨k,p,e1,e2,e3,e4⟩ | ⟨h1,h2,h3⟩
  ·subst e1;subst e2
   exact(R3.froz b i v hz).2 k p e3 (by rw[EX]at ho;exact ho)
  ·intro e
   simp only[blk,hF4old n h2]at e
   have hp:=hother n o h1 h3 b e
   exact(R.froz b i v (R3.zprot b i v hz hp)).2 n o h3 ho e
 ·intro b i v hz hp
  have h1:=B.lt b hp
  have h2:=R.base
  have h3:B2.prot b:=⟨by omega,fun n o _ ho hown hblk=>by
   obtain⟨b',g1,_,g3⟩:=R.blk_lt ho
   rw[hblk]at g1;simp only[Option.some.injEq]at g1;subst g1
   exact g3 hown hp⟩
  exact R.zprot b i v (R3.zprot b i v hz h3) hp
 ·rw[R3.os];exact R.os
 ·rw[R3.out];exact R.out
 ·rw[R3.tape];exact R.tape
end
end
end Go.Abs
namespace Go.Abs
open Go
noncomputable section
def AEt:List Nat->List Nat->Bool
 | [],[]=>true
 |a::l,b::l'=>Nat.beq a b&&AEt l l'
 |_,_=>false
theorem yK:∀(a b:List Nat),AEt a b=true->a=b
 | [],[],_=>rfl
 | [],_::_,h=>by cases h
 |_::_,[],h=>by cases h
 |a::l,b::l',h=>by
  simp only[AEt,Bool.and_eq_true]at h
  rw[Nat.eq_of_beq_eq_true h.1,yK _ _ h.2]
def uP:AJ->AJ->Bool
 | .cells vs e s l o,.cells vs' e' s' l' o'=>Nat.beq e e'&&(Nat.beq s s'&&((l==l')&&((o==o')&&lI vs vs')))
 | .map ks vs bs c,.map ks' vs' bs' c'=>Nat.beq c c'&&(AEt bs bs'&&(lI ks ks'&&lI vs vs'))
 |_,_=>false
theorem AEu:∀(a b:AJ),uP a b=true->a=b
 | .cells vs e s l o,.cells vs' e' s' l' o',h=>by
  simp only[uP,Bool.and_eq_true,beq_iff_eq]at h
  obtain⟨h1,h2,h3,h4,h5⟩:=h
  rw[Nat.eq_of_beq_eq_true h1,Nat.eq_of_beq_eq_true h2,h3,h4,WV _ _ h5]
 | .map ks vs bs c,.map ks' vs' bs' c',h=>by
  simp only[uP,Bool.and_eq_true]at h
  rw[Nat.eq_of_beq_eq_true h.1,yK _ _ h.2.1,WV _ _ h.2.2.1,WV _ _ h.2.2.2]
 | .map ..,.cells ..,h=>by simp[uP]at h
 | .cells ..,.map ..,h=>by simp[uP]at h
def AIU:List PanicEntry->List PanicEntry->Bool
 | [],[]=>true
 |e::l,e'::l'=>OP e.v e'.v&&((e.recovered==e'.recovered)&&((e.goexit==e'.goexit)&&AIU l l'))
 |_,_=>false
def AKp:Ending->Ending->Bool
 | .returned v,.returned v'=>OP v v'
 | .panicked c,.panicked c'=>AIU c c'
 |_,_=>false
def AJx(n:Nat):List Nat->Bool
 | []=>false
 |m::l=>Nat.beq n m||AJx n l
def nodupB:List Nat->Bool
 | []=>true
 |n::l=>!AJx n l&&nodupB l
def atB(h0:Heap)(n:Nat)(o:AJ):Bool:=match h0.get n with
 |some o'=>uP o o'
 |none=>false
def pM(τ:Nat->Nat)(v v':Value):Bool:=match v with
 | .int k n=>match v' with
  | .int k' n'=>decide (k=k')&&decide (n=n')
  |_=>false
 | .slice none a b=>match v' with
  | .slice none a' b'=>Nat.beq a a'&&Nat.beq b b'
  |_=>false
 | .bool b=>match v' with
  | .bool b'=>b==b'
  |_=>false
 |v=>OP (GA τ v) v'
theorem AB7{τ:Nat->Nat}{v v':Value}(h:pM τ v v'=true):GA τ v=v':=by
 unfold pM at h
 split at h
 ·split at h
  ·simp only[Bool.and_eq_true,decide_eq_true_eq]at h
   rw[h.1,h.2];rfl
  ·cases h
 ·split at h
  ·simp only[Bool.and_eq_true]at h
   rw[Nat.eq_of_beq_eq_true h.1,Nat.eq_of_beq_eq_true h.2];rfl
  ·cases h
 ·split at h
  ·simp only[beq_iff_eq]at h
   rw[h];rfl
  ·cases h
 ·exact WW _ _ h
def lR(τ:Nat->Nat)(l:List Value):List Value->Bool:=
 List.rec (motive:=fun _=>List Value->Bool) (fun m=>match m with
  | []=>true
  |_::_=>false) (fun a _ ih m=>match m with
  | []=>false
  |b::r=>match pM τ a b with
   |true=>ih r
   |false=>false) l
theorem y7(τ:Nat->Nat)(a:Value)(l:List Value)(m:List Value):lR τ (a::l) m=match m with
 | []=>false
 |b::r=>match pM τ a b with
  |true=>lR τ l r
  |false=>false:=rfl
theorem AGu{τ:Nat->Nat}:∀(l m:List Value),lR τ l m=true->FZ τ l=m
 | [],[],_=>rfl
 | [],_::_,h=>by cases h
 |a::l,[],h=>by rw[y7]at h;cases h
 |a::l,b::r,h=>by
  rw[y7]at h
  simp only at h
  split at h
  ·rename_i hc
   rw[FZ,AB7 hc,AGu l r h]
  ·cases h
def AI3(τ:Nat->Nat)(v v':Value):Bool:=match v with
 | .agg ⟨l⟩=>match v' with
  | .agg ⟨l'⟩=>lR τ l l'
  |_=>false
 |v=>pM τ v v'
def l2(τ:Nat->Nat):List Value->List Value->Bool
 | [],[]=>true
 |a::l,b::r=>AI3 τ a b&&l2 τ l r
 |_,_=>false
def oR(τ:Nat->Nat)(o o':AJ):Bool:=match o with
 | .cells vs e s l w=>match o' with
  | .cells vs' e' s' l' w'=>Nat.beq e e'&&(Nat.beq s s'&&((l==l')&&((w==w')&&lR τ vs vs')))
  |_=>false
 |o=>uP (GV τ o) o'
theorem AJC{τ:Nat->Nat}{o o':AJ}(h:oR τ o o'=true):GV τ o=o':=by
 unfold oR at h
 split at h
 ·split at h
  ·simp only[Bool.and_eq_true,beq_iff_eq]at h
   obtain⟨h1,h2,h3,h4,h5⟩:=h
   rw[GV,Nat.eq_of_beq_eq_true h1,Nat.eq_of_beq_eq_true h2,h3,h4,AGu _ _ h5]
  ·cases h
 ·exact AEu _ _ h
def atR(h0:Heap)(τ:Nat->Nat)(n:Nat)(o:AJ):Bool:=match h0.get n with
 |some o'=>oR τ o o'
 |none=>false
theorem QV{h0:Heap}{τ:Nat->Nat}{n:Nat}{o:AJ}(h:atR h0 τ n o=true):h0.get n=some (GV τ o):=by
 unfold atR at h
 split at h
 ·rename_i o' e;rw[e,AJC h]
 ·cases h
def ADZ(τ:Nat->Nat)(h0:Heap):Nat->List (Option AJ)->Bool
 |_,[]=>true
 |n,none::l=>ADZ τ h0 (n+1) l
 |n,some o::l=>atR h0 τ n o&&ADZ τ h0 (n+1) l
def AGy(τ:Nat->Nat)(h0:Heap)(lo:Nat):List AJ->List Nat->Bool
 | [],[]=>true
 |o::l,m::ms=>o.own&&(Nat.ble lo m&&(atR h0 τ m o&&AGy τ h0 lo l ms))
 |_,_=>false
section
variable {P:Program} {G:Nat} {orc:Orc}
theorem Rel.pick{F:Nm}{H H':Heap}{B:Base}{w:World}(R:Rel G F H B w)(τ:Nat->Nat)(hobj:∀n o,H'.get n=some o->H.get (τ n)=some (GV τ o))
  (hinj:∀n m o o',H'.get n=some o->H'.get m=some o'->τ n=τ m->n=m) (hfresh:∀n,H'.next<=n->H.next<=τ n) (hglob:∀g,g<G->τ g=g):
  Rel G (F.re τ) H' B w:=by
 constructor
 ·intro n o h;exact QG (R.obj _ _ (hobj n o h))
 ·intro n m o o' hn hm hne ho
  exact R.inj (τ n) (τ m) _ _ (hobj n o hn) (hobj m o' hm) (fun e=>hne (hinj n m o o' hn hm e)) (by rw[EX];exact ho)
 ·intro n hn;exact R.fresh _ (hfresh n hn)
 ·intro g hg;simp only[Nm.re,hglob g hg];exact R.glob g hg
 ·exact R.base
 ·exact R.frame
 ·intro b i v hz
  exact⟨(R.froz b i v hz).1,fun n o hn ho=>(R.froz b i v hz).2 _ _ (hobj n o hn) (by rw[EX];exact ho)⟩
 ·exact R.zprot
 ·exact R.os
 ·exact R.out
 ·exact R.tape
def madeOf(G:Nat)(c:Ctr)(ms:List Nat)(h0:Heap)(e0:Ending):Bool:=
 AKp (lW (tau (G+c.ins.length) ms h0.next) c.e) e0&&(ADZ (tau (G+c.ins.length) ms h0.next) h0 G c.upd&&
  (AGy (tau (G+c.ins.length) ms h0.next) h0 (G+c.ins.length) c.new ms&&nodupB ms))
def made(P:Program)(G:Nat)(orc:Orc)(N:Nat)(c:Ctr)(ms:List Nat):Bool:=
 Nat.beq c.upd.length c.ins.length&&match ev P orc N (.call c.f c.args (hOf G c.gl (c.ins.map some)))with
  |some (.en e0 _ h0)=>madeOf G c ms h0 e0
  |_=>false
def AGs(G:Nat)(τ:Nat->Nat)(h:Heap):List AJ->List Nat->Bool
 | [],[]=>true
 |o::l,n::ns=>Nat.ble G n&&(atR h τ n o&&AGs G τ h l ns)
 |_,_=>false
mutual
def AI6(G:Nat):Value->Bool
 | .pointer (some a)=>Nat.blt a.block G
 | .slice (some a) _ _=>Nat.blt a.block G
 | .map (some r)=>Nat.blt r G
 | .func _ x y=>AEC G x&&AEC G y
 | .iface _ v=>AI6 G v
 | .agg c=>AEC G c
 | .tuple c=>AEC G c
 |_=>true
def AEC(G:Nat):Array Value->Bool
 |⟨l⟩=>ACh G l
def ACh(G:Nat):List Value->Bool
 | []=>true
 |v::l=>AI6 G v&&ACh G l
end
def AKD(G:Nat):AJ->Bool
 | .cells vs _ _ _ _=>ACh G vs
 | .map ks vs _ _=>ACh G ks&&ACh G vs
def AJm(G:Nat)(h:Heap):List (Nat×AJ)->Bool
 | []=>true
 |x::l=>Nat.blt x.1 G&&(!x.2.own&&(atB h x.1 x.2&&(AKD G x.2&&AJm G h l)))
def fits(G:Nat)(c:Ctr)(args:List Value)(h:Heap)(ns:List Nat)(τ:Nat->Nat):Bool:=
 l2 τ c.args args&&(AGs G τ h c.ins ns&&(nodupB ns&&AJm G h c.gl))
end
end
end Go.Abs
namespace Go.Abs
open Go
noncomputable section
def vs(l:List Nat):Value := .string ⟨(l.map UInt8.ofNat).toArray⟩
def va(l:List Value):Value := .agg l.toArray
def re(v:Value):Ending := .returned v
end
end Go.Abs
namespace Go.Abs
open Go
noncomputable section
section
variable {P:Program} {G:Nat}
end
end
end Go.Abs
namespace Go.Abs
open Go
theorem mW{P:Program}{w:World}{t e:TypeId}{n:Nat}{k:IntKind}(hu:P.underlying t=some (.array n e))(he:P.underlying e=some (.int k))(hc:P.cellsOf e=1)
  {l:List Int} (hn:n=l.length) (hct:P.cellsOf t=n) {H:Type} {enc:TypeId×Value->H} {base:Nat} {spare:Nat->Bool} {held:Bool} {fuel:Nat} {cs:List Value} {p:List MemPlace}
  (hd:DataW.trod enc P w base spare held fuel t cs=some (.agg (l.map fun v => .lit (.int k v)),p)):cs=l.map (Value.int k):=by
 obtain⟨xs,m,rfl,hx,hlen,hxn,hel⟩:=DataW.trod_array hu hd
 simp only[Prod.mk.injEq,DataW.agg.injEq]at hx
 obtain⟨hx1,_⟩:=hx
 apply List.ext_getElem?
 intro i
 rw[List.getElem?_map]
 rcases Nat.lt_or_ge i n with hi|hi
 ·have h1:=hel i hi
  rw[hc,Nat.mul_one]at h1
  have hxi:i<xs.length:=by omega
  rw[List.getElem?_eq_getElem hxi]at h1
  obtain⟨v,e1,e2,_⟩:=DataW.trod_int he h1
  have h2:(l.map fun v=>(DataW.lit (Lit.int k v):DataW H))[i]?=(xs.map (·.1))[i]?:=by rw[hx1]
  rw[List.getElem?_map,List.getElem?_map,List.getElem?_eq_getElem hxi,e2,List.getElem?_eq_getElem (by omega:i<l.length)]at h2
  simp only[Option.map_some,Option.some.injEq,DataW.lit.injEq,Lit.int.injEq,true_and]at h2
  rw[List.getElem?_eq_getElem (by omega:i<l.length),h2]
  have h3:((cs.drop i).take 1)[0]?=some (Value.int k v):=by rw[e1];rfl
  rw[List.getElem?_take,if_pos (by omega),List.getElem?_drop]at h3
  simpa using h3
 ·rw[List.getElem?_eq_none (by omega),List.getElem?_eq_none (by omega)];rfl
end Go.Abs
