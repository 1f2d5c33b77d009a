/- The evaluator as a whole; a call that takes nothing, from any world. -/
import Derived.Test.YtblbaohcelldpaaM2
import Derived.RowKit3
import Derived.OpenShut
set_option linter.all false
namespace Go.Abs
open Go
noncomputable section
section
variable {P:Program} {G:Nat} {w0:Base} {orc:Orc}
theorem ev_ok_all(hP:okProg P G=true)(horc:∀B,OrcOk P G B orc):∀(n:Nat) (B:Base) (c:Cmd) (r:Res),ev P orc n c=some r->Holds P G B c r
 | 0,_,_,_,h=>by cases h
 |n+1,B,c,r,h=>by
  have hall:=ev_ok_all hP horc n
  have hrec:=hall B
  have h:step P orc (ev P orc n) c=some r:=h
  cases c with
  |code D c s=>exact step_code hrec hP h
  |loop D c s=>exact step_loop' hrec h
  |ops D ops k todo s=>exact step_ops hrec hP h
  |draw ops s=>
   simp only[step,stepK,drawK]at h
   split at h
   ·rename_i s' hs'
    simp only[Option.some.injEq]at h;subst h
    exact aDraw_ok hall hP hs'
   ·cases h
  |call f args hh=>exact step_call hrec hP (horc B) h
  |callD f args u hh=>exact step_callD hrec hP h
  |leaves fn ts ds u hh=>exact step_leaves hrec hP h
def allZ(w:World)(b i:Nat):Option Value:=match w.heap[b]? with
 |some (.cells c _ _)=>c[i]?
 |_=>none
def allOf(w:World)(ht:TabW w):Base:=⟨w,(· < w.heap.size),fun _ h=>h,allZ w,fun g vs h=>by
 obtain⟨t,fz,h2⟩:=ht g vs h
 exact⟨(Array.getElem?_eq_some_iff.1 h2).1,t,fz,h2⟩⟩
theorem orc_none(B:Base):OrcOk P G B (fun _=>none):=fun f g args h e h' hf=>by cases hf
def retTrue:Option Res->Bool
 |some (.en (.returned (.bool true)) _ _)=>true
 |_=>false
end
end
end Go.Abs
namespace Go.Abs
open Go
noncomputable section
mutual
def vren(τ:Nat->Nat):Value->Value
 | .pointer (some a) => .pointer (some {a with block:=τ a.block})
 | .slice (some a) l c => .slice (some {a with block:=τ a.block}) l c
 | .map (some r) => .map (some (τ r))
 | .func fn x y => .func fn (vrenA τ x) (vrenA τ y)
 | .iface t v=>match isDP t with
  |true => .iface t v
  |false => .iface t (vren τ v)
 | .agg c => .agg (vrenA τ c)
 | .tuple c => .tuple (vrenA τ c)
 |v=>v
def vrenA(τ:Nat->Nat):Array Value->Array Value
 |⟨l⟩=>⟨vrenL τ l⟩
def vrenL(τ:Nat->Nat):List Value->List Value
 | []=>[]
 |v::l=>vren τ v::vrenL τ l
end
mutual
theorem VR_ren{F:Nm}{τ:Nat->Nat}:∀(v v':Value),VR F (vren τ v) v'↔VR (F.re τ) v v'
 | .bool b,v'=>by simp[VR,vren]
 | .int k n,v'=>by simp[VR,vren]
 | .float k n,v'=>by simp[VR,vren]
 | .complex k n m,v'=>by simp[VR,vren]
 | .string s,v'=>by simp[VR,vren]
 | .pointer none,v'=>by simp[VR,vren]
 | .pointer (some a),v'=>by simp only[VR,vren];rfl
 | .slice none l c,v'=>by simp[VR,vren]
 | .slice (some a) l c,v'=>by simp only[VR,vren];rfl
 | .map none,v'=>by simp[VR,vren]
 | .map (some r),v'=>by simp only[VR,vren];rfl
 | .chan none,v'=>by simp[VR,vren]
 | .chan (some r),v'=>by simp[VR,vren]
 | .func fn x y,v'=>by simp only[VR,vren];simp only[VRA_ren x,VRA_ren y]
 | .nilFunc,v'=>by simp[VR,vren]
 | .iface t v,v'=>by
  simp only[vren]
  split
  ·rename_i h
   simp only[VR,Nm.re_on h];rfl
  ·rename_i h
   have hn:isNilS (vren τ v)=isNilS v:=by
    cases v with
    |slice a l c=>cases a<;>cases l<;>rfl
    |pointer a=>cases a<;>rfl
    |map a=>cases a<;>rfl
    |iface t x=>simp only[vren];split<;>rfl
    |_=>rfl
   simp only[VR,Nm.re_on' h,hn,VR_ren v];rfl
 | .nilIface,v'=>by simp[VR,vren]
 | .agg c,v'=>by simp only[VR,vren];simp only[VRA_ren c]
 | .tuple c,v'=>by simp only[VR,vren];simp only[VRA_ren c]
theorem VRA_ren{F:Nm}{τ:Nat->Nat}:∀(c c':Array Value),VRA F (vrenA τ c) c'↔VRA (F.re τ) c c'
 |⟨l⟩,c'=>by simp only[VRA,vrenA];exact VRL_ren l _
theorem VRL_ren{F:Nm}{τ:Nat->Nat}:∀(l l':List Value),VRL F (vrenL τ l) l'↔VRL (F.re τ) l l'
 | [],l'=>by simp[VRL,vrenL]
 |v::l,l'=>by simp only[VRL,vrenL];simp only[VR_ren v,VRL_ren l]
end
theorem vrenL_length(τ:Nat->Nat):∀l:List Value,(vrenL τ l).length=l.length
 | []=>rfl
 |v::l=>by simp[vrenL,vrenL_length τ l]
def oren(τ:Nat->Nat):AObj->AObj
 | .cells vs elem sz lo ow => .cells (vrenL τ vs) elem sz lo ow
 | .map ks vs bs clock => .map (vrenL τ ks) (vrenL τ vs) bs clock
theorem oren_own(τ:Nat->Nat)(o:AObj):(oren τ o).own=o.own:=by cases o<;>rfl
theorem objR_ren{F:Nm}{τ:Nat->Nat}{B:Base}{w:World}{n:Nat}{o:AObj}(h:objR F B w (τ n) (oren τ o)):objR (F.re τ) B w n o:=by
 cases o with
 |cells vs elem sz lo ow=>
  obtain⟨b,d,s,c,fz,h1,h2,h3,h4,h5,h6⟩:=h
  rw[vrenL_length]at h3 h4 h5
  exact⟨b,d,s,c,fz,h1,h2,(VRL_ren _ _).1 h3,h4,h5,h6⟩
 |map ks vs bs clock=>
  obtain⟨b,es,h1,h2,h3,h4,h5⟩:=h
  exact⟨b,es,h1,h2,(VRL_ren _ _).1 h3,(VRL_ren _ _).1 h4,h5⟩
theorem objR_ren'{F:Nm}{τ:Nat->Nat}{B:Base}{w:World}{n:Nat}{o:AObj}(h:objR (F.re τ) B w n o):objR F B w (τ n) (oren τ o):=by
 cases o with
 |cells vs elem sz lo ow=>
  obtain⟨b,d,s,c,fz,h1,h2,h3,h4,h5,h6⟩:=h
  refine⟨b,d,s,c,fz,h1,h2,?_,?_,?_,h6⟩<;>rw[vrenL_length]
  ·exact(VRL_ren _ _).2 h3
  ·exact h4
  ·exact h5
 |map ks vs bs clock=>
  obtain⟨b,es,h1,h2,h3,h4,h5⟩:=h
  exact⟨b,es,h1,h2,(VRL_ren _ _).2 h3,(VRL_ren _ _).2 h4,h5⟩
def eren(τ:Nat->Nat):Ending->Ending
 | .returned v => .returned (vren τ v)
 | .panicked c => .panicked (c.map fun e=>{e with v:=vren τ e.v})
 | .outgrown => .outgrown
theorem ChR_ren{F:Nm}{τ:Nat->Nat}:∀(l l':List PanicEntry),ChR F (l.map fun e=>{e with v:=vren τ e.v}) l'↔ChR (F.re τ) l l'
 | [],l'=>Iff.rfl
 |e::l,l'=>by
  simp only[List.map_cons,ChR]
  constructor
  ·rintro ⟨v',r',h1,h2,h3⟩;exact⟨v',r',(VR_ren _ _).1 h1,(ChR_ren l r').1 h2,h3⟩
  ·rintro ⟨v',r',h1,h2,h3⟩;exact⟨v',r',(VR_ren _ _).2 h1,(ChR_ren l r').2 h2,h3⟩
theorem EnR_ren{F:Nm}{τ:Nat->Nat}(e e':Ending):EnR F (eren τ e) e'↔EnR (F.re τ) e e':=by
 cases e with
 |returned v=>
  simp only[eren,EnR]
  constructor
  ·rintro ⟨v',h1,h2⟩;exact⟨v',(VR_ren _ _).1 h1,h2⟩
  ·rintro ⟨v',h1,h2⟩;exact⟨v',(VR_ren _ _).2 h1,h2⟩
 |panicked c=>
  simp only[eren,EnR]
  constructor
  ·rintro ⟨v',h1,h2⟩;exact⟨v',(ChR_ren _ _).1 h1,h2⟩
  ·rintro ⟨v',h1,h2⟩;exact⟨v',(ChR_ren _ _).2 h1,h2⟩
 |outgrown=>exact Iff.rfl
def glTr:List (Nat×AObj)->Tr AObj
 | [] => .lf
 |x::l=>(glTr l).set x.1 (some x.2)
theorem glTr_mem:∀(gl:List (Nat×AObj)) (m:Nat) (o:AObj),(glTr gl).get m=some o->(m,o)∈gl
 | [],m,o,h=>by rw[glTr,Tr.get_lf]at h;cases h
 |x::l,m,o,h=>by
  rw[glTr,Tr.get_set]at h
  split at h
  ·rename_i e;simp only[Option.some.injEq]at h;subst e;subst h;exact List.mem_cons_self ..
  ·exact List.mem_cons_of_mem _ (glTr_mem l m o h)
def hOf(G:Nat)(gl:List (Nat×AObj))(l:List (Option AObj)):Heap:=⟨putRow G l (glTr gl),G+l.length⟩
where putRow:Nat->List (Option AObj)->Tr AObj->Tr AObj
 |_,[],t=>t
 |n,o::l,t=>putRow (n+1) l (t.set n o)
theorem putRow_get:∀(l:List (Option AObj)) (n:Nat) (t:Tr AObj) (m:Nat),(hOf.putRow n l t).get m=if n<=m/\m<n+l.length then(l[m-n]?).getD none else t.get m
 | [],n,t,m=>by simp only[hOf.putRow,List.length_nil];rw[if_neg (by omega)]
 |o::l,n,t,m=>by
  simp only[hOf.putRow,putRow_get l (n+1),Tr.get_set,List.length_cons]
  by_cases e:m=n
  ·subst e;rw[if_neg (by omega),if_pos rfl,if_pos (by omega)];simp
  ·by_cases h:n+1<=m/\m<n+1+l.length
   ·rw[if_pos h,if_pos (by omega)]
    have:m-n=(m-(n+1))+1:=by omega
    rw[this,List.getElem?_cons_succ]
   ·rw[if_neg h,if_neg e,if_neg (by omega)]
theorem hOf_get(G:Nat)(gl:List (Nat×AObj))(l:List (Option AObj))(m:Nat):(hOf G gl l).get m=if G<=m/\m<G+l.length then(l[m-G]?).getD none else(glTr gl).get m:=putRow_get _ _ _ _
structure Ctr where
 f:FuncId
 args:List Value
 gl:List (Nat×AObj)
 ins:List AObj
 e:Ending
 upd:List (Option AObj)
 new:List AObj
def Valid(P:Program)(G:Nat)(c:Ctr):Prop:=c.upd.length=c.ins.length/\c.new.all (·.own)=true/\
 ∀B,CallH P G B c.f c.args (hOf G c.gl (c.ins.map some)) c.e (hOf G [] (c.upd++c.new.map some))
def tau(G:Nat)(ns:List Nat)(next:Nat)(n:Nat):Nat:=
 match Nat.blt n G with
 |true=>n
 |false=>match ns[n-G]? with
  |some m=>m
  |none=>next+(n-G-ns.length)
theorem tau_lt{G:Nat}{ns:List Nat}{next n:Nat}(h:n<G):tau G ns next n=n:=by
 unfold tau;rw[show Nat.blt n G=true from Nat.ble_eq_true_of_le h]
theorem blt_false{n G:Nat}(h:G<=n):Nat.blt n G=false:=by
 cases hb:Nat.blt n G with
 |false=>rfl
 |true=>have:n<G:=Nat.le_of_ble_eq_true hb;omega
theorem tau_in{G:Nat}{ns:List Nat}{next n m:Nat}(h:G<=n)(hm:ns[n-G]?=some m):tau G ns next n=m:=by
 unfold tau;rw[blt_false h];simp only[hm]
theorem tau_new{G:Nat}{ns:List Nat}{next n:Nat}(h:G+ns.length<=n):tau G ns next n=next+(n-G-ns.length):=by
 unfold tau;rw[blt_false (by omega),List.getElem?_eq_none (by omega)]
def putAll(H:Heap):List Nat->List (Option AObj)->Heap
 |n::ns,o::os=>putAll (H.put n o) ns os
 |_,_=>H
def pushAll(H:Heap):List AObj->Heap
 | []=>H
 |o::os=>pushAll (H.push o) os
theorem putAll_next:∀(ns:List Nat) (os:List (Option AObj)) (H:Heap),(putAll H ns os).next=H.next
 | [],_,_=>rfl
 |_::_,[],_=>rfl
 |n::ns,o::os,H=>by simp only[putAll];rw[putAll_next ns os];rfl
theorem putAll_get:∀(ns:List Nat) (os:List (Option AObj)) (H:Heap) (m:Nat),ns.length=os.length->ns.Nodup->
  ((∀i:Nat,ns[i]?=some m->(putAll H ns os).get m=(os[i]?).getD none)/\(m ∉ ns->(putAll H ns os).get m=H.get m))
 | [],os,H,m,_,_=>⟨fun i hi=>by simp at hi,fun _=>rfl⟩
 |n::ns,[],H,m,hl,_=>by simp at hl
 |n::ns,o::os,H,m,hl,hnd=>by
  simp only[List.nodup_cons]at hnd
  obtain⟨h1,h2⟩:=putAll_get ns os (H.put n o) m (by simpa using hl) hnd.2
  simp only[putAll]
  constructor
  ·intro i hi
   cases i with
   |zero=>
    simp only[List.getElem?_cons_zero,Option.some.injEq]at hi;subst hi
    rw[h2 hnd.1,Heap.get_put,if_pos rfl];rfl
   |succ i=>
    simp only[List.getElem?_cons_succ]at hi
    rw[h1 i hi];rfl
  ·intro hm
   simp only[List.mem_cons,not_or]at hm
   rw[h2 hm.2,Heap.get_put,if_neg hm.1]
theorem pushAll_next:∀(os:List AObj) (H:Heap),(pushAll H os).next=H.next+os.length
 | [],H=>rfl
 |o::os,H=>by simp only[pushAll];rw[pushAll_next os];simp only[Heap.push,List.length_cons];omega
theorem pushAll_get:∀(os:List AObj) (H:Heap) (m:Nat),(pushAll H os).get m=if H.next<=m/\m<H.next+os.length then os[m-H.next]? else H.get m
 | [],H,m=>by simp only[pushAll,List.length_nil];rw[if_neg (by omega)]
 |o::os,H,m=>by
  simp only[pushAll,pushAll_get os (H.push o),Heap.get_push,List.length_cons]
  have hn:(H.push o).next=H.next+1:=rfl
  rw[hn]
  by_cases e:m=H.next
  ·subst e;rw[if_neg (by omega),if_pos rfl,if_pos (by omega)];simp
  ·by_cases h:H.next+1<=m/\m<H.next+1+os.length
   ·rw[if_pos h,if_pos (by omega)]
    have:m-H.next=(m-(H.next+1))+1:=by omega
    rw[this,List.getElem?_cons_succ]
   ·rw[if_neg h,if_neg e,if_neg (by omega)]
section
variable {P:Program} {G:Nat}
theorem Rel.next_le{F:Nm}{H:Heap}{B:Base}{w:World}(R:Rel G F H B w):G<=H.next:=by
 rcases Nat.lt_or_ge H.next G with h|h
 ·have h1:=R.glob H.next h
  rw[R.fresh H.next (Nat.le_refl _)]at h1;cases h1
 ·exact h
theorem Rel.live_lt{F:Nm}{H:Heap}{B:Base}{w:World}(R:Rel G F H B w){n:Nat}{o:AObj}(h:H.get n=some o):n<H.next:=by
 rcases Nat.lt_or_ge n H.next with h2|h2
 ·exact h2
 ·rw[R.nolive h2]at h;cases h
theorem Rel.blk_lt{F:Nm}{H:Heap}{B:Base}{w:World}(R:Rel G F H B w){n:Nat}{o:AObj}(h:H.get n=some o):∃b,blk F n=some b/\b<w.heap.size/\(o.own=true->¬B.prot b):=objR_blk (R.obj n o h)
theorem Valid.call{c:Ctr}(hv:Valid P G c){H:Heap}{ns:List Nat}(hl:ns.length=c.ins.length)(hnd:ns.Nodup)
  (hobj:∀(i:Nat) (o:AObj),c.ins[i]?=some o->∃n:Nat,ns[i]?=some n/\G<=n/\H.get n=some (oren (tau G ns H.next) o))
  (hgl:∀x∈c.gl,x.1<G/\x.2.own=false/\H.get x.1=some x.2/\oren (tau G ns H.next) x.2=x.2) (B:Base):
  CallH P G B c.f (vrenL (tau G ns H.next) c.args) H (eren (tau G ns H.next) c.e)
   (pushAll (putAll H ns (c.upd.map (·.map (oren (tau G ns H.next))))) (c.new.map (oren (tau G ns H.next)))):=by
 obtain⟨hu,hnew,hcall⟩:=hv
 intro F w args' R ha
 have hGn:=R.next_le
 generalize hτ:tau G ns H.next=τ at*
 have hτlt:∀n,n<G->τ n=n:=fun n h=>by rw[←hτ];exact tau_lt h
 have hτin:∀n m:Nat,G<=n->ns[n-G]?=some m->τ n=m:=fun n m h h2=>by rw[←hτ];exact tau_in h h2
 have hτnew:∀n,G+ns.length<=n->τ n=H.next+(n-G-ns.length):=fun n h=>by rw[←hτ];exact tau_new h
 -- a name that is handed in
 have hin:∀n,G<=n->n<G+ns.length->∃o m,c.ins[n-G]?=some o/\ns[n-G]?=some m/\τ n=m/\H.get m=some (oren τ o):=by
  intro n h1 h2
  have h3:n-G<c.ins.length:=by omega
  obtain⟨m,g1,g2,g3⟩:=hobj (n-G) c.ins[n-G] (by simp[h3])
  exact⟨_,m,by simp[h3],g1,hτin n m h1 g1,g3⟩
 -- what must stay
 let B2:Base:=⟨w,fun i=>i<w.heap.size/\∀n o,n∈ns->H.get n=some o->o.own=true->blk F n≠some i,fun i h=>h.1,F.z,fun g vs hg=>by
  obtain⟨h1,t,fz,h2⟩:=B.tab g vs hg
  refine⟨⟨Nat.lt_of_lt_of_le (B.lt g h1) R.base,fun n o _ ho hown hblk=>?_⟩,t,fz,by rw[R.frame g h1];exact h2⟩
  obtain⟨b',g1,_,g3⟩:=R.blk_lt ho
  rw[hblk]at g1;simp only[Option.some.injEq]at g1;subst g1
  exact g3 hown h1⟩
 have hins:∀n o,(hOf G c.gl (c.ins.map some)).get n=some o->(G<=n/\n<G+ns.length/\c.ins[n-G]?=some o)∨(n<G/\o.own=false/\H.get n=some o/\oren τ o=o):=by
  intro n o h
  rw[hOf_get]at h
  split at h
  ·rename_i hg
   rw[List.getElem?_map]at h
   cases hc:c.ins[n-G]? with
   |none=>rw[hc]at h;cases h
   |some o'=>
    rw[hc]at h;simp only[Option.map_some,Option.getD_some,Option.some.injEq]at h;subst h
    have:=(List.getElem?_eq_some_iff.1 hc).1
    exact .inl ⟨hg.1,by omega,rfl⟩
  ·exact .inr (hgl _ (glTr_mem _ _ _ h))
 have R2:Rel G (F.re τ) (hOf G c.gl (c.ins.map some)) B2 w:=by
  constructor
  ·intro n o h
   rcases hins n o h with⟨h1,h2,h3⟩ | ⟨h1,h2,h3,h4⟩
   case inr=>
    have h5:=R.obj n o h3
    have h6:objR F B2 w (τ n) (oren τ o):=by
     rw[h4,hτlt n h1]
     exact objR_base h5 fun ho=>by rw[h2]at ho;cases ho
    exact objR_ren h6
   obtain⟨o',m,g1,g2,g3,g4⟩:=hin n h1 h2
   rw[h3]at g1;simp only[Option.some.injEq]at g1;subst g1
   have h5:=R.obj m _ g4
   have hm:m∈ns:=List.mem_of_getElem? g2
   have h6:objR F B2 w m (oren τ o):=by
    exact objR_base h5 fun ho b hb _ hp=>hp.2 m _ hm g4 ho hb
   rw[←g3]at h6
   exact objR_ren h6
  ·intro n m o o' hn hm hne ho
   rcases hins n o hn with⟨h1,h2,h3⟩ | ⟨h1,h2,h3,h4⟩
   case inr=>rw[h2]at ho;cases ho
   rcases hins m o' hm with⟨h1',h2',h3'⟩ | ⟨h1',h2',h3',h4'⟩
   case inr=>
    obtain⟨p,a,g1,g2,g3,g4⟩:=hin n h1 h2
    rw[h3]at g1;simp only[Option.some.injEq]at g1;subst g1
    obtain⟨q,e1,e2,e3⟩:=hobj (n-G) _ h3
    rw[g2]at e1;simp only[Option.some.injEq]at e1;subst e1
    have:=R.inj a m _ _ g4 h3' (by omega) (by rw[oren_own];exact ho)
    simp only[blk,Nm.re,g3,hτlt m h1']at this ⊢;exact this
   obtain⟨p,a,g1,g2,g3,g4⟩:=hin n h1 h2
   obtain⟨p',a',g1',g2',g3',g4'⟩:=hin m h1' h2'
   rw[h3]at g1;simp only[Option.some.injEq]at g1;subst g1
   have hne':a≠a':=by
    intro e;subst e
    have h4:n-G<ns.length:=by omega
    have:=(List.getElem?_inj h4 hnd).1 (g2.trans g2'.symm)
    omega
   have:=R.inj a a' _ _ g4 g4' hne' (by rw[oren_own];exact ho)
   simp only[blk,Nm.re,g3,g3']at this ⊢;exact this
  ·intro n hn
   have hn:G+(c.ins.map some).length<=n:=hn
   rw[List.length_map]at hn
   simp only[Nm.re,hτnew n (by omega)]
   exact R.fresh _ (by omega)
  ·intro g hg
   simp only[Nm.re,hτlt g hg];exact R.glob g hg
  ·exact Nat.le_refl _
  ·intro i _;rfl
  ·intro b i v hz
   refine⟨R.frozB hz fun hn hp=>absurd ⟨Nat.lt_of_lt_of_le (B.lt b hp) R.base,fun n o _ ho hown hblk=>by
    obtain⟨b',g1,_,g3⟩:=R.blk_lt ho
    rw[hblk]at g1;simp only[Option.some.injEq]at g1;subst g1
    exact g3 hown hp⟩ hn,fun n o hn ho=>?_⟩
   rcases hins n o hn with⟨h1,h2,h3⟩ | ⟨h1,h2,h3,h4⟩
   case inr=>rw[h2]at ho;cases ho
   obtain⟨p,a,g1,g2,g3,g4⟩:=hin n h1 h2
   rw[h3]at g1;simp only[Option.some.injEq]at g1;subst g1
   have:=(R.froz b i v hz).2 a _ g4 (by rw[oren_own];exact ho)
   simp only[blk,Nm.re,g3]at this ⊢;exact this
  ·intro b i v hz _;exact hz
  ·rfl
  ·rfl
  ·rfl
 refine(hcall B2 _ w args' R2 ((VRL_ren _ _).1 ha)).mono fun e1 w' ⟨F3,hle,he,R3⟩=>?_
 -- the names behind the call
 let F4:Nm:=⟨fun n=>if H.next<=n then F3 (G+ns.length+(n-H.next))else F n,F3.z⟩
 have hF4:∀n,F3 n=F4 (τ n):=by
  intro n
  rcases Nat.lt_or_ge n G with h|h
  ·have h1:F4 (τ n)=F n:=by simp only[F4,hτlt n h];rw[if_neg (by omega)]
   rw[h1]
   have:=R.glob n h
   rw[this];exact hle.nm n _ (by simp only[Nm.re,hτlt n h];exact this)
  ·rcases Nat.lt_or_ge n (G+ns.length)with h2|h2
   ·obtain⟨o,m,g1,g2,g3,g4⟩:=hin n h h2
    have hm:=R.live_lt g4
    have h1:F4 (τ n)=F m:=by simp only[F4,g3];rw[if_neg (by omega)]
    rw[h1]
    obtain⟨b,hb,_⟩:=R.blk_lt g4
    cases hF:F m with
    |none=>simp[blk,hF]at hb
    |some x=>exact hle.nm n x (by simp only[Nm.re,g3];exact hF)
   ·have h1:F4 (τ n)=F3 (G+ns.length+(H.next+(n-G-ns.length)-H.next)):=by
     simp only[F4,hτnew n h2];rw[if_pos (by omega)]
    rw[h1];congr 1;omega
 have hF3:F3=F4.re τ:=Nm.ext_of (fun n=>hF4 n) rfl
 have hleF:Nm.le F F4:=by
  refine⟨?_,hle.zs⟩
  intro n x hx
  have:n<H.next:=by
   rcases Nat.lt_or_ge n H.next with h|h
   ·exact h
   ·rw[R.fresh n h]at hx;cases hx
  simp only[F4];rw[if_neg (by omega)];exact hx
 refine⟨F4,hleF,(EnR_ren _ _).2 (by rw[←hF3];exact he),?_⟩
 rw[hF3]at R3
 -- what the heap holds
 have hul:ns.length=(c.upd.map (·.map (oren τ))).length:=by rw[List.length_map];omega
 have hcases:∀n o,(pushAll (putAll H ns (c.upd.map (·.map (oren τ)))) (c.new.map (oren τ))).get n=some o->
   (∃k p,n=τ k/\o=oren τ p/\(hOf G [] (c.upd++c.new.map some)).get k=some p/\((k<G+ns.length/\n∈ns)∨(G+ns.length<=k/\H.next<=n/\p.own=true)))∨(n ∉ ns/\n<H.next/\H.get n=some o):=by
  intro n o h
  rw[pushAll_get,putAll_next]at h
  split at h
  ·rename_i hr
   left
   rw[List.getElem?_map]at h
   rw[List.length_map]at hr
   cases hc:c.new[n-H.next]? with
   |none=>rw[hc]at h;cases h
   |some p=>
    rw[hc]at h;simp only[Option.map_some,Option.some.injEq]at h
    refine⟨G+ns.length+(n-H.next),p,?_,h.symm,?_,.inr ⟨by omega,hr.1,?_⟩⟩
    ·rw[hτnew _ (by omega)];omega
    ·rw[hOf_get,if_pos (by rw[List.length_append,List.length_map];omega),List.getElem?_append_right (by omega),List.getElem?_map]
     have:G+ns.length+(n-H.next)-G-c.upd.length=n-H.next:=by omega
     rw[this,hc];rfl
    ·exact List.all_eq_true.1 hnew p (List.mem_of_getElem? hc)
  ·rename_i hr
   by_cases hm:n∈ns
   ·left
    obtain⟨i,hi⟩:=List.getElem?_of_mem hm
    have hil:i<ns.length:=(List.getElem?_eq_some_iff.1 hi).1
    rw[(putAll_get ns _ H n hul hnd).1 i hi,List.getElem?_map]at h
    have hiu:i<c.upd.length:=by omega
    rw[List.getElem?_eq_getElem hiu]at h
    simp only[Option.map_some,Option.getD_some,Option.map_eq_some_iff]at h
    obtain⟨p,hp,e⟩:=h
    refine⟨G+i,p,(hτin (G+i) n (by omega) (by rw[Nat.add_sub_cancel_left];exact hi)).symm,e.symm,?_,.inl ⟨by omega,hm⟩⟩
    rw[hOf_get,if_pos (by rw[List.length_append,List.length_map];omega),Nat.add_sub_cancel_left,List.getElem?_append_left hiu,List.getElem?_eq_getElem hiu]
    simpa using hp
   ·right
    rw[(putAll_get ns _ H n hul hnd).2 hm]at h
    exact⟨hm,R.live_lt h,h⟩
 -- whose block an object of the callee's may write
 have hprot:∀b,¬B2.prot b->w.heap.size<=b∨∃n o,n∈ns/\H.get n=some o/\o.own=true/\blk F n=some b:=by
  intro b hb
  rcases Nat.lt_or_ge b w.heap.size with h|h
  ·right
   refine Classical.byContradiction fun hc=>hb ⟨h,fun n o hn ho hown hblk=>hc ⟨n,o,hn,ho,hown,hblk⟩⟩
  ·exact .inl h
 have hnprot:∀b,¬B2.prot b->¬B.prot b:=by
  intro b hb hB
  rcases hprot b hb with h|⟨n,o,h1,h2,h3,h4⟩
  ·have:=B.lt b hB;have:=R.base;omega
  ·obtain⟨b',g1,_,g3⟩:=R.blk_lt h2
   rw[h4]at g1;simp only[Option.some.injEq]at g1;subst g1
   exact g3 h3 hB
 have hother:∀n o,n ∉ ns->H.get n=some o->∀b,blk F n=some b->B2.prot b:=by
  intro n o hn ho b hb
  obtain⟨b',g1,g2,_⟩:=R.blk_lt ho
  rw[hb]at g1;simp only[Option.some.injEq]at g1;subst g1
  refine⟨g2,fun m o' hm ho' hown hblk=>?_⟩
  have:=R.inj m n o' o ho' ho (fun e=>hn (e ▸ hm)) hown
  exact this (by rw[hblk,hb])
 have hF4old:∀n,n<H.next->F4 n=F n:=fun n h=>by simp only[F4];rw[if_neg (by omega)]
 constructor
 ·intro n o h
  rcases hcases n o h with⟨k,p,e1,e2,e3,e4⟩ | ⟨h1,h2,h3⟩
  ·subst e1;subst e2
   have h5:=R3.obj k p e3
   have h6:objR (F4.re τ) B w' k p:=by
    exact objR_base h5 fun _ b _ hb=>hnprot b hb
   exact objR_ren' h6
  ·have h5:=R.obj n o h3
   have h6:objR F B w' n o:=objR_other h5 fun b hb=>R3.frame b (hother n o h1 h3 b hb)
   exact objR_mono hleF h6
 ·intro n m o o' hn hm hne ho
  have hA:∀n o,(∃k p,n=τ k/\o=oren τ p/\(hOf G [] (c.upd++c.new.map some)).get k=some p)->∃b,blk F4 n=some b/\(o.own=true->¬B2.prot b):=by
   rintro n o ⟨k,p,e1,e2,e3⟩
   subst e1;subst e2
   obtain⟨b,g1,_,g3⟩:=R3.blk_lt e3
   exact⟨b,g1,fun h=>g3 (by rw[oren_own]at h;exact h)⟩
  rcases hcases n o hn with⟨k,p,e1,e2,e3,e4⟩ | ⟨h1,h2,h3⟩<;>rcases hcases m o' hm with⟨k',p',e1',e2',e3',e4'⟩ | ⟨h1',h2',h3'⟩
  ·subst e1;subst e2;subst e1'
   exact R3.inj k k' p p' e3 e3' (fun e=>hne (by rw[e])) (by rw[oren_own]at ho;exact ho)
  ·obtain⟨b,hb,hown⟩:=hA n o ⟨k,p,e1,e2,e3⟩
   obtain⟨b',hb',hlt',_⟩:=R.blk_lt h3'
   intro e
   rw[hb]at e
   simp only[blk,hF4old m h2']at e
   have e':blk F m=some b:=e.symm
   exact hown ho (hother m o' h1' h3' b e')
  ·obtain⟨b',hb',hown'⟩:=hA m o' ⟨k',p',e1',e2',e3'⟩
   intro e
   simp only[blk,hF4old n h2]at e
   have e':blk F n=some b':=by rw[←hb'];exact e
   -- n is ours to write; m is one of the callee's
   rcases e4' with⟨_,hmem⟩ | ⟨_,_,hown2⟩
   ·obtain⟨i,hi⟩:=List.getElem?_of_mem hmem
    have hil:i<c.ins.length:=by have:=(List.getElem?_eq_some_iff.1 hi).1;omega
    obtain⟨q,g1,_,g3⟩:=hobj i c.ins[i] (by simp[hil])
    rw[hi]at g1;simp only[Option.some.injEq]at g1;subst g1
    have:=R.inj n m o _ h3 g3 hne ho
    apply this
    have hmlt:=R.live_lt g3
    simp only[blk,hF4old m hmlt]at hb'
    rw[e'];exact hb'.symm
   ·have:=hother n o h1 h3 b' e'
    exact hown' (by rw[e2',oren_own];exact hown2) this
  ·have:=R.inj n m o o' h3 h3' hne ho
   simp only[blk,hF4old n h2,hF4old m h2']at this ⊢;exact this
 ·intro n hn
  rw[pushAll_next,putAll_next,List.length_map]at hn
  simp only[F4];rw[if_pos (by omega)]
  have:=R3.fresh (G+ns.length+(n-H.next)) (by show G+(c.upd++c.new.map some).length<=_;rw[List.length_append,List.length_map];omega)
  have this:F4 (τ (G+ns.length+(n-H.next)))=none:=this
  rw[←hF4]at this;exact this
 ·intro g hg
  exact hleF.nm _ _ (R.glob g hg)
 ·have:=R.base;have:=R3.base
  have e:B2.w.heap.size=w.heap.size:=rfl
  omega
 ·intro i hi
  have h1:=B.lt i hi
  have h2:=R.base
  have h3:B2.prot i:=⟨by omega,fun n o _ ho hown hblk=>by
   obtain⟨b,g1,_,g3⟩:=R.blk_lt ho
   rw[hblk]at g1;simp only[Option.some.injEq]at g1;subst g1
   exact g3 hown hi⟩
  rw[R3.frame i h3];exact R.frame i hi
 ·intro b i v hz
  refine⟨R3.frozB hz fun hn hp c t fz hw=>R.un b i v (R3.zprot b i v hz hp) hn c t fz (by rw[←R3.frame b hp];exact hw),fun n o hn ho=>?_⟩
  rcases hcases n o hn with⟨k,p,e1,e2,e3,e4⟩ | ⟨h1,h2,h3⟩
  ·subst e1;subst e2
   exact(R3.froz b i v hz).2 k p e3 (by rw[oren_own]at ho;exact ho)
  ·intro e
   simp only[blk,hF4old n h2]at e
   have hp:=hother n o h1 h3 b e
   exact(R.froz b i v (R3.zprot b i v hz hp)).2 n o h3 ho e
 ·intro b i v hz hp
  have h1:=B.lt b hp
  have h2:=R.base
  have h3:B2.prot b:=⟨by omega,fun n o _ ho hown hblk=>by
   obtain⟨b',g1,_,g3⟩:=R.blk_lt ho
   rw[hblk]at g1;simp only[Option.some.injEq]at g1;subst g1
   exact g3 hown hp⟩
  exact R.zprot b i v (R3.zprot b i v hz h3) hp
 ·rw[R3.os];exact R.os
 ·rw[R3.out];exact R.out
 ·rw[R3.tape];exact R.tape
end
end
end Go.Abs
namespace Go.Abs
open Go
noncomputable section
def beqN:List Nat->List Nat->Bool
 | [],[]=>true
 |a::l,b::l'=>Nat.beq a b&&beqN l l'
 |_,_=>false
theorem beqN_eq:∀(a b:List Nat),beqN a b=true->a=b
 | [],[],_=>rfl
 | [],_::_,h=>by cases h
 |_::_,[],h=>by cases h
 |a::l,b::l',h=>by
  simp only[beqN,Bool.and_eq_true]at h
  rw[Nat.eq_of_beq_eq_true h.1,beqN_eq _ _ h.2]
def beqO:AObj->AObj->Bool
 | .cells vs e s l o,.cells vs' e' s' l' o'=>Nat.beq e e'&&(Nat.beq s s'&&((l==l')&&((o==o')&&beqL vs vs')))
 | .map ks vs bs c,.map ks' vs' bs' c'=>Nat.beq c c'&&(beqN bs bs'&&(beqL ks ks'&&beqL vs vs'))
 |_,_=>false
theorem beqO_eq:∀(a b:AObj),beqO a b=true->a=b
 | .cells vs e s l o,.cells vs' e' s' l' o',h=>by
  simp only[beqO,Bool.and_eq_true,beq_iff_eq]at h
  obtain⟨h1,h2,h3,h4,h5⟩:=h
  rw[Nat.eq_of_beq_eq_true h1,Nat.eq_of_beq_eq_true h2,h3,h4,beqL_eq _ _ h5]
 | .map ks vs bs c,.map ks' vs' bs' c',h=>by
  simp only[beqO,Bool.and_eq_true]at h
  rw[Nat.eq_of_beq_eq_true h.1,beqN_eq _ _ h.2.1,beqL_eq _ _ h.2.2.1,beqL_eq _ _ h.2.2.2]
 | .map ..,.cells ..,h=>by simp[beqO]at h
 | .cells ..,.map ..,h=>by simp[beqO]at h
def beqC:List PanicEntry->List PanicEntry->Bool
 | [],[]=>true
 |e::l,e'::l'=>beqV e.v e'.v&&((e.recovered==e'.recovered)&&((e.goexit==e'.goexit)&&beqC l l'))
 |_,_=>false
def beqE:Ending->Ending->Bool
 | .returned v,.returned v'=>beqV v v'
 | .panicked c,.panicked c'=>beqC c c'
 |_,_=>false
def memB(n:Nat):List Nat->Bool
 | []=>false
 |m::l=>Nat.beq n m||memB n l
def nodupB:List Nat->Bool
 | []=>true
 |n::l=>!memB n l&&nodupB l
def atB(h0:Heap)(n:Nat)(o:AObj):Bool:=match h0.get n with
 |some o'=>beqO o o'
 |none=>false
def cellR(τ:Nat->Nat)(v v':Value):Bool:=match v with
 | .int k n=>match v' with
  | .int k' n'=>decide (k=k')&&decide (n=n')
  |_=>false
 | .slice none a b=>match v' with
  | .slice none a' b'=>Nat.beq a a'&&Nat.beq b b'
  |_=>false
 | .bool b=>match v' with
  | .bool b'=>b==b'
  |_=>false
 |v=>beqV (vren τ v) v'
theorem cellR_eq{τ:Nat->Nat}{v v':Value}(h:cellR τ v v'=true):vren τ v=v':=by
 unfold cellR at h
 split at h
 ·split at h
  ·simp only[Bool.and_eq_true,decide_eq_true_eq]at h
   rw[h.1,h.2];rfl
  ·cases h
 ·split at h
  ·simp only[Bool.and_eq_true]at h
   rw[Nat.eq_of_beq_eq_true h.1,Nat.eq_of_beq_eq_true h.2];rfl
  ·cases h
 ·split at h
  ·simp only[beq_iff_eq]at h
   rw[h];rfl
  ·cases h
 ·exact beqV_eq _ _ h
def lR(τ:Nat->Nat)(l:List Value):List Value->Bool:=
 List.rec (motive:=fun _=>List Value->Bool) (fun m=>match m with
  | []=>true
  |_::_=>false) (fun a _ ih m=>match m with
  | []=>false
  |b::r=>match cellR τ a b with
   |true=>ih r
   |false=>false) l
theorem lR_cons(τ:Nat->Nat)(a:Value)(l:List Value)(m:List Value):lR τ (a::l) m=match m with
 | []=>false
 |b::r=>match cellR τ a b with
  |true=>lR τ l r
  |false=>false:=rfl
theorem lR_eq{τ:Nat->Nat}:∀(l m:List Value),lR τ l m=true->vrenL τ l=m
 | [],[],_=>rfl
 | [],_::_,h=>by cases h
 |a::l,[],h=>by rw[lR_cons]at h;cases h
 |a::l,b::r,h=>by
  rw[lR_cons]at h
  simp only at h
  split at h
  ·rename_i hc
   rw[vrenL,cellR_eq hc,lR_eq l r h]
  ·cases h
def cell2(τ:Nat->Nat)(v v':Value):Bool:=match v with
 | .agg ⟨l⟩=>match v' with
  | .agg ⟨l'⟩=>lR τ l l'
  |_=>false
 |v=>cellR τ v v'
def l2(τ:Nat->Nat):List Value->List Value->Bool
 | [],[]=>true
 |a::l,b::r=>cell2 τ a b&&l2 τ l r
 |_,_=>false
def oR(τ:Nat->Nat)(o o':AObj):Bool:=match o with
 | .cells vs e s l w=>match o' with
  | .cells vs' e' s' l' w'=>Nat.beq e e'&&(Nat.beq s s'&&((l==l')&&((w==w')&&lR τ vs vs')))
  |_=>false
 |o=>beqO (oren τ o) o'
theorem oR_eq{τ:Nat->Nat}{o o':AObj}(h:oR τ o o'=true):oren τ o=o':=by
 unfold oR at h
 split at h
 ·split at h
  ·simp only[Bool.and_eq_true,beq_iff_eq]at h
   obtain⟨h1,h2,h3,h4,h5⟩:=h
   rw[oren,Nat.eq_of_beq_eq_true h1,Nat.eq_of_beq_eq_true h2,h3,h4,lR_eq _ _ h5]
  ·cases h
 ·exact beqO_eq _ _ h
def atR(h0:Heap)(τ:Nat->Nat)(n:Nat)(o:AObj):Bool:=match h0.get n with
 |some o'=>oR τ o o'
 |none=>false
theorem atR_ok{h0:Heap}{τ:Nat->Nat}{n:Nat}{o:AObj}(h:atR h0 τ n o=true):h0.get n=some (oren τ o):=by
 unfold atR at h
 split at h
 ·rename_i o' e;rw[e,oR_eq h]
 ·cases h
def updOk(τ:Nat->Nat)(h0:Heap):Nat->List (Option AObj)->Bool
 |_,[]=>true
 |n,none::l=>updOk τ h0 (n+1) l
 |n,some o::l=>atR h0 τ n o&&updOk τ h0 (n+1) l
def newOk(τ:Nat->Nat)(h0:Heap)(lo:Nat):List AObj->List Nat->Bool
 | [],[]=>true
 |o::l,m::ms=>o.own&&(Nat.ble lo m&&(atR h0 τ m o&&newOk τ h0 lo l ms))
 |_,_=>false
section
variable {P:Program} {G:Nat} {orc:Orc}
theorem Rel.pick{F:Nm}{H H':Heap}{B:Base}{w:World}(R:Rel G F H B w)(τ:Nat->Nat)(hobj:∀n o,H'.get n=some o->H.get (τ n)=some (oren τ o))
  (hinj:∀n m o o',H'.get n=some o->H'.get m=some o'->τ n=τ m->n=m) (hfresh:∀n,H'.next<=n->H.next<=τ n) (hglob:∀g,g<G->τ g=g):
  Rel G (F.re τ) H' B w:=by
 constructor
 ·intro n o h;exact objR_ren (R.obj _ _ (hobj n o h))
 ·intro n m o o' hn hm hne ho
  exact R.inj (τ n) (τ m) _ _ (hobj n o hn) (hobj m o' hm) (fun e=>hne (hinj n m o o' hn hm e)) (by rw[oren_own];exact ho)
 ·intro n hn;exact R.fresh _ (hfresh n hn)
 ·intro g hg;simp only[Nm.re,hglob g hg];exact R.glob g hg
 ·exact R.base
 ·exact R.frame
 ·intro b i v hz
  exact⟨(R.froz b i v hz).1,fun n o hn ho=>(R.froz b i v hz).2 _ _ (hobj n o hn) (by rw[oren_own];exact ho)⟩
 ·exact R.zprot
 ·exact R.os
 ·exact R.out
 ·exact R.tape
def madeOf(G:Nat)(c:Ctr)(ms:List Nat)(h0:Heap)(e0:Ending):Bool:=
 beqE (eren (tau (G+c.ins.length) ms h0.next) c.e) e0&&(updOk (tau (G+c.ins.length) ms h0.next) h0 G c.upd&&
  (newOk (tau (G+c.ins.length) ms h0.next) h0 (G+c.ins.length) c.new ms&&nodupB ms))
def made(P:Program)(G:Nat)(orc:Orc)(N:Nat)(c:Ctr)(ms:List Nat):Bool:=
 Nat.beq c.upd.length c.ins.length&&match ev P orc N (.call c.f c.args (hOf G c.gl (c.ins.map some)))with
  |some (.en e0 _ h0)=>madeOf G c ms h0 e0
  |_=>false
def insOk(G:Nat)(τ:Nat->Nat)(h:Heap):List AObj->List Nat->Bool
 | [],[]=>true
 |o::l,n::ns=>Nat.ble G n&&(atR h τ n o&&insOk G τ h l ns)
 |_,_=>false
mutual
def fixV(G:Nat):Value->Bool
 | .pointer (some a)=>Nat.blt a.block G
 | .slice (some a) _ _=>Nat.blt a.block G
 | .map (some r)=>Nat.blt r G
 | .func _ x y=>fixA G x&&fixA G y
 | .iface _ v=>fixV G v
 | .agg c=>fixA G c
 | .tuple c=>fixA G c
 |_=>true
def fixA(G:Nat):Array Value->Bool
 |⟨l⟩=>fixL G l
def fixL(G:Nat):List Value->Bool
 | []=>true
 |v::l=>fixV G v&&fixL G l
end
def fixO(G:Nat):AObj->Bool
 | .cells vs _ _ _ _=>fixL G vs
 | .map ks vs _ _=>fixL G ks&&fixL G vs
def glOk(G:Nat)(h:Heap):List (Nat×AObj)->Bool
 | []=>true
 |x::l=>Nat.blt x.1 G&&(!x.2.own&&(atB h x.1 x.2&&(fixO G x.2&&glOk G h l)))
def fits(G:Nat)(c:Ctr)(args:List Value)(h:Heap)(ns:List Nat)(τ:Nat->Nat):Bool:=
 l2 τ c.args args&&(insOk G τ h c.ins ns&&(nodupB ns&&glOk G h c.gl))
end
end
end Go.Abs
namespace Go.Abs
open Go
noncomputable section
def vs(l:List Nat):Value := .string ⟨(l.map UInt8.ofNat).toArray⟩
def va(l:List Value):Value := .agg l.toArray
def re(v:Value):Ending := .returned v
end
end Go.Abs
namespace Go.Abs
open Go
noncomputable section
section
variable {P:Program} {G:Nat}
end
end
end Go.Abs
namespace Go.Abs
open Go
end Go.Abs
namespace Go.Abs
open Go
noncomputable section
section
variable {P:Program} {G:Nat} {B:Base} {D:Bool} {s:St} {r:Res}
open Classical in
def rec1(c:Cmd)(r:Res):Cmd->Option Res:=fun c'=>if c'=c then some r else none
theorem rec1_ok{c:Cmd}(h:Holds P G B c r):∀c' r',rec1 c r c'=some r'->Holds P G B c' r':=by
 intro c' r' e;unfold rec1 at e;split at e
 ·rename_i h1;subst h1;simp only[Option.some.injEq]at e;subst e;exact h
 ·cases e
theorem rec1_at(c:Cmd)(r:Res):rec1 c r c=some r:=by simp[rec1]
open Classical in
def rec2(c:Cmd)(r:Res)(d:Cmd)(q:Res):Cmd->Option Res:=fun c'=>if c'=c then some r else if c'=d then some q else none
theorem rec2_ok{c d:Cmd}{q:Res}(h:Holds P G B c r)(h':Holds P G B d q):∀c' r',rec2 c r d q c'=some r'->Holds P G B c' r':=by
 intro c' r' e;unfold rec2 at e;split at e
 ·rename_i h1;subst h1;simp only[Option.some.injEq]at e;subst e;exact h
 ·split at e
  ·rename_i h1;subst h1;simp only[Option.some.injEq]at e;subst e;exact h'
  ·cases e
theorem rec2_at(c:Cmd)(r:Res)(d:Cmd)(q:Res):rec2 c r d q c=some r:=by simp[rec2]
theorem rec2_at'(c:Cmd)(r:Res)(d:Cmd)(q:Res)(h:d≠c):rec2 c r d q d=some q:=by simp[rec2,h]
theorem h_skip:Holds P G B (.code D .skip s) (.ex .normal s):=by
 intro c0 rest F a cs w _ hs
 exact WP.skip ⟨F,Nm.le_refl F,rfl,hs⟩
theorem h_label{l:Nat}:Holds P G B (.code D (.label l) s) (.ex .normal s):=by
 intro c0 rest F a cs w _ hs
 exact WP.label ⟨F,Nm.le_refl F,rfl,hs⟩
theorem h_ret:Holds P G B (.code D .ret s) (.ex .ret s):=by
 intro c0 rest F a cs w _ hs
 exact WP.ret ⟨F,Nm.le_refl F,rfl,hs⟩
theorem h_exit{id:Nat}:Holds P G B (.code D (.exit id) s) (.ex (.exit id) s):=by
 intro c0 rest F a cs w _ hs
 exact WP.exit ⟨F,Nm.le_refl F,rfl,hs⟩
theorem h_seq{x y:Code}{s1:St}(h1:Holds P G B (.code D x s) (.ex .normal s1))(h2:Holds P G B (.code D y s1) r):Holds P G B (.code D (.seq x y) s) r:=by
 cases r with
 |en _ _ _=>exact h2.elim
 |ex e s2=>
  intro c0 rest F a cs w hok hs
  simp only[okCode,Bool.and_eq_true]at hok
  refine WP.seq ((h1 c0 rest F a cs w hok.1 hs).mono fun e' a' cs' w' ⟨F',hle,he,hs'⟩=>?_)
  simp only[ER]at he;subst he
  exact(h2 c0 rest F' a' cs' w' hok.2 hs').mono fun _ _ _ _ q=>Ends.mono hle q
theorem h_seq'(hP:okProg P G=true){x y:Code}(h1:Holds P G B (.code D x s) r)(hr:∀s',r ≠ .ex .normal s'):Holds P G B (.code D (.seq x y) s) r:=by
 refine step_code (orc:=fun _=>none) (rec:=rec1 _ _) (rec1_ok h1) hP ?_
 simp only[step,stepK,codeK,rec1_at]
 split
 ·rename_i s' e;simp only[Option.some.injEq]at e;exact absurd e (hr s')
 ·rfl
theorem h_cond(hP:okProg P G=true){c:Operand}{x y:Code}{t:Bool}(hc:aev s.ts c = .bool t)(h:Holds P G B (.code D (match t with|true=>x|false=>y) s) r):Holds P G B (.code D (.cond c x y) s) r:=by
 refine step_code (orc:=fun _=>none) (rec:=rec1 _ _) (rec1_ok h) hP ?_
 cases t<;>simp only[step,stepK,codeK,hc,rec1_at]
def blkRes(id:Nat):Res->Res
 | .ex (.exit i) s'=>match Nat.beq i id with
  |true => .ex .normal s'
  |false => .ex (.exit i) s'
 |r=>r
theorem h_block(hP:okProg P G=true){id:Nat}{c:Code}(h:Holds P G B (.code D c s) r):Holds P G B (.code D (.block id c) s) (blkRes id r):=by
 refine step_code (orc:=fun _=>none) (rec:=rec1 _ _) (rec1_ok h) hP ?_
 simp only[step,stepK,codeK,rec1_at]
 split
 ·rename_i e;simp only[Option.some.injEq]at e;subst e
  simp only[blkRes]
  split<;>simp_all
 ·rename_i hne
  cases r with
  |en _ _ _=>rfl
  |ex e s1=>
   cases e<;>first|rfl|exact absurd rfl (hne _ _)
theorem h_scope(hP:okProg P G=true){c:Code}(h:Holds P G B (.code D c s) r)(hr:∀l s',r ≠ .ex (.goto l) s'):Holds P G B (.code D (.scope c) s) r:=by
 refine step_code (orc:=fun _=>none) (rec:=rec1 _ _) (rec1_ok h) hP ?_
 simp only[step,stepK,codeK,rec1_at]
 split
 ·rename_i e;simp only[Option.some.injEq]at e;exact absurd e (hr _ _)
 ·rfl
theorem h_loop(hP:okProg P G=true){c:Code}(h:Holds P G B (.loop D c s) r):Holds P G B (.code D (.loop c) s) r:=by
 refine step_code (orc:=fun _=>none) (rec:=rec1 _ _) (rec1_ok h) hP ?_
 simp only[step,stepK,codeK,rec1_at]
theorem h_loopN{c:Code}{s1:St}(h:Holds P G B (.code D c s) (.ex .normal s1))(h2:Holds P G B (.loop D c s1) r):Holds P G B (.loop D c s) r:=by
 refine step_loop' (orc:=fun _=>none) (rec:=rec2 _ _ _ _) (rec2_ok h h2) ?_
 simp only[step,stepK,loopK,rec2_at]
 rw[rec2_at']
 intro e;cases e
theorem h_loopX{c:Code}(h:Holds P G B (.code D c s) r)(hr:∀s',r ≠ .ex .normal s'):Holds P G B (.loop D c s) r:=by
 refine step_loop' (orc:=fun _=>none) (rec:=rec1 _ _) (rec1_ok h) ?_
 simp only[step,stepK,loopK,rec1_at]
 split
 ·rename_i s' e;simp only[Option.some.injEq]at e;exact absurd e (hr s')
 ·rfl
theorem h_region(hP:okProg P G=true){id:Nat}{ops:Array Oper}(h:Holds P G B (.ops D ops 0 ops.toList s) r):Holds P G B (.code D (.region id ops false) s) r:=by
 refine step_code (orc:=fun _=>none) (rec:=rec1 _ _) (rec1_ok h) hP ?_
 simp only[step,stepK,codeK,rec1_at]
theorem h_region'(hP:okProg P G=true){id:Nat}{ops:Array Oper}(h:Holds P G B (.draw ops s) r):Holds P G B (.code false (.region id ops true) s) r:=by
 refine step_code (orc:=fun _=>none) (rec:=rec1 _ _) (rec1_ok h) hP ?_
 simp only[step,stepK,codeK,rec1_at]
section
variable {ops:Array Oper} {k:Nat} {o:Oper} {l:List Oper}
theorem h_ops0:Holds P G B (.ops D ops k [] s) (.ex .normal s):=by
 intro _ _ c0 rest F a cs w hs
 exact WPat.done ⟨F,Nm.le_refl F,rfl,hs⟩
theorem h_opsSkip(hP:okProg P G=true)(hw:wantedA o ops.toList s.ts=some false)(h:Holds P G B (.ops D ops (k+1) l (put s o undef)) r):Holds P G B (.ops D ops k (o::l) s) r:=by
 refine step_ops (orc:=fun _=>none) (rec:=rec1 _ _) (rec1_ok h) hP ?_
 simp only[step,stepK,opsK,hw,rec1_at]
theorem h_opsVal(hP:okProg P G=true)(hw:wantedA o ops.toList s.ts=some true){v:Value}{h':Heap}(ho:aOp P o (aev s.ts) s.h=some (v,h'))
  (h:Holds P G B (.ops D ops (k+1) l {put s o v with h:=h' }) r):Holds P G B (.ops D ops k (o::l) s) r:=by
 refine step_ops (orc:=fun _=>none) (rec:=rec1 _ _) (rec1_ok h) hP ?_
 simp only[step,stepK,opsK,hw,ho,rec1_at]
theorem h_opsCall(hP:okProg P G=true)(hw:wantedA o ops.toList s.ts=some true)(hn:aOp P o (aev s.ts) s.h=none){g:FuncId}{args:List Value}(hc:callOf P (aev s.ts) o.op=some (g,args))
  {v:Value} {u:FrameMode} {h':Heap} (h1:Holds P G B (.call g args s.h) (.en (.returned v) u h')) (h:Holds P G B (.ops D ops (k+1) l {put s o v with h:=h' }) r):Holds P G B (.ops D ops k (o::l) s) r:=by
 refine step_ops (orc:=fun _=>none) (rec:=rec2 _ _ _ _) (rec2_ok h1 h) hP ?_
 simp only[step,stepK,opsK,hw,hn,stepOp,hc,rec2_at]
 rw[rec2_at']
 intro e;cases e
end
end
end
end Go.Abs
