/- What the evaluator with nodes says of an operation is so. -/
import Derived.Test.YtblbaohcelldpaaW1
set_option linter.all false
namespace Go.Abs
open Go
noncomputable section
section
variable {P:Program}
theorem objsOf_go_get(h:Heap):∀(n k i:Nat),(objsOf.go h n k)[i]?=if i<n then some (h.get (k+i))else none
 | 0,k,i=>by simp[objsOf.go]
 |n+1,k,0=>by simp[objsOf.go]
 |n+1,k,i+1=>by
  simp only[objsOf.go,List.getElem?_cons_succ,objsOf_go_get h n (k+1) i]
  by_cases c:i<n
  ·rw[if_pos c,if_pos (by omega)];congr 2;omega
  ·rw[if_neg c,if_neg (by omega)]
theorem objsOf_get(G:Nat)(h:Heap)(i:Nat):(objsOf G h)[i]?=if G+i<h.next then some (h.get (G+i))else none:=by
 unfold objsOf
 rw[objsOf_go_get]
 by_cases c:i<h.next-G
 ·rw[if_pos c,if_pos (by omega)]
 ·rw[if_neg c,if_neg (by omega)]
theorem pureSem_underlying{t:TypeId}{d:TypeDesc}(hu:P.underlying t=some d):pureSem P (underlying t)=some d:=by
 simp[underlying,program,pureSem_bind,pureSem,hu]
 rfl
theorem pureSem_guard{op:BinOp}{t:TypeId}{x y:Operand}{a b:Bool}:pureSem P (eqGuard op t x y (.bool a) (.bool b))=some ():=by
 unfold eqGuard
 split<;>rfl
theorem pureSem_equal{t:TypeId}{a b:Bool}(hu:P.underlying t=some .bool)(n:Nat):pureSem P (Op.equalIn (n+1) t (.bool a) (.bool b))=some (a==b):=by
 simp only[Op.equalIn,pureSem_bind,pureSem_underlying hu]
 rfl
theorem opt_elim{α:Type}{o:Option α}{K:α->Prop}(h:opt o K):∃a,o=some a/\K a:=by
 cases o with
 |none=>exact h.elim
 |some a=>exact⟨a,rfl,h⟩
theorem wInt_ok {op:BinOp} {k k':IntKind} {a b:Int} {K:Value->Prop} (h:wInt (real P) op k a k' b K):∃v,intBin op k a k' b=some v/\K v:=by
  unfold wInt at h
  split at h<;>first
    | (obtain⟨t,h1,h2,h3⟩:=h
       cases t
       · exact⟨_,h1,h3 rfl⟩
       · exact⟨_,h1,h2 rfl⟩)
    |(obtain⟨z,h1,h2⟩:=h;exact⟨_,h1,h2⟩)
theorem wStr_ok {op:BinOp} {a b:ByteArray} {K:Value->Prop} (h:wStr (real P) op a b K):∃v,strBin op a b=some v/\K v:=by
  unfold wStr at h
  split at h<;>first
    | (obtain⟨t,h1,h2,h3⟩:=h
       cases t
       · exact⟨_,h1,h3 rfl⟩
       · exact⟨_,h1,h2 rfl⟩)
    |(obtain⟨z,h1,h2⟩:=h;exact⟨_,h1,h2⟩)
theorem wBin_ok{op:BinOp}{t:TypeId}{x y:Operand}{a b:Value}{H:Heap}{K:VK}(h:wBin P (real P) op t x y a b H K):∃v,aBin P H op t x y a b=some v/\K v H:=by
 unfold wBin at h
 split at h
 ·exact wInt_ok h
 ·exact wStr_ok h
 ·rename_i a b
  ·split at h
   ·rename_i hu
    rcases h with⟨e,h1,h2⟩ | ⟨e,h1,h2⟩<;>subst e
    ·refine⟨.bool (a==b),?_,?_⟩
     ·have e:pureSem P (do eqGuard .eql t x y (.bool a) (.bool b);binOp .eql t (.bool a) (.bool b))=some (.bool (a==b)):=by
       rw[pureSem_bind,pureSem_guard,Option.bind_some,show binOp .eql t (.bool a) (.bool b)=(do pure (.bool ((←Op.equalIn (9999+1) t (.bool a) (.bool b)))))from rfl,pureSem_bind,pureSem_equal hu]
       rfl
      simp only[aBin,plain,Bool.and_self,pureVal,e]
     ·cases hc:(a==b)
      ·exact h2 hc
      ·exact h1 hc
    ·refine⟨.bool (!(a==b)),?_,?_⟩
     ·have e:pureSem P (do eqGuard .neq t x y (.bool a) (.bool b);binOp .neq t (.bool a) (.bool b))=some (.bool (!(a==b))):=by
       rw[pureSem_bind,pureSem_guard,Option.bind_some,show binOp .neq t (.bool a) (.bool b)=(do pure (.bool (!(←Op.equalIn (9999+1) t (.bool a) (.bool b)))))from rfl,pureSem_bind,pureSem_equal hu]
       rfl
      simp only[aBin,plain,Bool.and_self,pureVal,e]
     ·cases hc:(a==b)
      ·exact h1 hc
      ·exact h2 hc
   ·exact h.elim
 ·obtain⟨b,h1,h2,h3⟩:=h
  cases b
  ·exact⟨_,h1 H x y,h3 rfl⟩
  ·exact⟨_,h1 H x y,h2 rfl⟩
 ·exact opt_elim h
theorem wRdCells_ok{vs:List Value}:∀(zs:List Value) (off:Nat) (acc:List Value) (K:List Value->Prop),wRdCells (real P) vs zs off acc K->
  ∃l,l.length=zs.length/\(∀i,i<zs.length->vs[off+i]?=l[i]?)/\K (acc.reverse++l)
 | [],off,acc,K,h=>⟨[],rfl,fun i hi=>by simp at hi,by simpa [wRdCells]using h⟩
 |z::zs,off,acc,K,h=>by
  have next:∀v,vs[off]?=some v->wRdCells (real P) vs zs (off+1) (v::acc) K->∃l,l.length=(z::zs).length/\(∀i,i<(z::zs).length->vs[off+i]?=l[i]?)/\K (acc.reverse++l):=by
   intro v hv hr
   obtain⟨l,h1,h2,h3⟩:=wRdCells_ok zs _ _ _ hr
   refine⟨v::l,by simp[h1],fun i hi=>?_,by simpa using h3⟩
   cases i with
   |zero=>simpa using hv
   |succ i=>
    have:=h2 i (by simpa using hi)
    rw[List.getElem?_cons_succ,←this];congr 1;omega
  unfold wRdCells at h
  split at h
  ·obtain⟨z,h1,h2⟩:=h;exact next _ h1 h2
  ·obtain⟨t,h1,h2,h3⟩:=h
   cases t
   ·exact next _ h1 (h3 rfl)
   ·exact next _ h1 (h2 rfl)
  ·obtain⟨z,h1,h2⟩:=h;exact next _ h1 h2
  ·obtain⟨z,h1,h2⟩:=h;exact next _ h1 h2
  ·exact h.elim
theorem wRd_ok{t:TypeId}{vs:List Value}{off:Nat}{K:Value->Prop}(h:wRd P (real P) t vs off K):
  ∃d v,P.underlying t=some d/\K v/\((isAggD d=false/\vs[off]?=some v)∨(isAggD d=true/\∃n,aSize P t=some n/\off+n<=vs.length/\n≠0/\v = .agg ((vs.drop off).take n).toArray)):=by
 unfold wRd at h
 split at h
 ·rename_i k hu;obtain⟨z,h1,h2⟩:=h;exact⟨_,_,hu,h2,.inl ⟨rfl,h1⟩⟩
 ·rename_i hu;obtain⟨t,h1,h2,h3⟩:=h
  cases t
  ·exact⟨_,_,hu,h3 rfl,.inl ⟨rfl,h1⟩⟩
  ·exact⟨_,_,hu,h2 rfl,.inl ⟨rfl,h1⟩⟩
 ·rename_i hu;obtain⟨z,h1,h2⟩:=h;exact⟨_,_,hu,h2,.inl ⟨rfl,h1⟩⟩
 ·rename_i e hu;obtain⟨z,h1,h2⟩:=h;exact⟨_,_,hu,h2,.inl ⟨rfl,h1⟩⟩
 ·rename_i hu
  obtain⟨n,hn,h⟩:=opt_elim h
  split at h
  ·split at h
   ·rename_i m z hz _
    split at h
    ·rename_i hzl
     have hzl:=Nat.eq_of_beq_eq_true hzl
     obtain⟨l,h1,h2,h3⟩:=wRdCells_ok _ _ _ _ h
     simp only[List.reverse_nil,List.nil_append]at h3
     have hlast:=h2 m (by omega)
     have hlen:off+m<vs.length:=by
      rcases Nat.lt_or_ge (off+m) vs.length with c|c
      ·exact c
      ·rw[List.getElem?_eq_none c]at hlast
       have:m<l.length:=by omega
       rw[List.getElem?_eq_getElem this]at hlast;cases hlast
     have hl:l=(vs.drop off).take (m+1):=by
      apply List.ext_getElem?
      intro i
      rw[List.getElem?_take]
      split
      ·rw[List.getElem?_drop,h2 i (by omega)]
      ·rw[List.getElem?_eq_none (by omega)]
     exact⟨_,_,hu,h3,.inr ⟨rfl,m+1,hn,by omega,by omega,by rw[←hl]⟩⟩
    ·exact h.elim
   ·exact h.elim
  ·obtain⟨l,h1,h0,h2,h3⟩:=h;subst h2;exact⟨_,_,hu,h3,.inr ⟨rfl,n,hn,h1,h0,rfl⟩⟩
 ·rename_i hu;obtain⟨n,hn,l,h1,h0,h2,h3⟩:=opt_elim h;subst h2;exact⟨_,_,hu,h3,.inr ⟨rfl,n,hn,h1,h0,rfl⟩⟩
 ·exact h.elim
theorem reaches_of{l:List Value}{off n:Nat}(h:off+n<=l.length):reaches l off n=true:=by
 cases n with
 |zero=>exact Nat.ble_eq_true_of_le (by simpa using h)
 |succ k=>
  simp only[reaches,lcut_eq]
  rw[show((l.drop off).take (k+1)).length=k+1 by rw[List.length_take,List.length_drop];omega]
  simp
theorem wLoad_rd{t:TypeId}{ad:Addr}{H:Heap}{K:VK}{vs:List Value}{e:TypeId}{z:Nat}{lo ow:Bool}(hs:ad.spot=none)(hg:H.get ad.block=some (.cells vs e z lo ow))
  (h:wRd P (real P) t vs ad.off (K · H)):∃v,aLoad P H t ad=some v/\K v H:=by
 obtain⟨d,v,hu,hk,hv⟩:=wRd_ok h
 refine⟨v,?_,hk⟩
 unfold aLoad
 rw[hu]
 rcases hv with⟨h1,h2⟩ | ⟨h1,n,h2,h3,h0,h4⟩
 ·simp only[h1,aCell1,hs,hg,h2]
 ·simp only[h1,h2]
  have:aCells H ad n=some ((vs.drop ad.off).take n):=by
   cases n with
   |zero=>exact absurd rfl h0
   |succ n=>simp only[aCells,lcut_eq,hs,hg,reaches_of h3]
  rw[this,h4]
theorem wLoad_ok{sy:Sy}{t:TypeId}{ad:Addr}{H:Heap}{K:VK}(h:wLoad P (real P) sy t ad H K):∃v,aLoad P H t ad=some v/\K v H:=by
 unfold wLoad at h
 split at h
 ·split at h
  ·rename_i vs e z lo ow hs hg
   exact wLoad_rd hs hg h
  ·exact h.elim
 ·split at h
  ·rename_i hs
   obtain⟨vs,e,z,lo,ow,hg,h⟩:=h
   exact wLoad_rd hs hg h
  ·exact h.elim
 ·exact opt_elim h
theorem wStore_wr{t:TypeId}{ad:Addr}{x:Value}{H:Heap}{K:VK}{vs:List Value}{e:TypeId}{z n:Nat}{lo:Bool}(hs:ad.spot=none)(hg:H.get ad.block=some (.cells vs e z lo true))(hn:aSize P t=some n)
  (h:(real P).wr vs ad.off n x.cells.toList fun vs'=>K undef (H.put ad.block (some (.cells vs' e z lo true)))):∃H',aStore P H t ad x=some H'/\K undef H':=by
 obtain⟨vs',h1,h2,h3,h4,h5⟩:=h
 subst h4
 refine⟨_,?_,h5⟩
 simp only[aStore,hs,hg,hn]
 have e1:Nat.beq x.cells.toList.length n=true:=by rw[h1];simp
 rw[e1,h2,reaches_of h3]
 rfl
theorem wStore_ok{sy:Sy}{t:TypeId}{ad:Addr}{x:Value}{H:Heap}{K:VK}(h:wStore P (real P) sy t ad x H K):∃H',aStore P H t ad x=some H'/\K undef H':=by
 unfold wStore at h
 split at h
 ·split at h
  ·rename_i vs e z lo n hs hg hn
   exact wStore_wr hs hg hn h
  ·exact h.elim
 ·split at h
  ·rename_i n hs hn
   obtain⟨vs,e,z,lo,hg,h⟩:=h
   exact wStore_wr hs hg hn h
  ·exact h.elim
 ·exact opt_elim h
theorem Addr.add_none(b o n:Nat):Addr.add ⟨b,o,none⟩ n=⟨b,o+n,none⟩:=by
 unfold Addr.add;split
 ·rename_i h;subst h;rfl
 ·rfl
theorem splitL_get(f:Nat->Prop):∀(n k j:Nat) (p:Prop),(splitL f n k)[j]?=some p->j<n/\p=f (k+j)
 | 0,k,j,p,h=>by simp[splitL]at h
 |n+1,k,0,p,h=>by simp[splitL]at h;exact⟨by omega,by rw[←h];rfl⟩
 |n+1,k,j+1,p,h=>by
  simp[splitL]at h
  obtain⟨h1,h2⟩:=splitL_get f n (k+1) j p h
  exact⟨by omega,by rw[h2];congr 1;omega⟩
def Either(P:Program)(t:TypeId)(x ix:Value)(H:Heap)(v:Value):Prop:=
 aIndexAddr P t x ix=some v∨(aIndexAddr P t x ix=none/\((∃m rows k i,x = .iface m (.agg ⟨rows⟩)/\ix = .int k i/\Nat.beq m mkD=true/\dIndex P t rows i=some v)∨
  (∃m a n c,x = .iface m (.slice (some a) n c)/\(∃k i,ix = .int k i)/\Nat.beq m mkM=true/\aIndexAddr P t (.slice (some a) n c) ix=some v)))
theorem aIndexAddr_iface{t:TypeId}{m:Nat}{x ix:Value}:aIndexAddr P t (.iface m x) ix=none:=by
 unfold aIndexAddr
 split
 ·split
  ·rename_i e;cases e
  ·rename_i e;cases e
  ·rfl
 ·rfl
theorem wIdx_ok{sy:Sy}{sp:Nat->Bool}{t:TypeId}{x ix:Value}{H:Heap}{K:VK}(h:wIdx P (real P) sy sp t x ix H K):plain ix=true/\∃v,Either P t x ix H v/\K v H:=by
 have hidx:∀ {ad:Addr} {len n:Nat} {k:IntKind} {i:Int} {u:Value} (_:ad.spot=none),(∀j:Nat,j<len->aIndexAddr P t u (.int k j)=some (.pointer (some (ad.add (j*n)))))->
   ((real P).idx len ad.off n i fun o=>K (.pointer (some ⟨ad.block,o,none⟩)) H)->∃v,aIndexAddr P t u (.int k i)=some v/\K v H:=by
  intro ad len n k i u hs hj h
  obtain⟨j,h1,h2,h3⟩:=h
  obtain⟨b,o,sp⟩:=ad
  simp only at hs;subst hs;subst h1
  exact⟨_,hj j h2,by rw[Addr.add_none];exact h3⟩
 have harr:∀ {len:Nat} {elem:TypeId} {ad:Addr} {n:Nat} {k:IntKind},P.underlying t=some (.array len elem)->aSize P elem=some n->∀j:Nat,j<len->aIndexAddr P t (.pointer (some ad)) (.int k j)=some (.pointer (some (ad.add (j*n)))):=by
  intro len elem ad n k hu hn j hj
  simp only[aIndexAddr,hu,hn]
  rw[show(decide (0<=(j:Int))&&Nat.blt (j:Int).toNat len)=true by simp;exact hj]
  simp only[Int.toNat_natCast]
 have hsl:∀ {len cap:Nat} {elem:TypeId} {ad:Addr} {n:Nat} {k:IntKind},P.underlying t=some (.slice elem)->aSize P elem=some n->∀j:Nat,j<len->aIndexAddr P t (.slice (some ad) len cap) (.int k j)=some (.pointer (some (ad.add (j*n)))):=by
  intro len cap elem ad n k hu hn j hj
  simp only[aIndexAddr,hu,hn]
  rw[show(decide (0<=(j:Int))&&Nat.blt (j:Int).toNat len)=true by simp;exact hj]
  simp only[Int.toNat_natCast]
 unfold wIdx at h
 split at h
 ·rename_i k i
  refine⟨rfl,?_⟩
  split at h
  ·rename_i len elem ad hu
   split at h
   ·rename_i n hy hs hn
    obtain⟨v,h1,h2⟩:=hidx hs (harr hu hn) h
    exact⟨v,.inl h1,h2⟩
   ·rename_i n hn _
    split at h
    ·obtain⟨j,p,h1,h2,h3⟩:=h
     obtain⟨h4,h5⟩:=splitL_get _ _ _ _ _ h2
     subst h1
     rw[h5,Nat.zero_add]at h3
     exact⟨_,.inl (harr hu hn j h4),h3⟩
    ·obtain⟨v,h1,h2⟩:=opt_elim h;exact⟨v,.inl h1,h2⟩
   ·exact h.elim
  ·rename_i elem ad len cap hu
   split at h
   ·rename_i n hy hs hn
    obtain⟨v,h1,h2⟩:=hidx hs (hsl hu hn) h
    exact⟨v,.inl h1,h2⟩
   ·obtain⟨v,h1,h2⟩:=opt_elim h;exact⟨v,.inl h1,h2⟩
  ·rename_i elem m rs hu
   split at h
   ·rename_i n z hm hn hz
    split at h
    ·rename_i hzl
     have hzl:=Nat.eq_of_beq_eq_true hzl
     obtain⟨j,cs,h1,h2,h3,h4⟩:=h
     obtain⟨l,g1,g2,g3⟩:=wRdCells_ok _ _ _ _ h4
     simp only[List.reverse_nil,List.nil_append]at g3
     have hl:l=cs:=by
      apply List.ext_getElem?
      intro i
      rcases Nat.lt_or_ge i z.cells.toList.length with hi|hi
      ·have:=g2 i hi;rw[Nat.zero_add]at this;exact this.symm
      ·rw[List.getElem?_eq_none (by omega),List.getElem?_eq_none (by omega)]
     subst hl
     subst h1
     refine⟨_,.inr ⟨aIndexAddr_iface,.inl ⟨m,rs,k,_,rfl,rfl,hm,?_⟩⟩,g3⟩
     unfold dIndex
     rw[hu]
     simp only[hn,Int.toNat_natCast,h2]
     rw[show decide (0<=(j:Int))=true by simp]
     simp only
     rw[show Nat.beq l.length n=true by rw[h3];simp]
    ·exact h.elim
   ·exact h.elim
  ·rename_i elem m ad len cap hu
   split at h
   ·rename_i n hm hs hn
    obtain⟨v,h1,h2⟩:=hidx hs (hsl (cap:=cap) hu hn) h
    exact⟨v,.inr ⟨aIndexAddr_iface,.inr ⟨m,ad,len,cap,rfl,⟨k,i,rfl⟩,hm,h1⟩⟩,h2⟩
   ·exact h.elim
  ·exact h.elim
 ·exact h.elim
theorem wAt_ok{t:TypeId}{x ix:Value}{H:Heap}{K:VK}(hp:plain ix=true)(h:wAt P (real P) t x ix H K):∃v,aIndex P t x ix=some v/\K v H:=by
 unfold wAt at h
 split at h
 ·rename_i s k i hu
  obtain⟨j,b,h1,h2,h3⟩:=h
  subst h1
  refine⟨_,?_,h3⟩
  simp only[aIndex,hu]
  rw[show decide (0<=(j:Int))=true by simp]
  simp only[Int.toNat_natCast,h2]
 ·exact opt_elim h
theorem wFld_ok{sy:Sy}{s:TypeId}{x:Value}{f:Nat}{H:Heap}{K:VK}(h:wFld P sy s x f H K):
  ∃v,(aFieldAddr P s x f=some v∨(aFieldAddr P s x f=none/\∃m cs,x = .iface m (.agg ⟨cs⟩)/\Nat.beq m mkP=true/\dField P s cs f=some v))/\K v H:=by
 unfold wFld at h
 split at h
 ·rename_i ad
  split at h
  ·split at h
   ·rename_i fields hs hu
    split at h
    ·rename_i fd hf
     split at h
     ·rename_i n hn
      obtain⟨b,o,sp⟩:=ad
      simp only at hs;subst hs
      refine⟨_,.inl ?_,h⟩
      simp only[aFieldAddr,hu,hf,hn,Addr.add_none]
     ·exact h.elim
    ·exact h.elim
   ·exact h.elim
  ·obtain⟨v,h1,h2⟩:=opt_elim h;exact⟨v,.inl h1,h2⟩
 ·rename_i m cs
  split at h
  ·rename_i hm
   obtain⟨v,h1,h2⟩:=opt_elim h
   refine⟨v,.inr ⟨?_,m,cs,rfl,hm,h1⟩,h2⟩
   unfold aFieldAddr
   split
   ·split
    ·rename_i e;cases e
    ·rfl
   ·rfl
  ·exact h.elim
 ·exact h.elim
theorem bdO_ok{v:Option Value}{b:Option Int}(h:bdO v=some b):v=b.map (.int .i64 ·)/\∀x,v=some x->plain x=true:=by
 unfold bdO at h
 split at h
 ·simp only[Option.some.injEq]at h;subst h;exact⟨rfl,fun x e=>by cases e⟩
 ·simp only[Option.some.injEq]at h;subst h;exact⟨rfl,fun x e=>by simp only[Option.some.injEq]at e;subst e;rfl⟩
 ·cases h
theorem pOpd_of{ρ:Operand->Value}{x:Option Operand}{b:Option Int}(h:bdO (x.map ρ)=some b):pOpd ρ x=some (b.map (.int .i64 ·)):=by
 obtain⟨h1,h2⟩:=bdO_ok h
 cases x with
 |none=>simp only[Option.map_none]at h1;simp only[pOpd];rw[←h1]
 |some x=>
  simp only[Option.map_some]at h1 h2
  simp only[pOpd,h2 _ rfl];rw[←h1]
theorem opt_aOp{o:Oper}{ρ:Operand->Value}{H:Heap}{K:VK}(h:opt (aOp P o ρ H) fun(v,h)=>K v h):∃v H',aOp P o ρ H=some (v,H')/\K v H':=by
 obtain⟨⟨v,h'⟩,h1,h2⟩:=opt_elim h;exact⟨_,_,h1,h2⟩
theorem aOp_K{o:Oper}{ρ:Operand->Value}{H:Heap}{r:Value×Heap}(h:aOpK o.op P o.type ρ H=some r):aOp P o ρ H=some r:=by unfold aOp;rw[h]
theorem aOp_D{o:Oper}{ρ:Operand->Value}{H:Heap}{r:Value×Heap}(h:aOpK o.op P o.type ρ H=none)(h2:aDeep o.op P ρ H=some r):aOp P o ρ H=some r:=by unfold aOp;rw[h];exact h2
theorem aSlice_iface{H:Heap}{t:TypeId}{m:Nat}{x:Value}{lo hi mx:Option Value}:aSlice P H t (.iface m x) lo hi mx=none:=by
 unfold aSlice
 split<;>first|rfl|(split<;>first|rfl|(rename_i e;cases e)|(rename_i e _;cases e))
theorem wSlice_ok{dst:Option Tmp}{T:TypeId}{pos:String}{after:Array Edge}{guard:Option (Nat×Bool)}{t:TypeId}{x:Operand}{lo hi mx:Option Operand}{ρ:Operand->Value}{H:Heap}{K:VK}
  (h:wSlice P (real P) ⟨dst,.slice t x lo hi mx,T,pos,after,guard⟩ t (some x) lo hi mx ρ H K):∃v H',aOp P ⟨dst,.slice t x lo hi mx,T,pos,after,guard⟩ ρ H=some (v,H')/\K v H':=by
 unfold wSlice at h
 simp only at h
 split at h
 ·rename_i s e
  simp only[Option.map_some,Option.some.injEq]at e
  split at h
  ·rename_i l h' hu hl hh
   obtain⟨a,b,m,h1,h2⟩:=h
   refine⟨_,H,aOp_K ?_,h2⟩
   show(match pOpd ρ lo,pOpd ρ hi,pOpd ρ none with|some lo,some hi,some mx=>aSlice P H t (ρ x) lo hi mx|_,_,_=>none)=_
   rw[pOpd_of hl,pOpd_of hh]
   simp only[pOpd,e,aSlice,hu,h1]
  ·exact h.elim
 ·rename_i m rs e
  simp only[Option.map_some,Option.some.injEq]at e
  split at h
  ·rename_i elem hm hu
   split at h
   ·rename_i n l h' hn hl hh
    obtain⟨a,b,c,h1,h2,h3⟩:=h
    refine⟨_,H,aOp_D ?_ ?_,h3⟩
    ·show(match pOpd ρ lo,pOpd ρ hi,pOpd ρ none with|some lo,some hi,some mx=>aSlice P H t (ρ x) lo hi mx|_,_,_=>none)=_
     rw[pOpd_of hl,pOpd_of hh]
     simp only[pOpd,e,aSlice_iface]
    ·show(match pOpd ρ lo,pOpd ρ hi,pOpd ρ none,ρ x with|some lo,some hi,some mx,.iface m (.agg ⟨rows⟩)=>(match Nat.beq m mkD with|true=>(dSlice P t rows lo hi mx).map (·,H)|false=>none)|_,_,_,_=>none)=_
     rw[pOpd_of hl,pOpd_of hh]
     simp only[pOpd,e,hm,dSlice,hu,hn,h1,h2,Option.map_some]
   ·exact h.elim
  ·exact h.elim
 ·exact opt_aOp h
theorem intsU8_ok:∀ {l:List Value} {zs:List Int},intsU8 l=some zs->toBytes l=some (zs.map fun n=>UInt8.ofNat n.toNat):=by
 have key:∀(l:List Value) (zs:List Int),intsU8 l=some zs->allU8 l=true/\l.map byteV=zs.map fun n=>UInt8.ofNat n.toNat:=by
  intro l
  induction l with
  |nil=>intro zs h;simp only[intsU8,Option.some.injEq]at h;subst h;exact⟨rfl,rfl⟩
  |cons v l ih=>
   intro zs h
   unfold intsU8 at h
   split at h
   ·rename_i e;cases e
   ·rename_i z r e
    simp only[List.cons.injEq]at e
    obtain⟨e1,e2⟩:=e
    subst e1;subst e2
    split at h
    ·rename_i l2 hl
     simp only[Option.some.injEq]at h;subst h
     obtain⟨g1,g2⟩:=ih _ hl
     exact⟨by simp[allU8,g1],by simp[byteV,g2]⟩
    ·cases h
   ·cases h
 intro l zs h
 obtain⟨g1,g2⟩:=key l zs h
 simp only[toBytes,g1,g2]
theorem aConvert_slice{H:Heap}{src dst e:TypeId}{m:Nat}{x:Value}(hs:P.underlying src=some (.slice e))(hd:P.underlying dst=some .string)(hm:isMk m=true):aConvert P H src dst (.iface m x)=none:=by
 unfold aConvert
 rw[hs,hd]
 simp only[plain,hm]
theorem wConv_ok{sy:Sy}{dst:Option Tmp}{T:TypeId}{pos:String}{after:Array Edge}{guard:Option (Nat×Bool)}{src d:TypeId}{x:Operand}{ρ:Operand->Value}{H:Heap}{K:VK}
  (h:wConv P (real P) sy ⟨dst,.convert src d x,T,pos,after,guard⟩ src d x ρ H K):∃v H',aOp P ⟨dst,.convert src d x,T,pos,after,guard⟩ ρ H=some (v,H')/\K v H':=by
 have hK:∀ {r:Value×Heap},aConvert P H src d (ρ x)=some r->aOp P ⟨dst,.convert src d x,T,pos,after,guard⟩ ρ H=some r:=fun h=>aOp_K h
 have hD:∀ {v:Value},aConvert P H src d (ρ x)=none->dConv P H src d (ρ x)=some v->aOp P ⟨dst,.convert src d x,T,pos,after,guard⟩ ρ H=some (v,H):=fun h h2=>aOp_D h (by
  show(dConv P H src d (ρ x)).map (·,H)=_
  rw[h2];rfl)
 unfold wConv at h
 simp only at h
 split at h
 ·rename_i k a e
  split at h
  ·obtain⟨z,h1,h2⟩:=h;exact⟨_,H,hK (by rw[e];exact h1 H),h2⟩
  ·exact opt_aOp h
 ·rename_i s e
  split at h
  ·rename_i ds el hs hd
   split at h
   ·rename_i hu
    refine⟨_,_,hK ?_,h⟩
    rw[e];unfold aConvert
    rw[hs,hd]
    simp only[hu];rfl
   ·exact h.elim
  ·exact opt_aOp h
 ·rename_i a n c e
  split at h
  ·rename_i el hs hd
   have fin:∀ {l:List Value} {bs:List UInt8},isU8 (P.underlying el)=true->aCells H a n=some l->toBytes l=some bs->K (.string (bytesOf bs)) H->∃v H',aOp P ⟨dst,.convert src d x,T,pos,after,guard⟩ ρ H=some (v,H')/\K v H':=by
    intro l bs hu hc hb hk
    refine⟨_,_,hK ?_,hk⟩
    rw[e];unfold aConvert
    rw[hs,hd]
    simp only[hu,hc,hb]
   split at h
   ·rename_i hu _
    split at h
    ·rename_i vs e2 sz lo ow hsp hg
     obtain⟨bs,h1,h2,h3⟩:=h
     refine fin hu ?_ h2 h3
     unfold aCells
     split
     ·simp
     ·simp only[hsp,hg,reaches_of h1,lcut_eq]
    ·exact h.elim
   ·exact h.elim
   ·rename_i hu _
    split at h
    ·rename_i l hl
     split at h
     ·rename_i zs hz
      exact fin hu hl (intsU8_ok hz) h
     ·exact h.elim
    ·exact h.elim
   ·exact h.elim
  ·exact opt_aOp h
 ·rename_i m a n c e
  split at h
  ·rename_i hm ho hsp
   split at h
   ·rename_i el hs hd
    split at h
    ·rename_i hu
     obtain⟨bs,h1,h2⟩:=h
     have hmm:=Nat.eq_of_beq_eq_true hm
     refine⟨_,H,hD (by rw[e];exact aConvert_slice hs hd (by rw[hmm];rfl)) ?_,h2⟩
     rw[e];unfold dConv
     rw[hs,hd]
     simp only[hu,aCellsOf,hm]
     rcases h1 with⟨e1,e2⟩ | ⟨hn,vs,e2,z,lo,ow,hg,hle,hb⟩
     ·subst e1;subst e2
      have:mkd (.iface m (.slice (some a) 0 c))=true:=by rw[hmm];rfl
      simp only[this];rfl
     ·cases n with
      |zero=>exact absurd rfl hn
      |succ n=>
       have hc:aCells H a ((n+1)*1)=some (vs.take (n+1)):=by
        rw[Nat.mul_one]
        simp only[aCells,hsp,hg,ho,reaches_of (show 0+(n+1)<=vs.length by omega),lcut_eq,List.drop_zero]
       have hmk:mkd (.iface m (.slice (some a) (n+1) c))=true:=by rw[hmm];rfl
       simp only[hc,hmk,hb]
       rw[show Nat.beq (vs.take (n+1)).length (n+1)=true by rw[List.length_take,Nat.min_eq_left hle];simp]
    ·exact h.elim
   ·exact h.elim
  ·exact h.elim
 ·rename_i m rs e
  split at h
  ·rename_i hm
   split at h
   ·rename_i el hs hd
    split at h
    ·rename_i hu
     obtain⟨l,bs,h1,h2,h3⟩:=h
     have hmm:=Nat.eq_of_beq_eq_true hm
     refine⟨_,H,hD (by rw[e];exact aConvert_slice hs hd (by rw[hmm];rfl)) ?_,h3⟩
     rw[e];unfold dConv
     rw[hs,hd]
     have hmk:mkd (.iface m (.agg ⟨rs⟩))=true:=by rw[hmm];rfl
     have hl:l.length=rs.length:=by
      have key:∀(rs:List Value) (l:List Value),flatRows 1 rs=some l->l.length=rs.length:=by
       intro rs
       induction rs with
       |nil=>intro l h;simp only[flatRows,Option.some.injEq]at h;subst h;rfl
       |cons r rs ih=>
        intro l h
        cases r<;>simp only[flatRows]at h<;>try(cases h;done)
        rename_i c
        obtain⟨cs⟩:=c
        simp only at h
        split at h<;>(try(cases h;done))
        rename_i l2 hb hl2
        simp only[Option.some.injEq]at h;subst h
        rw[List.length_append,ih _ hl2,Nat.eq_of_beq_eq_true hb,List.length_cons];omega
      exact key _ _ h1
     simp only[hu,aCellsOf,hm,h1,hmk,h2,hl]
     simp
    ·exact h.elim
   ·exact h.elim
  ·exact h.elim
 ·exact opt_aOp h
def AppOf(P:Program)(H:Heap)(argTypes:Array TypeId)(s x v:Value)(H':Heap):Prop:=
 aAppend P H argTypes [s,x]=some (v,H')∨(aAppend P H argTypes [s,x]=none/\dApp P H argTypes [s,x]=some (v,H'))
theorem aAppend_iface{H:Heap}{argTypes:Array TypeId}{m:Nat}{y x:Value}:aAppend P H argTypes [.iface m y,x]=none:=by
 unfold aAppend
 split
 ·rename_i s x' _ e
  simp only[List.cons.injEq,and_true]at e
  obtain⟨e1,e2⟩:=e
  subst e1;subst e2
  split
  ·split
   ·split
    ·split
     ·rfl
     ·rfl
    ·rfl
   ·rfl
  ·rfl
 ·rfl
theorem app_core{H:Heap}{sy:Sy}{argTypes:Array TypeId}{sType xType elem:TypeId}{dx:TypeDesc}{i:TypeInfo}{z s x:Value}(hat:argTypes.toList=[sType,xType])(hus:P.underlying sType=some (.slice elem))(hux:P.underlying xType=some dx)
  (hni:notInt dx=true) (hi:P.info? elem=some i) (hz:i.zero=some z) (hc1:Nat.beq z.cells.toList.length i.size=true) (hc2:plain z=true) {n:Nat} {xs:List Value} (hx:aCellsOf H i.size x=some (n,xs)) (hl:xs.length=n*i.size) (hc:xs.all isCell=true)
  {Q:Nat->List Value->Heap->Prop} (h:wBase (real P) sy s H elem i.size Q):
  ∃len vs H1,Q len vs H1/\(n=0->AppOf P H argTypes s x s H)/\(n≠0->(2*(len+n)+192)*i.bytes<=tops->len+n<=1099511627776->
   AppOf P H argTypes s x (.slice (some ⟨H.next,0,none⟩) (len+n) (len+n)) (H1.push (.cells (vs++xs) elem i.size true true))):=by
 have hlb:Nat.beq xs.length (n*i.size)=true:=by rw[hl];simp
 -- an append to a row that lies, and is known whole
 have lies:∀(a:Addr) (len cap:Nat) (vs:List Value) (lo ow:Bool) (e2:TypeId) (sz:Nat),a.off=0->a.spot=none->H.get a.block=some (.cells vs e2 sz lo ow)->len<=cap->vs.length=len*i.size->cap=len->(lo=true->ow=true/\sz=i.size/\e2=elem)->
   (n=0->aAppend P H argTypes [.slice (some a) len cap,x]=some (.slice (some a) len cap,H))/\(n≠0->(2*(len+n)+192)*i.bytes<=tops->len+n<=1099511627776->
    aAppend P H argTypes [.slice (some a) len cap,x]=some (.slice (some ⟨H.next,0,none⟩) (len+n) (len+n),(match lo with|true=>H.put a.block none|false=>H).push (.cells (vs++xs) elem i.size true true))):=by
  intro a len cap vs lo ow e2 sz ho hsp hg hle hvl hcap hlo
  subst hcap
  constructor
  ·intro hn
   subst hn
   simp only[aAppend,hat,hus,hux,hni,hi,hx,hz]
   rw[hc1,hc2,hlb,hc]
   simp only[Bool.and_self,Nat.add_zero]
   rw[show Nat.ble cap cap=true from Nat.ble_eq_true_of_le (Nat.le_refl _)]
  ·intro hn hb1 hb2
   simp only[aAppend,hat,hus,hux,hni,hi,hx,hz]
   rw[hc1,hc2,hlb,hc]
   simp only[Bool.and_self]
   have e2':Nat.ble (cap+n) cap=false:=by
    cases hb:Nat.ble (cap+n) cap
    ·rfl
    ·have:=Nat.le_of_ble_eq_true hb;omega
   simp only[e2']
   rw[show(Nat.ble ((2*(cap+n)+192)*i.bytes) tops&&Nat.ble (cap+n) 1099511627776&&Nat.ble cap cap)=true by
    rw[Nat.ble_eq_true_of_le hb1,Nat.ble_eq_true_of_le hb2,Nat.ble_eq_true_of_le (Nat.le_refl _)];rfl]
   have hcells:aCells H a (cap*i.size)=some vs:=by
    have hvt:vs.take (cap*i.size)=vs:=List.take_of_length_le (by omega)
    cases hm:cap*i.size with
    |zero=>
     rw[hm]at hvl
     have:vs=[]:=List.eq_nil_of_length_eq_zero hvl
     subst this;rfl
    |succ m=>
     rw[←hm]
     unfold aCells
     split
     ·rename_i e;omega
     ·simp only[hsp,hg,lcut_eq,ho,reaches_of (show 0+cap*i.size<=vs.length by omega),List.drop_zero,hvt]
   simp only[hsp,hg,hcells]
   cases lo with
   |false=>rfl
   |true=>
    obtain⟨q1,q2,q3⟩:=hlo rfl
    subst q1;subst q2;subst q3
    simp only
    rw[show(true&&Nat.beq i.size i.size&&Nat.beq (a.off+cap*i.size) vs.length&&Nat.beq e2 e2)=true by rw[ho,Nat.zero_add,hvl];simp]
    rfl
 unfold wBase at h
 split at h
 ·rename_i len cap
  split at h
  ·refine⟨0,[],H,h,fun hn=>?_,fun hn hb1 hb2=>?_⟩
   ·subst hn
    left
    simp only[aAppend,hat,hus,hux,hni,hi,hx,hz]
    rw[hc1,hc2,hlb,hc]
    rfl
   ·left
    rw[Nat.zero_add]at hb1 hb2 ⊢
    simp only[aAppend,hat,hus,hux,hni,hi,hx,hz]
    rw[hc1,hc2,hlb,hc]
    simp only[Bool.and_self]
    cases n with
    |zero=>exact absurd rfl hn
    |succ n=>
     show(match (Nat.ble ((2*(n+1)+192)*i.bytes) tops&&Nat.ble (n+1) 1099511627776)with|true=>some (aGrown _ elem i.size xs (n+1))|false=>none)=_
     rw[show(Nat.ble ((2*(n+1)+192)*i.bytes) tops&&Nat.ble (n+1) 1099511627776)=true by rw[Nat.ble_eq_true_of_le hb1,Nat.ble_eq_true_of_le hb2];rfl]
     rfl
  ·exact h.elim
 ·rename_i a len cap
  split at h
  ·rename_i ho hsp
   split at h
   ·obtain⟨vs,h1,h2⟩:=h
    rcases h1 with⟨e,_⟩ | ⟨h0,hg,hcap,hs,hvl⟩
    ·cases e
    ·obtain⟨k1,k2⟩:=lies a len cap vs true true elem i.size ho hsp hg (by omega) hvl hcap (fun _=>⟨rfl,rfl,rfl⟩)
     exact⟨len,vs,H.put a.block none,h2,fun hn => .inl (k1 hn),fun hn b1 b2 => .inl (k2 hn b1 b2)⟩
   ·split at h
    ·rename_i vs0 e2 sz lo ow hg
     split at h
     ·obtain⟨vs,h1,h2⟩:=h
      rcases h1 with⟨e,_⟩ | ⟨h0,hg2,hcap,hs,hvl⟩
      ·cases e
      ·simp only[Option.some.injEq,AObj.cells.injEq]at hg2
       obtain⟨q1,q2,q3,q4,q5⟩:=hg2
       subst q1;subst q2;subst q3;subst q5
       obtain⟨k1,k2⟩:=lies a len cap vs0 true true e2 i.size ho hsp hg (by omega) hvl hcap (fun _=>⟨rfl,rfl,rfl⟩)
       exact⟨len,vs0,H.put a.block none,h2,fun hn => .inl (k1 hn),fun hn b1 b2 => .inl (k2 hn b1 b2)⟩
     ·split at h
      ·rename_i hc3
       simp only[Bool.and_eq_true]at hc3
       have e1:=Nat.eq_of_beq_eq_true hc3.1
       have e3:=Nat.eq_of_beq_eq_true hc3.2
       obtain⟨k1,k2⟩:=lies a len cap vs0 false ow e2 sz ho hsp hg (by omega) e3.symm e1.symm (fun e=>by cases e)
       exact⟨len,vs0,H,h,fun hn => .inl (k1 hn),fun hn b1 b2 => .inl (k2 hn b1 b2)⟩
      ·exact h.elim
    ·exact h.elim
  ·exact h.elim
 ·rename_i m a len cap
  split at h
  ·rename_i hm ho hsp
   obtain⟨vs,h1,h2⟩:=h
   rcases h1 with⟨_,e1,e2⟩ | ⟨h0,hg,hcap,hs,hvl⟩
   ·subst e1;subst e2
    refine⟨0,[],_,h2,fun hn => .inr ⟨aAppend_iface,?_⟩,fun hn hb1 hb2 => .inr ⟨aAppend_iface,?_⟩⟩
    ·subst hn
     simp only[dApp,hat,hm,hus,hux,hni,hi,hx,hz]
     rw[hc1,hc2,hlb,hc]
     rfl
    ·rw[Nat.zero_add]at hb1 hb2 ⊢
     simp only[dApp,hat,hm,hus,hux,hni,hi,hx,hz]
     rw[hc1,hc2,hlb,hc]
     simp only[Bool.and_self]
     cases n with
     |zero=>exact absurd rfl hn
     |succ n=>
      show(match (Nat.ble ((2*(n+1)+192)*i.bytes) tops&&Nat.ble (n+1) 1099511627776)with|true=>some (aGrown _ elem i.size xs (n+1))|false=>none)=_
      rw[show(Nat.ble ((2*(n+1)+192)*i.bytes) tops&&Nat.ble (n+1) 1099511627776)=true by rw[Nat.ble_eq_true_of_le hb1,Nat.ble_eq_true_of_le hb2];rfl]
      rfl
   ·obtain⟨k1,k2⟩:=lies a len cap vs true true elem i.size ho hsp hg (by omega) hvl hcap (fun _=>⟨rfl,rfl,rfl⟩)
    cases len with
    |zero=>exact absurd rfl h0
    |succ len=>
     refine⟨len+1,vs,_,h2,fun hn => .inr ⟨aAppend_iface,?_⟩,fun hn b1 b2 => .inr ⟨aAppend_iface,?_⟩⟩
     ·subst hn
      simp only[dApp,hat,hm,hus,hux,hni,hi,hx,hz]
      rw[hc1,hc2,hlb,hc,show Nat.ble (len+1) cap=true from Nat.ble_eq_true_of_le (by omega)]
      rfl
     ·have:=k2 hn b1 b2
      simp only[dApp,hat,hm,hus,hux,hni,hi,hx,hz]
      rw[hc1,hc2,hlb,hc,show Nat.ble (len+1) cap=true from Nat.ble_eq_true_of_le (by omega)]
      cases n with
      |zero=>exact absurd rfl hn
      |succ n=>exact this
  ·exact h.elim
 ·exact h.elim
theorem aCellsOf_zero{H:Heap}{size:Nat}{x:Value}{xs:List Value}(h:aCellsOf H size x=some (0,xs)):xs=[]:=by
 unfold aCellsOf at h
 split at h
 ·split at h
  ·rename_i l hl
   simp only[Option.some.injEq,Prod.mk.injEq]at h
   obtain⟨e1,e2⟩:=h
   subst e1;subst e2
   rw[Nat.zero_mul]at hl
   simpa [aCells]using hl.symm
  ·cases h
 ·split at h
  ·simp only[Option.some.injEq,Prod.mk.injEq]at h;exact h.2.symm
  ·cases h
 ·simp only[Option.some.injEq,Prod.mk.injEq]at h
  obtain⟨e1,e2⟩:=h
  rw[List.eq_nil_of_length_eq_zero e1]at e2
  exact e2.symm
 ·split at h
  ·split at h
   ·rename_i l hl
    simp only[Option.some.injEq,Prod.mk.injEq]at h
    obtain⟨e1,e2⟩:=h
    rw[List.eq_nil_of_length_eq_zero e1]at hl
    simp only[flatRows,Option.some.injEq]at hl
    rw[←e2,←hl]
   ·cases h
  ·cases h
 ·split at h
  ·split at h
   ·simp only[Option.some.injEq,Prod.mk.injEq]at h;exact h.2.symm
   ·split at h
    ·simp only[Option.some.injEq,Prod.mk.injEq]at h;omega
    ·cases h
  ·cases h
 ·cases h
theorem bytesV_len(s:ByteArray):(bytesV s).length=s.data.toList.length:=by simp[bytesV]
theorem bytesV_cell(s:ByteArray):(bytesV s).all isCell=true:=by
 unfold bytesV;rw[List.all_map,List.all_eq_true];intro b _;rfl
theorem flatRows_len{size:Nat}:∀ {rs xs:List Value},flatRows size rs=some xs->xs.length=rs.length*size
 | [],xs,h=>by simp only[flatRows,Option.some.injEq]at h;subst h;simp
 |r::rs,xs,h=>by
  cases r<;>simp only[flatRows]at h<;>try(cases h;done)
  rename_i c
  obtain⟨cs⟩:=c
  simp only at h
  split at h<;>(try(cases h;done))
  rename_i l2 hb hl2
  simp only[Option.some.injEq]at h;subst h
  rw[List.length_append,flatRows_len hl2,Nat.eq_of_beq_eq_true hb,List.length_cons,Nat.succ_mul];omega
theorem wApp_ok{sy:Sy}{argTypes:Array TypeId}{s x:Value}{H:Heap}{K:VK}(h:wApp P (real P) sy argTypes s x H K):∃v H',AppOf P H argTypes s x v H'/\K v H':=by
 unfold wApp at h
 split at h
 case h_2=>exact h.elim
 rename_i sType xType hat
 split at h
 case h_2=>exact h.elim
 rename_i elem dx hus hux
 split at h
 case h_2=>exact h.elim
 rename_i i hni hi
 split at h
 case h_2=>exact h.elim
 rename_i z hz
 split at h
 case h_2=>exact h.elim
 rename_i hc
 simp only[Bool.and_eq_true]at hc
 simp only at h
 split at h
 ·rename_i t
  by_cases h1:Nat.beq i.size 1=true
  ·have e1:=Nat.eq_of_beq_eq_true h1
   have hx:aCellsOf H i.size (.string t)=some (t.data.toList.length,bytesV t):=rfl
   obtain⟨len,vs,H1,hq,k0,k1⟩:=app_core (sy:=sy) hat hus hux hni hi hz hc.1 hc.2 hx (by rw[bytesV_len,e1,Nat.mul_one]) (bytesV_cell t) h
   rw[h1]at hq
   simp only at hq
   obtain⟨g1,g2⟩:=hq
   by_cases hn:t.data.toList=[]
   ·exact⟨_,_,k0 (by rw[hn];rfl),g1 hn⟩
   ·obtain⟨b1,b2,hk⟩:=g2 hn
    exact⟨_,_,k1 (fun e=>hn (List.eq_nil_of_length_eq_zero e)) b1 b2,hk⟩
  ·have h1:Nat.beq i.size 1=false:=by simpa only[Bool.not_eq_true]using h1
   have hx:aCellsOf H i.size (.slice none 0 0)=some (0,[]):=rfl
   obtain⟨len,vs,H1,hq,_,_⟩:=app_core (sy:=sy) hat hus hux hni hi hz hc.1 hc.2 hx (by simp) rfl h
   rw[h1]at hq;exact hq.elim
 ·rename_i m rs
  by_cases hm:Nat.beq m mkD=true
  ·by_cases hf:∃xs,flatRows i.size rs=some xs/\xs.all isCell=true
   ·obtain⟨xs,hf,hcell⟩:=hf
    have hx:aCellsOf H i.size (.iface m (.agg ⟨rs⟩))=some (rs.length,xs):=by simp only[aCellsOf,hm,hf]
    obtain⟨len,vs,H1,hq,k0,k1⟩:=app_core (sy:=sy) hat hus hux hni hi hz hc.1 hc.2 hx (flatRows_len hf) hcell h
    rw[hm]at hq
    simp only at hq
    obtain⟨ys,q1,q2,g1,g2⟩:=hq
    rw[hf]at q1;simp only[Option.some.injEq]at q1;subst q1
    by_cases hn:rs=[]
    ·exact⟨_,_,k0 (by rw[hn];rfl),g1 hn⟩
    ·obtain⟨b1,b2,hk⟩:=g2 hn
     exact⟨_,_,k1 (fun e=>hn (List.eq_nil_of_length_eq_zero e)) b1 b2,hk⟩
   ·have hx:aCellsOf H i.size (.slice none 0 0)=some (0,[]):=rfl
    obtain⟨len,vs,H1,hq,_,_⟩:=app_core (sy:=sy) hat hus hux hni hi hz hc.1 hc.2 hx (by simp) rfl h
    rw[hm]at hq
    obtain⟨ys,q1,q2,_⟩:=hq
    exact absurd ⟨ys,q1,q2⟩ hf
  ·have hm:Nat.beq m mkD=false:=by simpa only[Bool.not_eq_true]using hm
   have hx:aCellsOf H i.size (.slice none 0 0)=some (0,[]):=rfl
   obtain⟨len,vs,H1,hq,_,_⟩:=app_core (sy:=sy) hat hus hux hni hi hz hc.1 hc.2 hx (by simp) rfl h
   rw[hm]at hq;exact hq.elim
 ·rename_i y _ _
  by_cases hx:∃n xs,aCellsOf H i.size x=some (n,xs)
  ·obtain⟨n,xs,hx⟩:=hx
   cases n with
   |zero=>
    by_cases hl:xs=[]
    ·subst hl
     obtain⟨len,vs,H1,hq,k0,k1⟩:=app_core (sy:=sy) hat hus hux hni hi hz hc.1 hc.2 hx (by simp) rfl h
     rw[hx]at hq
     exact⟨_,_,k0 rfl,hq⟩
    ·exact absurd (aCellsOf_zero hx) hl
   |succ n=>
    by_cases hl:xs.length=(n+1)*i.size/\xs.all isCell=true
    ·obtain⟨len,vs,H1,hq,k0,k1⟩:=app_core (sy:=sy) hat hus hux hni hi hz hc.1 hc.2 hx hl.1 hl.2 h
     rw[hx]at hq
     obtain⟨vs',len',g0,g1,g2,g3,g4,g5,g6,g7⟩:=hq
     subst g5;subst g6
     exact⟨_,_,k1 g0 g3 g4,g7⟩
    ·have hx0:aCellsOf H i.size (.slice none 0 0)=some (0,[]):=rfl
     obtain⟨len,vs,H1,hq,_,_⟩:=app_core (sy:=sy) hat hus hux hni hi hz hc.1 hc.2 hx0 (by simp) rfl h
     rw[hx]at hq
     obtain⟨vs',len',g0,g1,g2,_⟩:=hq
     exact absurd ⟨g1,g2⟩ hl
  ·have hx0:aCellsOf H i.size (.slice none 0 0)=some (0,[]):=rfl
   obtain⟨len,vs,H1,hq,_,_⟩:=app_core (sy:=sy) hat hus hux hni hi hz hc.1 hc.2 hx0 (by simp) rfl h
   cases hxe:aCellsOf H i.size x with
   |none=>rw[hxe]at hq;exact hq.elim
   |some r=>exact absurd ⟨r.1,r.2,hxe⟩ hx
theorem aLen_mk{t:TypeId}{e:TypeId}{m:Nat}{v:Value}(hu:P.underlying t=some (.slice e))(H:Heap):(match aLen P t (.iface m v)with|some v=>some (v,H)|none=>(aLenM P H t (.iface m v)).map (·,H))=(none:Option (Value×Heap)):=by
 have h1:aLen P t (.iface m v)=none:=by unfold aLen;rw[hu]
 have h2:aLenM P H t (.iface m v)=none:=by unfold aLenM;rw[hu]
 rw[h1,h2];rfl
theorem wOp_ok{sy:Sy}{sp:Nat->Bool}{o:Oper}{ρ:Operand->Value}{H:Heap}{K:VK}(h:wOp P (real P) sy sp o ρ H K o.op):∃v H',aOp P o ρ H=some (v,H')/\K v H':=by
 obtain⟨dst,op,type,pos,after,guard⟩:=o
 simp only at h
 unfold wOp at h
 split at h
 ·rename_i op t x y yt
  obtain⟨v,h1,h2⟩:=wBin_ok h
  exact⟨v,H,aOp_K (by simp only[aOpK,h1,Option.map_some]),h2⟩
 ·rename_i op t x
  split at h
  ·rename_i b e
   cases b
   ·exact⟨.bool true,H,aOp_K (by simp only[aOpK,e,plain];rfl),h⟩
   ·exact⟨.bool false,H,aOp_K (by simp only[aOpK,e,plain];rfl),h⟩
  ·rename_i k a op e
   obtain⟨z,h1,h2⟩:=h
   exact⟨_,H,aOp_K (by simp only[aOpK,e,plain,h1,Option.map_some]),h2⟩
  ·exact opt_aOp h
 ·rename_i t a
  split at h
  ·rename_i ad e
   obtain⟨v,h1,h2⟩:=wLoad_ok h
   exact⟨v,H,aOp_K (by simp only[aOpK,e,h1,Option.map_some]),h2⟩
  ·rename_i m cs e
   split at h
   ·rename_i hm
    obtain⟨v,h1,h2⟩:=opt_elim h
    exact⟨v,H,aOp_D (by simp only[aOpK,e]) (by simp only[aDeep,e,hm,h1,Option.map_some]),h2⟩
   ·exact h.elim
  ·exact h.elim
 ·rename_i t a x
  split at h
  ·rename_i ad e
   obtain⟨H',h1,h2⟩:=wStore_ok h
   exact⟨undef,H',aOp_K (by simp only[aOpK,e,h1,Option.map_some]),h2⟩
  ·exact h.elim
 ·rename_i c a b
  split at h
  ·rename_i t e
   cases t
   ·exact⟨_,H,aOp_K (by simp only[aOpK,e]),h⟩
   ·exact⟨_,H,aOp_K (by simp only[aOpK,e]),h⟩
  ·exact h.elim
 ·rename_i t x ix
  obtain⟨hp,v,h1,h2⟩:=wIdx_ok h
  rcases h1 with h1|⟨h0,⟨m,rows,k,i,e1,e2,hm,h1⟩ | ⟨m,a,n,c,e1,⟨k,i,e2⟩,hm,h1⟩⟩
  ·exact⟨v,H,aOp_K (by simp only[aOpK,hp,h1,Option.map_some]),h2⟩
  ·exact⟨v,H,aOp_D (by simp only[aOpK,hp,h0,Option.map_none]) (by simp only[aDeep,e1,e2,hm,h1,Option.map_some]),h2⟩
  ·refine⟨v,H,aOp_D (by simp only[aOpK,hp,h0,Option.map_none]) ?_,h2⟩
   rw[e2]at h1
   simp only[aDeep,e1,e2,hm,h1,Option.map_some]
 ·rename_i s x f
  obtain⟨v,h1,h2⟩:=wFld_ok h
  rcases h1 with h1|⟨h0,m,cs,e,hm,h1⟩
  ·exact⟨v,H,aOp_K (by simp only[aOpK,h1,Option.map_some]),h2⟩
  ·exact⟨v,H,aOp_D (by simp only[aOpK,h0,Option.map_none]) (by simp only[aDeep,e,hm,h1,Option.map_some]),h2⟩
 ·rename_i s x f
  obtain⟨v,h1,h2⟩:=opt_elim h
  exact⟨v,H,aOp_K (by simp only[aOpK,h1,Option.map_some]),h2⟩
 ·rename_i t x ix
  have hp:plain (ρ ix)=true:=by
   unfold wAt at h
   split at h
   ·rename_i e;rw[e];rfl
   ·obtain⟨v,h1,_⟩:=opt_elim h
    unfold aIndex at h1
    split at h1
    ·rename_i e;rw[e];rfl
    ·cases h1
  obtain⟨v,h1,h2⟩:=wAt_ok hp h
  exact⟨v,H,aOp_K (by simp only[aOpK,hp,h1,Option.map_some]),h2⟩
 ·exact wSlice_ok h
 ·exact wConv_ok h
 ·rename_i b args ats
  split at h
  ·rename_i s x e
   obtain⟨v,H',h1,h2⟩:=wApp_ok h
   rcases h1 with h1|⟨h0,h1⟩
   ·exact⟨v,H',aOp_K (by simp only[aOpK,aBuiltin,e,h1]),h2⟩
   ·exact⟨v,H',aOp_D (by simp only[aOpK,aBuiltin,e,h0]) (by simp only[aDeep,e,h1]),h2⟩
  ·rename_i x e
   unfold wLen at h
   cases ht:ats[0]? with
   |none=>rw[ht]at h;exact opt_aOp h
   |some t=>
    rw[ht]at h
    simp only[Option.bind_some]at h
    split at h
    ·rename_i s hu
     exact⟨_,H,aOp_K (by simp only[aOpK,aBuiltin,ht,e,aLen,hu]),h⟩
    ·rename_i el a n c hu
     exact⟨_,H,aOp_K (by simp only[aOpK,aBuiltin,ht,e,aLen,hu]),h⟩
    ·rename_i el m v hu
     have h0:∀T:TypeId,aOpK (.call {callee := .builtin .len,args:=args,argTypes:=ats}) P T ρ H=none:=by
      intro T
      simp only[aOpK,aBuiltin,ht,e]
      exact aLen_mk hu H
     split at h
     ·rename_i rs hm
      exact⟨_,H,aOp_D (h0 _) (by simp only[aDeep,ht,e,hu,dLen,hm,Option.map_some]),h⟩
     ·rename_i a n c _
      split at h
      ·rename_i hm
       exact⟨_,H,aOp_D (h0 _) (by simp only[aDeep,ht,e,hu,dLen,hm,Option.map_some]),h⟩
      ·exact h.elim
     ·exact h.elim
    ·exact opt_aOp h
  ·rename_i k a k' b e
   split at h
   ·rename_i hk
    simp only[decide_eq_true_eq]at hk;subst hk
    obtain⟨z,h1,h2⟩:=h
    exact⟨_,H,aOp_K (by simp only[aOpK,e];exact h1 H),h2⟩
   ·exact h.elim
  ·rename_i k a k' b e
   split at h
   ·rename_i hk
    simp only[decide_eq_true_eq]at hk;subst hk
    obtain⟨z,h1,h2⟩:=h
    exact⟨_,H,aOp_K (by simp only[aOpK,e];exact h1 H),h2⟩
   ·exact h.elim
  ·exact opt_aOp h
 ·exact opt_aOp h
end
end
end Go.Abs
