/- . -/
import Derived.Test.YtblbaohcelldpaaGreatDoorD1
set_option linter.all false
namespace Go.Abs
open Go
noncomputable section
section
variable {P:Program}
theorem U7(h:Heap):∀(n k i:Nat),(CY.go h n k)[i]?=if i<n then some (h.get (k+i))else none
 | 0,k,i=>by simp[CY.go]
 |n+1,k,0=>by simp[CY.go]
 |n+1,k,i+1=>by
  simp only[CY.go,List.getElem?_cons_succ,U7 h n (k+1) i]
  by_cases c:i<n
  ·rw[if_pos c,if_pos (by omega)];congr 2;omega
  ·rw[if_neg c,if_neg (by omega)]
theorem K6(G:Nat)(h:Heap)(i:Nat):(CY G h)[i]?=if G+i<h.next then some (h.get (G+i))else none:=by
 unfold CY
 rw[U7]
 by_cases c:i<h.next-G
 ·rw[if_pos c,if_pos (by omega)]
 ·rw[if_neg c,if_neg (by omega)]
theorem IU{t:TypeId}{d:TypeDesc}(hu:P.underlying t=some d):BG P (underlying t)=some d:=by
 simp[underlying,program,BO,BG,hu]
 rfl
theorem U9{op:BinOp}{t:TypeId}{x y:Operand}{a b:Bool}:BG P (eqGuard op t x y (.bool a) (.bool b))=some ():=by
 unfold eqGuard
 split<;>rfl
theorem U8{t:TypeId}{a b:Bool}(hu:P.underlying t=some .bool)(n:Nat):BG P (Op.equalIn (n+1) t (.bool a) (.bool b))=some (a==b):=by
 simp only[Op.equalIn,BO,IU hu]
 rfl
theorem ED{α:Type}{o:Option α}{K:α->Prop}(h:opt o K):∃a,o=some a/\K a:=by
 cases o with
 |none=>exact h.elim
 |some a=>exact⟨a,rfl,h⟩
theorem AGa {op:BinOp} {k k':IntKind} {a b:Int} {K:Value->Prop} (h:AIi (real P) op k a k' b K):∃v,FU op k a k' b=some v/\K v:=by
  unfold AIi at h
  split at h<;>first
    | (obtain⟨t,h1,h2,h3⟩:=h
       cases t
       · exact⟨_,h1,h3 rfl⟩
       · exact⟨_,h1,h2 rfl⟩)
    |(obtain⟨z,h1,h2⟩:=h;exact⟨_,h1,h2⟩)
theorem AGb {op:BinOp} {a b:ByteArray} {K:Value->Prop} (h:AIm (real P) op a b K):∃v,T9 op a b=some v/\K v:=by
  unfold AIm at h
  split at h<;>first
    | (obtain⟨t,h1,h2,h3⟩:=h
       cases t
       · exact⟨_,h1,h3 rfl⟩
       · exact⟨_,h1,h2 rfl⟩)
    |(obtain⟨z,h1,h2⟩:=h;exact⟨_,h1,h2⟩)
theorem AF7{op:BinOp}{t:TypeId}{x y:Operand}{a b:Value}{H:Heap}{K:VK}(h:AIf P (real P) op t x y a b H K):∃v,QR P H op t x y a b=some v/\K v H:=by
 unfold AIf at h
 split at h
 ·exact AGa h
 ·exact AGb h
 ·rename_i a b
  ·split at h
   ·rename_i hu
    rcases h with⟨e,h1,h2⟩ | ⟨e,h1,h2⟩<;>subst e
    ·refine⟨.bool (a==b),?_,?_⟩
     ·have e:BG P (do eqGuard .eql t x y (.bool a) (.bool b);binOp .eql t (.bool a) (.bool b))=some (.bool (a==b)):=by
       rw[BO,U9,Option.bind_some,show binOp .eql t (.bool a) (.bool b)=(do pure (.bool ((←Op.equalIn (9999+1) t (.bool a) (.bool b)))))from rfl,BO,U8 hu]
       rfl
      simp only[QR,plain,Bool.and_self,EY,e]
     ·cases hc:(a==b)
      ·exact h2 hc
      ·exact h1 hc
    ·refine⟨.bool (!(a==b)),?_,?_⟩
     ·have e:BG P (do eqGuard .neq t x y (.bool a) (.bool b);binOp .neq t (.bool a) (.bool b))=some (.bool (!(a==b))):=by
       rw[BO,U9,Option.bind_some,show binOp .neq t (.bool a) (.bool b)=(do pure (.bool (!(←Op.equalIn (9999+1) t (.bool a) (.bool b)))))from rfl,BO,U8 hu]
       rfl
      simp only[QR,plain,Bool.and_self,EY,e]
     ·cases hc:(a==b)
      ·exact h1 hc
      ·exact h2 hc
   ·exact h.elim
 ·obtain⟨b,h1,h2,h3⟩:=h
  cases b
  ·exact⟨_,h1 H x y,h3 rfl⟩
  ·exact⟨_,h1 H x y,h2 rfl⟩
 ·exact ED h
theorem UC{vs:List Value}:∀(zs:List Value) (off:Nat) (acc:List Value) (K:List Value->Prop),JF (real P) vs zs off acc K->
  ∃l,l.length=zs.length/\(∀i,i<zs.length->vs[off+i]?=l[i]?)/\K (acc.reverse++l)
 | [],off,acc,K,h=>⟨[],rfl,fun i hi=>by simp at hi,by simpa [JF]using h⟩
 |z::zs,off,acc,K,h=>by
  have next:∀v,vs[off]?=some v->JF (real P) vs zs (off+1) (v::acc) K->∃l,l.length=(z::zs).length/\(∀i,i<(z::zs).length->vs[off+i]?=l[i]?)/\K (acc.reverse++l):=by
   intro v hv hr
   obtain⟨l,h1,h2,h3⟩:=UC zs _ _ _ hr
   refine⟨v::l,by simp[h1],fun i hi=>?_,by simpa using h3⟩
   cases i with
   |zero=>simpa using hv
   |succ i=>
    have:=h2 i (by simpa using hi)
    rw[List.getElem?_cons_succ,←this];congr 1;omega
  unfold JF at h
  split at h
  ·obtain⟨z,h1,h2⟩:=h;exact next _ h1 h2
  ·obtain⟨t,h1,h2,h3⟩:=h
   cases t
   ·exact next _ h1 (h3 rfl)
   ·exact next _ h1 (h2 rfl)
  ·obtain⟨z,h1,h2⟩:=h;exact next _ h1 h2
  ·obtain⟨z,h1,h2⟩:=h;exact next _ h1 h2
  ·exact h.elim
theorem AIk{t:TypeId}{vs:List Value}{off:Nat}{K:Value->Prop}(h:wRd P (real P) t vs off K):
  ∃d v,P.underlying t=some d/\K v/\((RF d=false/\vs[off]?=some v)∨(RF d=true/\∃n,EC P t=some n/\off+n<=vs.length/\n≠0/\v = .agg ((vs.drop off).take n).toArray)):=by
 unfold wRd at h
 split at h
 ·rename_i k hu;obtain⟨z,h1,h2⟩:=h;exact⟨_,_,hu,h2,.inl ⟨rfl,h1⟩⟩
 ·rename_i hu;obtain⟨t,h1,h2,h3⟩:=h
  cases t
  ·exact⟨_,_,hu,h3 rfl,.inl ⟨rfl,h1⟩⟩
  ·exact⟨_,_,hu,h2 rfl,.inl ⟨rfl,h1⟩⟩
 ·rename_i hu;obtain⟨z,h1,h2⟩:=h;exact⟨_,_,hu,h2,.inl ⟨rfl,h1⟩⟩
 ·rename_i e hu;obtain⟨z,h1,h2⟩:=h;exact⟨_,_,hu,h2,.inl ⟨rfl,h1⟩⟩
 ·rename_i hu
  obtain⟨n,hn,h⟩:=ED h
  split at h
  ·split at h
   ·rename_i m z hz _
    split at h
    ·rename_i hzl
     have hzl:=Nat.eq_of_beq_eq_true hzl
     obtain⟨l,h1,h2,h3⟩:=UC _ _ _ _ h
     simp only[List.reverse_nil,List.nil_append]at h3
     have hlast:=h2 m (by omega)
     have hlen:off+m<vs.length:=by
      rcases Nat.lt_or_ge (off+m) vs.length with c|c
      ·exact c
      ·rw[List.getElem?_eq_none c]at hlast
       have:m<l.length:=by omega
       rw[List.getElem?_eq_getElem this]at hlast;cases hlast
     have hl:l=(vs.drop off).take (m+1):=by
      apply List.ext_getElem?
      intro i
      rw[List.getElem?_take]
      split
      ·rw[List.getElem?_drop,h2 i (by omega)]
      ·rw[List.getElem?_eq_none (by omega)]
     exact⟨_,_,hu,h3,.inr ⟨rfl,m+1,hn,by omega,by omega,by rw[←hl]⟩⟩
    ·exact h.elim
   ·exact h.elim
  ·obtain⟨l,h1,h0,h2,h3⟩:=h;subst h2;exact⟨_,_,hu,h3,.inr ⟨rfl,n,hn,h1,h0,rfl⟩⟩
 ·rename_i hu;obtain⟨n,hn,l,h1,h0,h2,h3⟩:=ED h;subst h2;exact⟨_,_,hu,h3,.inr ⟨rfl,n,hn,h1,h0,rfl⟩⟩
 ·exact h.elim
theorem OL{l:List Value}{off n:Nat}(h:off+n<=l.length):reaches l off n=true:=by
 cases n with
 |zero=>exact Nat.ble_eq_true_of_le (by simpa using h)
 |succ k=>
  simp only[reaches,NJ]
  rw[show((l.drop off).take (k+1)).length=k+1 by rw[List.length_take,List.length_drop];omega]
  simp
theorem uA{t:TypeId}{ad:Addr}{H:Heap}{K:VK}{vs:List Value}{e:TypeId}{z:Nat}{lo ow:Bool}(hs:ad.spot=none)(hg:H.get ad.block=some (.cells vs e z lo ow))
  (h:wRd P (real P) t vs ad.off (K · H)):∃v,L9 P H t ad=some v/\K v H:=by
 obtain⟨d,v,hu,hk,hv⟩:=AIk h
 refine⟨v,?_,hk⟩
 unfold L9
 rw[hu]
 rcases hv with⟨h1,h2⟩ | ⟨h1,n,h2,h3,h0,h4⟩
 ·simp only[h1,YI,hs,hg,h2]
 ·simp only[h1,h2]
  have:F6 H ad n=some ((vs.drop ad.off).take n):=by
   cases n with
   |zero=>exact absurd rfl h0
   |succ n=>simp only[F6,NJ,hs,hg,OL h3]
  rw[this,h4]
theorem AD8{sy:Sy}{t:TypeId}{ad:Addr}{H:Heap}{K:VK}(h:AD7 P (real P) sy t ad H K):∃v,L9 P H t ad=some v/\K v H:=by
 unfold AD7 at h
 split at h
 ·split at h
  ·rename_i vs e z lo ow hs hg
   exact uA hs hg h
  ·exact h.elim
 ·split at h
  ·rename_i hs
   obtain⟨vs,e,z,lo,ow,hg,h⟩:=h
   exact uA hs hg h
  ·exact h.elim
 ·exact ED h
theorem kF{t:TypeId}{ad:Addr}{x:Value}{H:Heap}{K:VK}{vs:List Value}{e:TypeId}{z n:Nat}{lo:Bool}(hs:ad.spot=none)(hg:H.get ad.block=some (.cells vs e z lo true))(hn:EC P t=some n)
  (h:(real P).wr vs ad.off n x.cells.toList fun vs'=>K undef (H.put ad.block (some (.cells vs' e z lo true)))):∃H',SH P H t ad x=some H'/\K undef H':=by
 obtain⟨vs',h1,h2,h3,h4,h5⟩:=h
 subst h4
 refine⟨_,?_,h5⟩
 simp only[SH,hs,hg,hn]
 have e1:Nat.beq x.cells.toList.length n=true:=by rw[h1];simp
 rw[e1,h2,OL h3]
 rfl
theorem ABA{sy:Sy}{t:TypeId}{ad:Addr}{x:Value}{H:Heap}{K:VK}(h:wY P (real P) sy t ad x H K):∃H',SH P H t ad x=some H'/\K undef H':=by
 unfold wY at h
 split at h
 ·split at h
  ·rename_i vs e z lo n hs hg hn
   exact kF hs hg hn h
  ·exact h.elim
 ·split at h
  ·rename_i n hs hn
   obtain⟨vs,e,z,lo,hg,h⟩:=h
   exact kF hs hg hn h
  ·exact h.elim
 ·exact ED h
theorem Addr.add_none(b o n:Nat):Addr.add ⟨b,o,none⟩ n=⟨b,o+n,none⟩:=by
 unfold Addr.add;split
 ·rename_i h;subst h;rfl
 ·rfl
theorem fA(f:Nat->Prop):∀(n k j:Nat) (p:Prop),(Y4 f n k)[j]?=some p->j<n/\p=f (k+j)
 | 0,k,j,p,h=>by simp[Y4]at h
 |n+1,k,0,p,h=>by simp[Y4]at h;exact⟨by omega,by rw[←h];rfl⟩
 |n+1,k,j+1,p,h=>by
  simp[Y4]at h
  obtain⟨h1,h2⟩:=fA f n (k+1) j p h
  exact⟨by omega,by rw[h2];congr 1;omega⟩
def AGK(P:Program)(t:TypeId)(x ix:Value)(H:Heap)(v:Value):Prop:=
 CR P t x ix=some v∨(CR P t x ix=none/\((∃m A7 k i,x = .iface m (.agg ⟨A7⟩)/\ix = .int k i/\Nat.beq m mkD=true/\SS P t A7 i=some v)∨
  (∃m a n c,x = .iface m (.slice (some a) n c)/\(∃k i,ix = .int k i)/\Nat.beq m mkM=true/\CR P t (.slice (some a) n c) ix=some v)))
theorem PY{t:TypeId}{m:Nat}{x ix:Value}:CR P t (.iface m x) ix=none:=by
 unfold CR
 split
 ·split
  ·rename_i e;cases e
  ·rename_i e;cases e
  ·rfl
 ·rfl
theorem AF9{sy:Sy}{sp:Nat->Bool}{t:TypeId}{x ix:Value}{H:Heap}{K:VK}(h:AIh P (real P) sy sp t x ix H K):plain ix=true/\∃v,AGK P t x ix H v/\K v H:=by
 have hidx:∀ {ad:Addr} {len n:Nat} {k:IntKind} {i:Int} {u:Value} (_:ad.spot=none),(∀j:Nat,j<len->CR P t u (.int k j)=some (.pointer (some (ad.add (j*n)))))->
   ((real P).idx len ad.off n i fun o=>K (.pointer (some ⟨ad.block,o,none⟩)) H)->∃v,CR P t u (.int k i)=some v/\K v H:=by
  intro ad len n k i u hs hj h
  obtain⟨j,h1,h2,h3⟩:=h
  obtain⟨b,o,sp⟩:=ad
  simp only at hs;subst hs;subst h1
  exact⟨_,hj j h2,by rw[Addr.add_none];exact h3⟩
 have harr:∀ {len:Nat} {elem:TypeId} {ad:Addr} {n:Nat} {k:IntKind},P.underlying t=some (.array len elem)->EC P elem=some n->∀j:Nat,j<len->CR P t (.pointer (some ad)) (.int k j)=some (.pointer (some (ad.add (j*n)))):=by
  intro len elem ad n k hu hn j hj
  simp only[CR,hu,hn]
  rw[show(decide (0<=(j:Int))&&Nat.blt (j:Int).toNat len)=true by simp;exact hj]
  simp only[Int.toNat_natCast]
 have hsl:∀ {len cap:Nat} {elem:TypeId} {ad:Addr} {n:Nat} {k:IntKind},P.underlying t=some (.slice elem)->EC P elem=some n->∀j:Nat,j<len->CR P t (.slice (some ad) len cap) (.int k j)=some (.pointer (some (ad.add (j*n)))):=by
  intro len cap elem ad n k hu hn j hj
  simp only[CR,hu,hn]
  rw[show(decide (0<=(j:Int))&&Nat.blt (j:Int).toNat len)=true by simp;exact hj]
  simp only[Int.toNat_natCast]
 unfold AIh at h
 split at h
 ·rename_i k i
  refine⟨rfl,?_⟩
  split at h
  ·rename_i len elem ad hu
   split at h
   ·rename_i n hy hs hn
    obtain⟨v,h1,h2⟩:=hidx hs (harr hu hn) h
    exact⟨v,.inl h1,h2⟩
   ·rename_i n hn _
    split at h
    ·obtain⟨j,p,h1,h2,h3⟩:=h
     obtain⟨h4,h5⟩:=fA _ _ _ _ _ h2
     subst h1
     rw[h5,Nat.zero_add]at h3
     exact⟨_,.inl (harr hu hn j h4),h3⟩
    ·obtain⟨v,h1,h2⟩:=ED h;exact⟨v,.inl h1,h2⟩
   ·exact h.elim
  ·rename_i elem ad len cap hu
   split at h
   ·rename_i n hy hs hn
    obtain⟨v,h1,h2⟩:=hidx hs (hsl hu hn) h
    exact⟨v,.inl h1,h2⟩
   ·obtain⟨v,h1,h2⟩:=ED h;exact⟨v,.inl h1,h2⟩
  ·rename_i elem m rs hu
   split at h
   ·rename_i n z hm hn hz
    split at h
    ·rename_i hzl
     have hzl:=Nat.eq_of_beq_eq_true hzl
     obtain⟨j,cs,h1,h2,h3,h4⟩:=h
     obtain⟨l,g1,g2,g3⟩:=UC _ _ _ _ h4
     simp only[List.reverse_nil,List.nil_append]at g3
     have hl:l=cs:=by
      apply List.ext_getElem?
      intro i
      rcases Nat.lt_or_ge i z.cells.toList.length with hi|hi
      ·have:=g2 i hi;rw[Nat.zero_add]at this;exact this.symm
      ·rw[List.getElem?_eq_none (by omega),List.getElem?_eq_none (by omega)]
     subst hl
     subst h1
     refine⟨_,.inr ⟨PY,.inl ⟨m,rs,k,_,rfl,rfl,hm,?_⟩⟩,g3⟩
     unfold SS
     rw[hu]
     simp only[hn,Int.toNat_natCast,h2]
     rw[show decide (0<=(j:Int))=true by simp]
     simp only
     rw[show Nat.beq l.length n=true by rw[h3];simp]
    ·exact h.elim
   ·exact h.elim
  ·rename_i elem m ad len cap hu
   split at h
   ·rename_i n hm hs hn
    obtain⟨v,h1,h2⟩:=hidx hs (hsl (cap:=cap) hu hn) h
    exact⟨v,.inr ⟨PY,.inr ⟨m,ad,len,cap,rfl,⟨k,i,rfl⟩,hm,h1⟩⟩,h2⟩
   ·exact h.elim
  ·exact h.elim
 ·exact h.elim
theorem AIe{t:TypeId}{x ix:Value}{H:Heap}{K:VK}(hp:plain ix=true)(h:wAt P (real P) t x ix H K):∃v,PE P t x ix=some v/\K v H:=by
 unfold wAt at h
 split at h
 ·rename_i s k i hu
  obtain⟨j,b,h1,h2,h3⟩:=h
  subst h1
  refine⟨_,?_,h3⟩
  simp only[PE,hu]
  rw[show decide (0<=(j:Int))=true by simp]
  simp only[Int.toNat_natCast,h2]
 ·exact ED h
theorem AF8{sy:Sy}{s:TypeId}{x:Value}{f:Nat}{H:Heap}{K:VK}(h:AIg P sy s x f H K):
  ∃v,(G6 P s x f=some v∨(G6 P s x f=none/\∃m cs,x = .iface m (.agg ⟨cs⟩)/\Nat.beq m mkP=true/\SQ P s cs f=some v))/\K v H:=by
 unfold AIg at h
 split at h
 ·rename_i ad
  split at h
  ·split at h
   ·rename_i fields hs hu
    split at h
    ·rename_i fd hf
     split at h
     ·rename_i n hn
      obtain⟨b,o,sp⟩:=ad
      simp only at hs;subst hs
      refine⟨_,.inl ?_,h⟩
      simp only[G6,hu,hf,hn,Addr.add_none]
     ·exact h.elim
    ·exact h.elim
   ·exact h.elim
  ·obtain⟨v,h1,h2⟩:=ED h;exact⟨v,.inl h1,h2⟩
 ·rename_i m cs
  split at h
  ·rename_i hm
   obtain⟨v,h1,h2⟩:=ED h
   refine⟨v,.inr ⟨?_,m,cs,rfl,hm,h1⟩,h2⟩
   unfold G6
   split
   ·split
    ·rename_i e;cases e
    ·rfl
   ·rfl
  ·exact h.elim
 ·exact h.elim
theorem AGV{v:Option Value}{b:Option Int}(h:bdO v=some b):v=b.map (.int .i64 ·)/\∀x,v=some x->plain x=true:=by
 unfold bdO at h
 split at h
 ·simp only[Option.some.injEq]at h;subst h;exact⟨rfl,fun x e=>by cases e⟩
 ·simp only[Option.some.injEq]at h;subst h;exact⟨rfl,fun x e=>by simp only[Option.some.injEq]at e;subst e;rfl⟩
 ·cases h
theorem UV{ρ:Operand->Value}{x:Option Operand}{b:Option Int}(h:bdO (x.map ρ)=some b):IB ρ x=some (b.map (.int .i64 ·)):=by
 obtain⟨h1,h2⟩:=AGV h
 cases x with
 |none=>simp only[Option.map_none]at h1;simp only[IB];rw[←h1]
 |some x=>
  simp only[Option.map_some]at h1 h2
  simp only[IB,h2 _ rfl];rw[←h1]
theorem KJ{o:Oper}{ρ:Operand->Value}{H:Heap}{K:VK}(h:opt (aOp P o ρ H) fun(v,h)=>K v h):∃v H',aOp P o ρ H=some (v,H')/\K v H':=by
 obtain⟨⟨v,h'⟩,h1,h2⟩:=ED h;exact⟨_,_,h1,h2⟩
theorem KC{o:Oper}{ρ:Operand->Value}{H:Heap}{r:Value×Heap}(h:JI o.op P o.type ρ H=some r):aOp P o ρ H=some r:=by unfold aOp;rw[h]
theorem WN{o:Oper}{ρ:Operand->Value}{H:Heap}{r:Value×Heap}(h:JI o.op P o.type ρ H=none)(h2:NU o.op P ρ H=some r):aOp P o ρ H=some r:=by unfold aOp;rw[h];exact h2
theorem WR{H:Heap}{t:TypeId}{m:Nat}{x:Value}{lo hi mx:Option Value}:IZ P H t (.iface m x) lo hi mx=none:=by
 unfold IZ
 split<;>first|rfl|(split<;>first|rfl|(rename_i e;cases e)|(rename_i e _;cases e))
theorem ABz{dst:Option Tmp}{T:TypeId}{pos:String}{after:Array Edge}{guard:Option (Nat×Bool)}{t:TypeId}{x:Operand}{lo hi mx:Option Operand}{ρ:Operand->Value}{H:Heap}{K:VK}
  (h:wX P (real P) ⟨dst,.slice t x lo hi mx,T,pos,after,guard⟩ t (some x) lo hi mx ρ H K):∃v H',aOp P ⟨dst,.slice t x lo hi mx,T,pos,after,guard⟩ ρ H=some (v,H')/\K v H':=by
 unfold wX at h
 simp only at h
 split at h
 ·rename_i s e
  simp only[Option.map_some,Option.some.injEq]at e
  split at h
  ·rename_i l h' hu hl hh
   obtain⟨a,b,m,h1,h2⟩:=h
   refine⟨_,H,KC ?_,h2⟩
   show(match IB ρ lo,IB ρ hi,IB ρ none with|some lo,some hi,some mx=>IZ P H t (ρ x) lo hi mx|_,_,_=>none)=_
   rw[UV hl,UV hh]
   simp only[IB,e,IZ,hu,h1]
  ·exact h.elim
 ·rename_i m rs e
  simp only[Option.map_some,Option.some.injEq]at e
  split at h
  ·rename_i elem hm hu
   split at h
   ·rename_i n l h' hn hl hh
    obtain⟨a,b,c,h1,h2,h3⟩:=h
    refine⟨_,H,WN ?_ ?_,h3⟩
    ·show(match IB ρ lo,IB ρ hi,IB ρ none with|some lo,some hi,some mx=>IZ P H t (ρ x) lo hi mx|_,_,_=>none)=_
     rw[UV hl,UV hh]
     simp only[IB,e,WR]
    ·show(match IB ρ lo,IB ρ hi,IB ρ none,ρ x with|some lo,some hi,some mx,.iface m (.agg ⟨A7⟩)=>(match Nat.beq m mkD with|true=>(SV P t A7 lo hi mx).map (·,H)|false=>none)|_,_,_,_=>none)=_
     rw[UV hl,UV hh]
     simp only[IB,e,hm,SV,hu,hn,h1,h2,Option.map_some]
   ·exact h.elim
  ·exact h.elim
 ·exact KJ h
theorem AAY:∀ {l:List Value} {zs:List Int},YR l=some zs->LZ l=some (zs.map fun n=>UInt8.ofNat n.toNat):=by
 have key:∀(l:List Value) (zs:List Int),YR l=some zs->pF l=true/\l.map AB2=zs.map fun n=>UInt8.ofNat n.toNat:=by
  intro l
  induction l with
  |nil=>intro zs h;simp only[YR,Option.some.injEq]at h;subst h;exact⟨rfl,rfl⟩
  |cons v l ih=>
   intro zs h
   unfold YR at h
   split at h
   ·rename_i e;cases e
   ·rename_i z r e
    simp only[List.cons.injEq]at e
    obtain⟨e1,e2⟩:=e
    subst e1;subst e2
    split at h
    ·rename_i l2 hl
     simp only[Option.some.injEq]at h;subst h
     obtain⟨g1,g2⟩:=ih _ hl
     exact⟨by simp[pF,g1],by simp[AB2,g2]⟩
    ·cases h
   ·cases h
 intro l zs h
 obtain⟨g1,g2⟩:=key l zs h
 simp only[LZ,g1,g2]
theorem SF{H:Heap}{src dst e:TypeId}{m:Nat}{x:Value}(hs:P.underlying src=some (.slice e))(hd:P.underlying dst=some .string)(hm:KI m=true):FP P H src dst (.iface m x)=none:=by
 unfold FP
 rw[hs,hd]
 simp only[plain,hm]
theorem AD5{sy:Sy}{dst:Option Tmp}{T:TypeId}{pos:String}{after:Array Edge}{guard:Option (Nat×Bool)}{src d:TypeId}{x:Operand}{ρ:Operand->Value}{H:Heap}{K:VK}
  (h:AD4 P (real P) sy ⟨dst,.convert src d x,T,pos,after,guard⟩ src d x ρ H K):∃v H',aOp P ⟨dst,.convert src d x,T,pos,after,guard⟩ ρ H=some (v,H')/\K v H':=by
 have hK:∀ {r:Value×Heap},FP P H src d (ρ x)=some r->aOp P ⟨dst,.convert src d x,T,pos,after,guard⟩ ρ H=some r:=fun h=>KC h
 have hD:∀ {v:Value},FP P H src d (ρ x)=none->R4 P H src d (ρ x)=some v->aOp P ⟨dst,.convert src d x,T,pos,after,guard⟩ ρ H=some (v,H):=fun h h2=>WN h (by
  show(R4 P H src d (ρ x)).map (·,H)=_
  rw[h2];rfl)
 unfold AD4 at h
 simp only at h
 split at h
 ·rename_i k a e
  split at h
  ·obtain⟨z,h1,h2⟩:=h;exact⟨_,H,hK (by rw[e];exact h1 H),h2⟩
  ·exact KJ h
 ·rename_i s e
  split at h
  ·rename_i ds el hs hd
   split at h
   ·rename_i hu
    refine⟨_,_,hK ?_,h⟩
    rw[e];unfold FP
    rw[hs,hd]
    simp only[hu];rfl
   ·exact h.elim
  ·exact KJ h
 ·rename_i a n c e
  split at h
  ·rename_i el hs hd
   have fin:∀ {l:List Value} {bs:List UInt8},dS (P.underlying el)=true->F6 H a n=some l->LZ l=some bs->K (.string (bytesOf bs)) H->∃v H',aOp P ⟨dst,.convert src d x,T,pos,after,guard⟩ ρ H=some (v,H')/\K v H':=by
    intro l bs hu hc hb hk
    refine⟨_,_,hK ?_,hk⟩
    rw[e];unfold FP
    rw[hs,hd]
    simp only[hu,hc,hb]
   split at h
   ·rename_i hu _
    split at h
    ·rename_i vs e2 sz lo ow hsp hg
     obtain⟨bs,h1,h2,h3⟩:=h
     refine fin hu ?_ h2 h3
     unfold F6
     split
     ·simp
     ·simp only[hsp,hg,OL h1,NJ]
    ·exact h.elim
   ·exact h.elim
   ·rename_i hu _
    split at h
    ·rename_i l hl
     split at h
     ·rename_i zs hz
      exact fin hu hl (AAY hz) h
     ·exact h.elim
    ·exact h.elim
   ·exact h.elim
  ·exact KJ h
 ·rename_i m a n c e
  split at h
  ·rename_i hm ho hsp
   split at h
   ·rename_i el hs hd
    split at h
    ·rename_i hu
     obtain⟨bs,h1,h2⟩:=h
     have hmm:=Nat.eq_of_beq_eq_true hm
     refine⟨_,H,hD (by rw[e];exact SF hs hd (by rw[hmm];rfl)) ?_,h2⟩
     rw[e];unfold R4
     rw[hs,hd]
     simp only[hu,D8,hm]
     rcases h1 with⟨e1,e2⟩ | ⟨hn,vs,e2,z,lo,ow,hg,hle,hb⟩
     ·subst e1;subst e2
      have:mkd (.iface m (.slice (some a) 0 c))=true:=by rw[hmm];rfl
      simp only[this];rfl
     ·cases n with
      |zero=>exact absurd rfl hn
      |succ n=>
       have hc:F6 H a ((n+1)*1)=some (vs.take (n+1)):=by
        rw[Nat.mul_one]
        simp only[F6,hsp,hg,ho,OL (show 0+(n+1)<=vs.length by omega),NJ,List.drop_zero]
       have hmk:mkd (.iface m (.slice (some a) (n+1) c))=true:=by rw[hmm];rfl
       simp only[hc,hmk,hb]
       rw[show Nat.beq (vs.take (n+1)).length (n+1)=true by rw[List.length_take,Nat.min_eq_left hle];simp]
    ·exact h.elim
   ·exact h.elim
  ·exact h.elim
 ·rename_i m rs e
  split at h
  ·rename_i hm
   split at h
   ·rename_i el hs hd
    split at h
    ·rename_i hu
     obtain⟨l,bs,h1,h2,h3⟩:=h
     have hmm:=Nat.eq_of_beq_eq_true hm
     refine⟨_,H,hD (by rw[e];exact SF hs hd (by rw[hmm];rfl)) ?_,h3⟩
     rw[e];unfold R4
     rw[hs,hd]
     have hmk:mkd (.iface m (.agg ⟨rs⟩))=true:=by rw[hmm];rfl
     have hl:l.length=rs.length:=by
      have key:∀(rs:List Value) (l:List Value),BU 1 rs=some l->l.length=rs.length:=by
       intro rs
       induction rs with
       |nil=>intro l h;simp only[BU,Option.some.injEq]at h;subst h;rfl
       |cons r rs ih=>
        intro l h
        cases r<;>simp only[BU]at h<;>try(cases h;done)
        rename_i c
        obtain⟨cs⟩:=c
        simp only at h
        split at h<;>(try(cases h;done))
        rename_i l2 hb hl2
        simp only[Option.some.injEq]at h;subst h
        rw[List.length_append,ih _ hl2,Nat.eq_of_beq_eq_true hb,List.length_cons];omega
      exact key _ _ h1
     simp only[hu,D8,hm,h1,hmk,h2,hl]
     simp
    ·exact h.elim
   ·exact h.elim
  ·exact h.elim
 ·exact KJ h
def ABE(P:Program)(H:Heap)(argTypes:Array TypeId)(s x v:Value)(H':Heap):Prop:=
 IK P H argTypes [s,x]=some (v,H')∨(IK P H argTypes [s,x]=none/\lS P H argTypes [s,x]=some (v,H'))
theorem LU{H:Heap}{argTypes:Array TypeId}{m:Nat}{y x:Value}:IK P H argTypes [.iface m y,x]=none:=by
 unfold IK
 split
 ·rename_i s x' _ e
  simp only[List.cons.injEq,and_true]at e
  obtain⟨e1,e2⟩:=e
  subst e1;subst e2
  split
  ·split
   ·split
    ·split
     ·rfl
     ·rfl
    ·rfl
   ·rfl
  ·rfl
 ·rfl
theorem KD{H:Heap}{sy:Sy}{argTypes:Array TypeId}{sType xType elem:TypeId}{dx:TypeDesc}{i:TypeInfo}{z s x:Value}(hat:argTypes.toList=[sType,xType])(hus:P.underlying sType=some (.slice elem))(hux:P.underlying xType=some dx)
  (hni:TD dx=true) (hi:P.info? elem=some i) (hz:i.zero=some z) (hc1:Nat.beq z.cells.toList.length i.size=true) (hc2:plain z=true) {n:Nat} {xs:List Value} (hx:D8 H i.size x=some (n,xs)) (hl:xs.length=n*i.size) (hc:xs.all isCell=true)
  {Q:Nat->List Value->Heap->Prop} (h:AD1 (real P) sy s H elem i.size Q):
  ∃len vs H1,Q len vs H1/\(n=0->ABE P H argTypes s x s H)/\(n≠0->(2*(len+n)+192)*i.bytes<=JU->len+n<=1099511627776->
   ABE P H argTypes s x (.slice (some ⟨H.next,0,none⟩) (len+n) (len+n)) (H1.push (.cells (vs++xs) elem i.size true true))):=by
 have hlb:Nat.beq xs.length (n*i.size)=true:=by rw[hl];simp
 -- an append to a row that lies, and is known whole
 have lies:∀(a:Addr) (len cap:Nat) (vs:List Value) (lo ow:Bool) (e2:TypeId) (sz:Nat),a.off=0->a.spot=none->H.get a.block=some (.cells vs e2 sz lo ow)->len<=cap->vs.length=len*i.size->cap=len->(lo=true->ow=true/\sz=i.size/\e2=elem)->
   (n=0->IK P H argTypes [.slice (some a) len cap,x]=some (.slice (some a) len cap,H))/\(n≠0->(2*(len+n)+192)*i.bytes<=JU->len+n<=1099511627776->
    IK P H argTypes [.slice (some a) len cap,x]=some (.slice (some ⟨H.next,0,none⟩) (len+n) (len+n),(match lo with|true=>H.put a.block none|false=>H).push (.cells (vs++xs) elem i.size true true))):=by
  intro a len cap vs lo ow e2 sz ho hsp hg hle hvl hcap hlo
  subst hcap
  constructor
  ·intro hn
   subst hn
   simp only[IK,hat,hus,hux,hni,hi,hx,hz]
   rw[hc1,hc2,hlb,hc]
   simp only[Bool.and_self,Nat.add_zero]
   rw[show Nat.ble cap cap=true from Nat.ble_eq_true_of_le (Nat.le_refl _)]
  ·intro hn hb1 hb2
   simp only[IK,hat,hus,hux,hni,hi,hx,hz]
   rw[hc1,hc2,hlb,hc]
   simp only[Bool.and_self]
   have e2':Nat.ble (cap+n) cap=false:=by
    cases hb:Nat.ble (cap+n) cap
    ·rfl
    ·have:=Nat.le_of_ble_eq_true hb;omega
   simp only[e2']
   rw[show(Nat.ble ((2*(cap+n)+192)*i.bytes) JU&&Nat.ble (cap+n) 1099511627776&&Nat.ble cap cap)=true by
    rw[Nat.ble_eq_true_of_le hb1,Nat.ble_eq_true_of_le hb2,Nat.ble_eq_true_of_le (Nat.le_refl _)];rfl]
   have hcells:F6 H a (cap*i.size)=some vs:=by
    have hvt:vs.take (cap*i.size)=vs:=List.take_of_length_le (by omega)
    cases hm:cap*i.size with
    |zero=>
     rw[hm]at hvl
     have:vs=[]:=List.eq_nil_of_length_eq_zero hvl
     subst this;rfl
    |succ m=>
     rw[←hm]
     unfold F6
     split
     ·rename_i e;omega
     ·simp only[hsp,hg,NJ,ho,OL (show 0+cap*i.size<=vs.length by omega),List.drop_zero,hvt]
   simp only[hsp,hg,hcells]
   cases lo with
   |false=>rfl
   |true=>
    obtain⟨q1,q2,q3⟩:=hlo rfl
    subst q1;subst q2;subst q3
    simp only
    rw[show(true&&Nat.beq i.size i.size&&Nat.beq (a.off+cap*i.size) vs.length&&Nat.beq e2 e2)=true by rw[ho,Nat.zero_add,hvl];simp]
    rfl
 unfold AD1 at h
 split at h
 ·rename_i len cap
  split at h
  ·refine⟨0,[],H,h,fun hn=>?_,fun hn hb1 hb2=>?_⟩
   ·subst hn
    left
    simp only[IK,hat,hus,hux,hni,hi,hx,hz]
    rw[hc1,hc2,hlb,hc]
    rfl
   ·left
    rw[Nat.zero_add]at hb1 hb2 ⊢
    simp only[IK,hat,hus,hux,hni,hi,hx,hz]
    rw[hc1,hc2,hlb,hc]
    simp only[Bool.and_self]
    cases n with
    |zero=>exact absurd rfl hn
    |succ n=>
     show(match (Nat.ble ((2*(n+1)+192)*i.bytes) JU&&Nat.ble (n+1) 1099511627776)with|true=>some (NE _ elem i.size xs (n+1))|false=>none)=_
     rw[show(Nat.ble ((2*(n+1)+192)*i.bytes) JU&&Nat.ble (n+1) 1099511627776)=true by rw[Nat.ble_eq_true_of_le hb1,Nat.ble_eq_true_of_le hb2];rfl]
     rfl
  ·exact h.elim
 ·rename_i a len cap
  split at h
  ·rename_i ho hsp
   split at h
   ·obtain⟨vs,h1,h2⟩:=h
    rcases h1 with⟨e,_⟩ | ⟨h0,hg,hcap,hs,hvl⟩
    ·cases e
    ·obtain⟨k1,k2⟩:=lies a len cap vs true true elem i.size ho hsp hg (by omega) hvl hcap (fun _=>⟨rfl,rfl,rfl⟩)
     exact⟨len,vs,H.put a.block none,h2,fun hn => .inl (k1 hn),fun hn b1 b2 => .inl (k2 hn b1 b2)⟩
   ·split at h
    ·rename_i vs0 e2 sz lo ow hg
     split at h
     ·obtain⟨vs,h1,h2⟩:=h
      rcases h1 with⟨e,_⟩ | ⟨h0,hg2,hcap,hs,hvl⟩
      ·cases e
      ·simp only[Option.some.injEq,AJ.cells.injEq]at hg2
       obtain⟨q1,q2,q3,q4,q5⟩:=hg2
       subst q1;subst q2;subst q3;subst q5
       obtain⟨k1,k2⟩:=lies a len cap vs0 true true e2 i.size ho hsp hg (by omega) hvl hcap (fun _=>⟨rfl,rfl,rfl⟩)
       exact⟨len,vs0,H.put a.block none,h2,fun hn => .inl (k1 hn),fun hn b1 b2 => .inl (k2 hn b1 b2)⟩
     ·split at h
      ·rename_i hc3
       simp only[Bool.and_eq_true]at hc3
       have e1:=Nat.eq_of_beq_eq_true hc3.1
       have e3:=Nat.eq_of_beq_eq_true hc3.2
       obtain⟨k1,k2⟩:=lies a len cap vs0 false ow e2 sz ho hsp hg (by omega) e3.symm e1.symm (fun e=>by cases e)
       exact⟨len,vs0,H,h,fun hn => .inl (k1 hn),fun hn b1 b2 => .inl (k2 hn b1 b2)⟩
      ·exact h.elim
    ·exact h.elim
  ·exact h.elim
 ·rename_i m a len cap
  split at h
  ·rename_i hm ho hsp
   obtain⟨vs,h1,h2⟩:=h
   rcases h1 with⟨_,e1,e2⟩ | ⟨h0,hg,hcap,hs,hvl⟩
   ·subst e1;subst e2
    refine⟨0,[],_,h2,fun hn => .inr ⟨LU,?_⟩,fun hn hb1 hb2 => .inr ⟨LU,?_⟩⟩
    ·subst hn
     simp only[lS,hat,hm,hus,hux,hni,hi,hx,hz]
     rw[hc1,hc2,hlb,hc]
     rfl
    ·rw[Nat.zero_add]at hb1 hb2 ⊢
     simp only[lS,hat,hm,hus,hux,hni,hi,hx,hz]
     rw[hc1,hc2,hlb,hc]
     simp only[Bool.and_self]
     cases n with
     |zero=>exact absurd rfl hn
     |succ n=>
      show(match (Nat.ble ((2*(n+1)+192)*i.bytes) JU&&Nat.ble (n+1) 1099511627776)with|true=>some (NE _ elem i.size xs (n+1))|false=>none)=_
      rw[show(Nat.ble ((2*(n+1)+192)*i.bytes) JU&&Nat.ble (n+1) 1099511627776)=true by rw[Nat.ble_eq_true_of_le hb1,Nat.ble_eq_true_of_le hb2];rfl]
      rfl
   ·obtain⟨k1,k2⟩:=lies a len cap vs true true elem i.size ho hsp hg (by omega) hvl hcap (fun _=>⟨rfl,rfl,rfl⟩)
    cases len with
    |zero=>exact absurd rfl h0
    |succ len=>
     refine⟨len+1,vs,_,h2,fun hn => .inr ⟨LU,?_⟩,fun hn b1 b2 => .inr ⟨LU,?_⟩⟩
     ·subst hn
      simp only[lS,hat,hm,hus,hux,hni,hi,hx,hz]
      rw[hc1,hc2,hlb,hc,show Nat.ble (len+1) cap=true from Nat.ble_eq_true_of_le (by omega)]
      rfl
     ·have:=k2 hn b1 b2
      simp only[lS,hat,hm,hus,hux,hni,hi,hx,hz]
      rw[hc1,hc2,hlb,hc,show Nat.ble (len+1) cap=true from Nat.ble_eq_true_of_le (by omega)]
      cases n with
      |zero=>exact absurd rfl hn
      |succ n=>exact this
  ·exact h.elim
 ·exact h.elim
theorem fQ{H:Heap}{size:Nat}{x:Value}{xs:List Value}(h:D8 H size x=some (0,xs)):xs=[]:=by
 unfold D8 at h
 split at h
 ·split at h
  ·rename_i l hl
   simp only[Option.some.injEq,Prod.mk.injEq]at h
   obtain⟨e1,e2⟩:=h
   subst e1;subst e2
   rw[Nat.zero_mul]at hl
   simpa [F6]using hl.symm
  ·cases h
 ·split at h
  ·simp only[Option.some.injEq,Prod.mk.injEq]at h;exact h.2.symm
  ·cases h
 ·simp only[Option.some.injEq,Prod.mk.injEq]at h
  obtain⟨e1,e2⟩:=h
  rw[List.eq_nil_of_length_eq_zero e1]at e2
  exact e2.symm
 ·split at h
  ·split at h
   ·rename_i l hl
    simp only[Option.some.injEq,Prod.mk.injEq]at h
    obtain⟨e1,e2⟩:=h
    rw[List.eq_nil_of_length_eq_zero e1]at hl
    simp only[BU,Option.some.injEq]at hl
    rw[←e2,←hl]
   ·cases h
  ·cases h
 ·split at h
  ·split at h
   ·simp only[Option.some.injEq,Prod.mk.injEq]at h;exact h.2.symm
   ·split at h
    ·simp only[Option.some.injEq,Prod.mk.injEq]at h;omega
    ·cases h
  ·cases h
 ·cases h
theorem uR(s:ByteArray):(VN s).length=s.data.toList.length:=by simp[VN]
theorem pK(s:ByteArray):(VN s).all isCell=true:=by
 unfold VN;rw[List.all_map,List.all_eq_true];intro b _;rfl
theorem KH{size:Nat}:∀ {rs xs:List Value},BU size rs=some xs->xs.length=rs.length*size
 | [],xs,h=>by simp only[BU,Option.some.injEq]at h;subst h;simp
 |r::rs,xs,h=>by
  cases r<;>simp only[BU]at h<;>try(cases h;done)
  rename_i c
  obtain⟨cs⟩:=c
  simp only at h
  split at h<;>(try(cases h;done))
  rename_i l2 hb hl2
  simp only[Option.some.injEq]at h;subst h
  rw[List.length_append,KH hl2,Nat.eq_of_beq_eq_true hb,List.length_cons,Nat.succ_mul];omega
theorem AF6{sy:Sy}{argTypes:Array TypeId}{s x:Value}{H:Heap}{K:VK}(h:AId P (real P) sy argTypes s x H K):∃v H',ABE P H argTypes s x v H'/\K v H':=by
 unfold AId at h
 split at h
 case h_2=>exact h.elim
 rename_i sType xType hat
 split at h
 case h_2=>exact h.elim
 rename_i elem dx hus hux
 split at h
 case h_2=>exact h.elim
 rename_i i hni hi
 split at h
 case h_2=>exact h.elim
 rename_i z hz
 split at h
 case h_2=>exact h.elim
 rename_i hc
 simp only[Bool.and_eq_true]at hc
 simp only at h
 split at h
 ·rename_i t
  by_cases h1:Nat.beq i.size 1=true
  ·have e1:=Nat.eq_of_beq_eq_true h1
   have hx:D8 H i.size (.string t)=some (t.data.toList.length,VN t):=rfl
   obtain⟨len,vs,H1,hq,k0,k1⟩:=KD (sy:=sy) hat hus hux hni hi hz hc.1 hc.2 hx (by rw[uR,e1,Nat.mul_one]) (pK t) h
   rw[h1]at hq
   simp only at hq
   obtain⟨g1,g2⟩:=hq
   by_cases hn:t.data.toList=[]
   ·exact⟨_,_,k0 (by rw[hn];rfl),g1 hn⟩
   ·obtain⟨b1,b2,hk⟩:=g2 hn
    exact⟨_,_,k1 (fun e=>hn (List.eq_nil_of_length_eq_zero e)) b1 b2,hk⟩
  ·have h1:Nat.beq i.size 1=false:=by simpa only[Bool.not_eq_true]using h1
   have hx:D8 H i.size (.slice none 0 0)=some (0,[]):=rfl
   obtain⟨len,vs,H1,hq,_,_⟩:=KD (sy:=sy) hat hus hux hni hi hz hc.1 hc.2 hx (by simp) rfl h
   rw[h1]at hq;exact hq.elim
 ·rename_i m rs
  by_cases hm:Nat.beq m mkD=true
  ·by_cases hf:∃xs,BU i.size rs=some xs/\xs.all isCell=true
   ·obtain⟨xs,hf,hcell⟩:=hf
    have hx:D8 H i.size (.iface m (.agg ⟨rs⟩))=some (rs.length,xs):=by simp only[D8,hm,hf]
    obtain⟨len,vs,H1,hq,k0,k1⟩:=KD (sy:=sy) hat hus hux hni hi hz hc.1 hc.2 hx (KH hf) hcell h
    rw[hm]at hq
    simp only at hq
    obtain⟨ys,q1,q2,g1,g2⟩:=hq
    rw[hf]at q1;simp only[Option.some.injEq]at q1;subst q1
    by_cases hn:rs=[]
    ·exact⟨_,_,k0 (by rw[hn];rfl),g1 hn⟩
    ·obtain⟨b1,b2,hk⟩:=g2 hn
     exact⟨_,_,k1 (fun e=>hn (List.eq_nil_of_length_eq_zero e)) b1 b2,hk⟩
   ·have hx:D8 H i.size (.slice none 0 0)=some (0,[]):=rfl
    obtain⟨len,vs,H1,hq,_,_⟩:=KD (sy:=sy) hat hus hux hni hi hz hc.1 hc.2 hx (by simp) rfl h
    rw[hm]at hq
    obtain⟨ys,q1,q2,_⟩:=hq
    exact absurd ⟨ys,q1,q2⟩ hf
  ·have hm:Nat.beq m mkD=false:=by simpa only[Bool.not_eq_true]using hm
   have hx:D8 H i.size (.slice none 0 0)=some (0,[]):=rfl
   obtain⟨len,vs,H1,hq,_,_⟩:=KD (sy:=sy) hat hus hux hni hi hz hc.1 hc.2 hx (by simp) rfl h
   rw[hm]at hq;exact hq.elim
 ·rename_i y _ _
  by_cases hx:∃n xs,D8 H i.size x=some (n,xs)
  ·obtain⟨n,xs,hx⟩:=hx
   cases n with
   |zero=>
    by_cases hl:xs=[]
    ·subst hl
     obtain⟨len,vs,H1,hq,k0,k1⟩:=KD (sy:=sy) hat hus hux hni hi hz hc.1 hc.2 hx (by simp) rfl h
     rw[hx]at hq
     exact⟨_,_,k0 rfl,hq⟩
    ·exact absurd (fQ hx) hl
   |succ n=>
    by_cases hl:xs.length=(n+1)*i.size/\xs.all isCell=true
    ·obtain⟨len,vs,H1,hq,k0,k1⟩:=KD (sy:=sy) hat hus hux hni hi hz hc.1 hc.2 hx hl.1 hl.2 h
     rw[hx]at hq
     obtain⟨vs',len',g0,g1,g2,g3,g4,g5,g6,g7⟩:=hq
     subst g5;subst g6
     exact⟨_,_,k1 g0 g3 g4,g7⟩
    ·have hx0:D8 H i.size (.slice none 0 0)=some (0,[]):=rfl
     obtain⟨len,vs,H1,hq,_,_⟩:=KD (sy:=sy) hat hus hux hni hi hz hc.1 hc.2 hx0 (by simp) rfl h
     rw[hx]at hq
     obtain⟨vs',len',g0,g1,g2,_⟩:=hq
     exact absurd ⟨g1,g2⟩ hl
  ·have hx0:D8 H i.size (.slice none 0 0)=some (0,[]):=rfl
   obtain⟨len,vs,H1,hq,_,_⟩:=KD (sy:=sy) hat hus hux hni hi hz hc.1 hc.2 hx0 (by simp) rfl h
   cases hxe:D8 H i.size x with
   |none=>rw[hxe]at hq;exact hq.elim
   |some r=>exact absurd ⟨r.1,r.2,hxe⟩ hx
theorem AEo{t:TypeId}{e:TypeId}{m:Nat}{v:Value}(hu:P.underlying t=some (.slice e))(H:Heap):(match ZM P t (.iface m v)with|some v=>some (v,H)|none=>(OY P H t (.iface m v)).map (·,H))=(none:Option (Value×Heap)):=by
 have h1:ZM P t (.iface m v)=none:=by unfold ZM;rw[hu]
 have h2:OY P H t (.iface m v)=none:=by unfold OY;rw[hu]
 rw[h1,h2];rfl
theorem AIj{sy:Sy}{sp:Nat->Bool}{o:Oper}{ρ:Operand->Value}{H:Heap}{K:VK}(h:wOp P (real P) sy sp o ρ H K o.op):∃v H',aOp P o ρ H=some (v,H')/\K v H':=by
 obtain⟨dst,op,type,pos,after,guard⟩:=o
 simp only at h
 unfold wOp at h
 split at h
 ·rename_i op t x y yt
  obtain⟨v,h1,h2⟩:=AF7 h
  exact⟨v,H,KC (by simp only[JI,h1,Option.map_some]),h2⟩
 ·rename_i op t x
  split at h
  ·rename_i b e
   cases b
   ·exact⟨.bool true,H,KC (by simp only[JI,e,plain];rfl),h⟩
   ·exact⟨.bool false,H,KC (by simp only[JI,e,plain];rfl),h⟩
  ·rename_i k a op e
   obtain⟨z,h1,h2⟩:=h
   exact⟨_,H,KC (by simp only[JI,e,plain,h1,Option.map_some]),h2⟩
  ·exact KJ h
 ·rename_i t a
  split at h
  ·rename_i ad e
   obtain⟨v,h1,h2⟩:=AD8 h
   exact⟨v,H,KC (by simp only[JI,e,h1,Option.map_some]),h2⟩
  ·rename_i m cs e
   split at h
   ·rename_i hm
    obtain⟨v,h1,h2⟩:=ED h
    exact⟨v,H,WN (by simp only[JI,e]) (by simp only[NU,e,hm,h1,Option.map_some]),h2⟩
   ·exact h.elim
  ·exact h.elim
 ·rename_i t a x
  split at h
  ·rename_i ad e
   obtain⟨H',h1,h2⟩:=ABA h
   exact⟨undef,H',KC (by simp only[JI,e,h1,Option.map_some]),h2⟩
  ·exact h.elim
 ·rename_i c a b
  split at h
  ·rename_i t e
   cases t
   ·exact⟨_,H,KC (by simp only[JI,e]),h⟩
   ·exact⟨_,H,KC (by simp only[JI,e]),h⟩
  ·exact h.elim
 ·rename_i t x ix
  obtain⟨hp,v,h1,h2⟩:=AF9 h
  rcases h1 with h1|⟨h0,⟨m,A7,k,i,e1,e2,hm,h1⟩ | ⟨m,a,n,c,e1,⟨k,i,e2⟩,hm,h1⟩⟩
  ·exact⟨v,H,KC (by simp only[JI,hp,h1,Option.map_some]),h2⟩
  ·exact⟨v,H,WN (by simp only[JI,hp,h0,Option.map_none]) (by simp only[NU,e1,e2,hm,h1,Option.map_some]),h2⟩
  ·refine⟨v,H,WN (by simp only[JI,hp,h0,Option.map_none]) ?_,h2⟩
   rw[e2]at h1
   simp only[NU,e1,e2,hm,h1,Option.map_some]
 ·rename_i s x f
  obtain⟨v,h1,h2⟩:=AF8 h
  rcases h1 with h1|⟨h0,m,cs,e,hm,h1⟩
  ·exact⟨v,H,KC (by simp only[JI,h1,Option.map_some]),h2⟩
  ·exact⟨v,H,WN (by simp only[JI,h0,Option.map_none]) (by simp only[NU,e,hm,h1,Option.map_some]),h2⟩
 ·rename_i s x f
  obtain⟨v,h1,h2⟩:=ED h
  exact⟨v,H,KC (by simp only[JI,h1,Option.map_some]),h2⟩
 ·rename_i t x ix
  have hp:plain (ρ ix)=true:=by
   unfold wAt at h
   split at h
   ·rename_i e;rw[e];rfl
   ·obtain⟨v,h1,_⟩:=ED h
    unfold PE at h1
    split at h1
    ·rename_i e;rw[e];rfl
    ·cases h1
  obtain⟨v,h1,h2⟩:=AIe hp h
  exact⟨v,H,KC (by simp only[JI,hp,h1,Option.map_some]),h2⟩
 ·exact ABz h
 ·exact AD5 h
 ·rename_i b args ats
  split at h
  ·rename_i s x e
   obtain⟨v,H',h1,h2⟩:=AF6 h
   rcases h1 with h1|⟨h0,h1⟩
   ·exact⟨v,H',KC (by simp only[JI,KA,e,h1]),h2⟩
   ·exact⟨v,H',WN (by simp only[JI,KA,e,h0]) (by simp only[NU,e,h1]),h2⟩
  ·rename_i x e
   unfold AKc at h
   cases ht:ats[0]? with
   |none=>rw[ht]at h;exact KJ h
   |some t=>
    rw[ht]at h
    simp only[Option.bind_some]at h
    split at h
    ·rename_i s hu
     exact⟨_,H,KC (by simp only[JI,KA,ht,e,ZM,hu]),h⟩
    ·rename_i el a n c hu
     exact⟨_,H,KC (by simp only[JI,KA,ht,e,ZM,hu]),h⟩
    ·rename_i el m v hu
     have h0:∀T:TypeId,JI (.call {callee := .builtin .len,args:=args,argTypes:=ats}) P T ρ H=none:=by
      intro T
      simp only[JI,KA,ht,e]
      exact AEo hu H
     split at h
     ·rename_i rs hm
      exact⟨_,H,WN (h0 _) (by simp only[NU,ht,e,hu,dLen,hm,Option.map_some]),h⟩
     ·rename_i a n c _
      split at h
      ·rename_i hm
       exact⟨_,H,WN (h0 _) (by simp only[NU,ht,e,hu,dLen,hm,Option.map_some]),h⟩
      ·exact h.elim
     ·exact h.elim
    ·exact KJ h
  ·rename_i k a k' b e
   split at h
   ·rename_i hk
    simp only[decide_eq_true_eq]at hk;subst hk
    obtain⟨z,h1,h2⟩:=h
    exact⟨_,H,KC (by simp only[JI,e];exact h1 H),h2⟩
   ·exact h.elim
  ·rename_i k a k' b e
   split at h
   ·rename_i hk
    simp only[decide_eq_true_eq]at hk;subst hk
    obtain⟨z,h1,h2⟩:=h
    exact⟨_,H,KC (by simp only[JI,e];exact h1 H),h2⟩
   ·exact h.elim
  ·exact KJ h
 ·exact KJ h
end
end
end Go.Abs
