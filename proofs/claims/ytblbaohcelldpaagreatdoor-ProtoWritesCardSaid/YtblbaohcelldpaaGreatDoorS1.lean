/- . -/
import Derived.Test.YtblbaohcelldpaaGreatDoorWB
set_option linter.all false
namespace Go.Tlv
open Go Go.Abs
def EK(n:Nat):List UInt8:=if h:n=0 then[]else EK (n / 256)++[UInt8.ofNat (n % 256)]
termination_by n
decreasing_by omega
theorem DR:EK 0=[]:=by rw[EK];rfl
theorem CZ{n:Nat}(h:0<n):EK n=EK (n / 256)++[UInt8.ofNat (n % 256)]:=by rw[EK,dif_neg (by omega)]
def AFY(a:Nat)(l:List UInt8):Nat:=l.foldl (fun a b=>a*256+b.toNat) a
def PW(l:List UInt8):Nat:=AFY 0 l
theorem dY(l:List UInt8)(b:UInt8):PW (l++[b])=PW l*256+b.toNat:=by simp[PW,AFY,List.foldl_append]
theorem ACj(l:List UInt8):∀a,AFY a l<(a+1)*256 ^ l.length:=by
 induction l with
 |nil=>intro a;simp[AFY]
 |cons b l ih=>
  intro a
  have h:=ih (a*256+b.toNat)
  have hb:=b.toNat_lt
  show AFY (a*256+b.toNat) l<_
  rw[List.length_cons,Nat.pow_succ]
  calc AFY (a*256+b.toNat) l<(a*256+b.toNat+1)*256 ^ l.length:=h
   _<=((a+1)*256)*256 ^ l.length:=Nat.mul_le_mul_right _ (by omega)
   _=(a+1)*(256 ^ l.length*256):=by rw[Nat.mul_assoc,Nat.mul_comm 256]
theorem lI(l:List UInt8):PW l<256 ^ l.length:=by have:=ACj l 0;simpa [PW]using this
theorem AFX(n:Nat):PW (EK n)=n:=by
 induction n using Nat.strongRecOn with
 |_ n ih=>
  rcases Nat.eq_zero_or_pos n with h|h
  ·subst h;rw[DR];rfl
  ·rw[CZ h,dY,ih _ (by omega)]
   have:(UInt8.ofNat (n % 256)).toNat=n % 256:=by simp
   rw[this];omega
theorem kN{n:Nat}:EK n=[]↔n=0:=by
 constructor
 ·intro h
  rcases Nat.eq_zero_or_pos n with h0|h0
  ·exact h0
  ·rw[CZ h0]at h;simp at h
 ·intro h;subst h;exact DR
theorem AFj{n:Nat}{b:UInt8}(h:(EK n)[0]?=some b):b≠0:=by
 induction n using Nat.strongRecOn with
 |_ n ih=>
  rcases Nat.eq_zero_or_pos n with h0|h0
  ·subst h0;rw[DR]at h;simp at h
  ·rw[CZ h0]at h
   rcases Nat.eq_zero_or_pos (n / 256)with h1|h1
   ·rw[h1,DR]at h
    simp at h;subst h
    intro hc
    have:=congrArg UInt8.toNat hc
    simp at this;omega
   ·refine ih (n / 256) (by omega) ?_
    have hne:EK (n / 256)≠[]:=fun e=>by rw[kN]at e;omega
    rw[List.getElem?_append_left (List.length_pos_iff.2 hne)]at h;exact h
theorem kM {n k:Nat} (h:n<256 ^ k):(EK n).length<=k:=by
  induction k generalizing n with
  | zero => have:n=0:=by simpa using h
            subst this;rw[DR];simp
  |succ k ih=>
    rcases Nat.eq_zero_or_pos n with h0|h0
    · subst h0;rw[DR];simp
    · rw[CZ h0,List.length_append,List.length_singleton]
      have:=ih (n:=n / 256) (by rw[Nat.pow_succ]at h;exact Nat.div_lt_of_lt_mul (by rw[Nat.mul_comm];exact h))
      omega
theorem AFk:∀(l:List UInt8),l[0]?≠some 0->EK (PW l)=l:=by
 intro l
 induction hn:l.length using Nat.strongRecOn generalizing l with
 |_ n ih=>
  intro h0
  rcases List.eq_nil_or_concat l with e|⟨m,b,e⟩
  ·subst e;show EK 0=[];exact DR
  ·rw[List.concat_eq_append]at e
   subst e
   rw[dY]
   have hb:=b.toNat_lt
   by_cases hm:m=[]
   ·subst hm
    have hb0:b≠0:=by simpa using h0
    have:0<b.toNat:=by
     rcases Nat.eq_zero_or_pos b.toNat with h|h
     ·exact absurd (by apply UInt8.toNat_inj.1;simpa using h) hb0
     ·exact h
    show EK (0*256+b.toNat)=[b]
    rw[Nat.zero_mul,Nat.zero_add,CZ this,show b.toNat / 256=0 by omega,DR,show b.toNat % 256=b.toNat by omega]
    simp
   ·have h1:m[0]?≠some 0:=by rw[List.getElem?_append_left (List.length_pos_iff.2 hm)]at h0;exact h0
    have ihm:=ih m.length (by rw[←hn];simp) m rfl h1
    have hpos:0<PW m:=by
     rcases Nat.eq_zero_or_pos (PW m)with h|h
     ·rw[h,DR]at ihm;exact absurd ihm.symm hm
     ·exact h
    rw[CZ (by omega),show(PW m*256+b.toNat) / 256=PW m by omega,show(PW m*256+b.toNat) % 256=b.toNat by omega,ihm]
    simp
structure At where
 t:Nat
 v:ByteArray
def At.len(a:At):Nat:=a.v.data.toList.length
def AAs(a:At):Value := .agg ⟨[.int .u8 a.t,.string a.v]⟩
def two(n:Nat):List UInt8:=[UInt8.ofNat (n / 256 % 256),UInt8.ofNat (n % 256)]
def ZP(a:At):List UInt8:=UInt8.ofNat a.t::(two a.len++a.v.data.toList)
def JB:Nat->List At->Nat
 |_,[]=>0
 |last,a::l=>if a.t<=last∨a.len=0 then 3 else if 65535<a.len then 5 else JB a.t l
def EW(l:List At):List UInt8:=l.flatMap ZP
def encS(l:List At):List UInt8:=if JB 0 l=0 then EW l else[]
def FO(l:List UInt8):List Value:=l.map fun b => .int .u8 b.toNat
theorem jJ(l m:List UInt8):FO (l++m)=FO l++FO m:=by simp[FO]
theorem HV(l:List UInt8):(FO l).length=l.length:=by simp[FO]
theorem P7(n:Nat):∀l:List UInt8,BL n (FO l)=true
 | []=>rfl
 |b::l=>by
  show(true&&BL n (FO l))=true
  rw[P7 n l];rfl
theorem aK(l:List UInt8):LA (FO l)=some l:=by
 have h1:jE (FO l)=true:=by
  induction l with
  |nil=>rfl
  |cons b l ih=>exact ih
 have h2:(FO l).map wY=l:=by
  unfold FO
  rw[List.map_map]
  conv=>rhs;rw[←List.map_id l]
  congr 1
  funext b
  simp[wY]
 simp only[LA,h1,h2]
theorem jG:∀(l:List At) (last:Nat),(∀a∈l,a.t<256)->JB last l=0->(EW l).length<=(255-last)*65538
 | [],last,_,_=>by simp[EW]
 |a::l,last,ht,h=>by
  simp only[JB]at h
  split at h
  ·omega
  ·split at h
   ·omega
   ·rename_i h1 h2
    have:=jG l a.t (fun x hx=>ht x (List.mem_cons_of_mem _ hx)) h
    have h3:=ht a (List.mem_cons_self ..)
    have h4:(ZP a).length=3+a.len:=by simp[ZP,two,At.len];omega
    show((ZP a)++EW l).length<=_
    rw[List.length_append,h4]
    have h5:(255-last)=(255-a.t)+(a.t-last):=by omega
    rw[h5,Nat.add_mul]
    have h6:1*65538<=(a.t-last)*65538:=Nat.mul_le_mul_right _ (by omega)
    omega
end Go.Tlv
namespace Go.Tlv
open Go Go.Abs
def EN(a b:UInt8):Nat:=a.toNat*256+b.toNat
theorem eG(a b:UInt8):EN a b<65536:=by have:=a.toNat_lt;have:=b.toNat_lt;unfold EN;omega
theorem AAE(a b:UInt8):two (EN a b)=[a,b]:=by
 have ha:=a.toNat_lt
 have hb:=b.toNat_lt
 unfold two EN
 rw[show(a.toNat*256+b.toNat) / 256 % 256=a.toNat by omega,show(a.toNat*256+b.toNat) % 256=b.toNat by omega]
 simp
theorem bH{n:Nat}(h:n<=65535):EN (UInt8.ofNat (n / 256 % 256)) (UInt8.ofNat (n % 256))=n:=by
 unfold EN;simp;omega
def PX{α:Type}(a:α)(q:Nat×List α):Nat×List α:=if q.1=0 then(0,a::q.2)else(q.1,[])
def XR{α:Type}(l:List α)(q:Nat×List α):Nat×List α:=if q.1=0 then(0,l++q.2)else(q.1,[])
theorem eH{α:Type}(q:Nat×List α)(h:q.1≠0->q.2=[]):XR [] q=q:=by
 obtain⟨e,l⟩:=q
 unfold XR;dsimp only at h ⊢
 split
 ·rename_i h0;rw[h0];rfl
 ·rename_i h0;rw[h h0]
def EG(last:Nat)(s:List UInt8):Nat×List At:=
 match s with
 | []=>(0,[])
 | [_]=>(4,[])
 | [_,_]=>(4,[])
 |t::a::b::r=>
  if t.toNat<=last∨EN a b=0 then(3,[])
  else if r.length<EN a b then(4,[])
  else PX ⟨t.toNat,bytesOf (r.take (EN a b))⟩ (EG t.toNat (r.drop (EN a b)))
termination_by s.length
decreasing_by simp;omega
theorem QP(last:Nat):EG last []=(0,[]):=by rw[EG]
theorem KO{last:Nat}{s:List UInt8}(h0:s≠[])(h:s.length<3):EG last s=(4,[]):=by
 match s,h0,h with
 | [_],_,_=>rw[EG]
 | [_,_],_,_=>rw[EG]
theorem OV{last:Nat}{t a b:UInt8}{r:List UInt8}(h:t.toNat<=last∨EN a b=0):EG last (t::a::b::r)=(3,[]):=by rw[EG,if_pos h]
theorem YK{last:Nat}{t a b:UInt8}{r:List UInt8}(h:¬(t.toNat<=last∨EN a b=0))(h2:r.length<EN a b):EG last (t::a::b::r)=(4,[]):=by rw[EG,if_neg h,if_pos h2]
theorem OD{last:Nat}{t a b:UInt8}{r:List UInt8}(h:¬(t.toNat<=last∨EN a b=0))(h2:¬r.length<EN a b):EG last (t::a::b::r)=PX ⟨t.toNat,bytesOf (r.take (EN a b))⟩ (EG t.toNat (r.drop (EN a b))):=by rw[EG,if_neg h,if_neg h2]
theorem nU{α:Type}{a:α}{q:Nat×List α}(h:(PX a q).1≠0):(PX a q).2=[]:=by
 unfold PX at h ⊢
 split
 ·rename_i h0;rw[if_pos h0]at h;exact absurd rfl h
 ·rfl
theorem QO:∀(last:Nat) (s:List UInt8),(EG last s).1≠0->(EG last s).2=[]:=by
 intro last s h
 match s with
 | []=>rw[QP]at h;exact absurd rfl h
 | [_]=>rw[KO (by simp) (by simp)]
 | [_,_]=>rw[KO (by simp) (by simp)]
 |t::a::b::r=>
  by_cases h1:t.toNat<=last∨EN a b=0
  ·rw[OV h1]
  ·by_cases h2:r.length<EN a b
   ·rw[YK h1 h2]
   ·rw[OD h1 h2]at h ⊢;exact nU h
theorem Y6:∀(l:List At) (last:Nat),(∀a∈l,a.t<256)->JB last l=0->EG last (EW l)=(0,l)
 | [],last,_,_=>QP last
 |a::l,last,ht,h=>by
  simp only[JB]at h
  split at h
  ·omega
  ·rename_i h1
   split at h
   ·omega
   ·rename_i h2
    have hat:=ht a (List.mem_cons_self ..)
    have ih:=Y6 l a.t (fun x hx=>ht x (List.mem_cons_of_mem _ hx)) h
    have e1:(UInt8.ofNat a.t).toNat=a.t:=by simp;omega
    have e2:EN (UInt8.ofNat (a.len / 256 % 256)) (UInt8.ofNat (a.len % 256))=a.len:=bH (by omega)
    show EG last (UInt8.ofNat a.t::UInt8.ofNat (a.len / 256 % 256)::UInt8.ofNat (a.len % 256)::(a.v.data.toList++EW l))=_
    have hlen:a.v.data.toList.length=a.len:=rfl
    rw[OD (by rw[e1,e2];exact h1) (by rw[e2,List.length_append,hlen];omega),e1,e2]
    rw[show(a.v.data.toList++EW l).drop a.len=EW l by rw[←hlen,List.drop_left],show(a.v.data.toList++EW l).take a.len=a.v.data.toList by rw[←hlen,List.take_left],ih,bytes_eta]
    rfl
theorem xA{α:Type}{a:α}{q:Nat×List α}{l:List α}(h:PX a q=(0,l)):∃m,q=(0,m)/\l=a::m:=by
 obtain⟨e,m⟩:=q
 unfold PX at h
 split at h
 ·rename_i h0
  dsimp only at h0 h
  subst h0
  simp only[Prod.mk.injEq,true_and]at h
  exact⟨m,rfl,h.symm⟩
 ·rename_i h0
  simp only[Prod.mk.injEq]at h
  exact absurd h.1 h0
theorem eB:∀(n:Nat) (s:List UInt8) (last:Nat) (l:List At),s.length<=n->EG last s=(0,l)->JB last l=0/\EW l=s/\∀a∈l,a.t<256
 |n,[],last,l,_,h=>by
  rw[QP]at h
  simp only[Prod.mk.injEq,true_and]at h
  subst h;exact⟨rfl,rfl,fun a ha=>by cases ha⟩
 |n,[_],last,l,_,h=>by rw[KO (by simp) (by simp)]at h;simp at h
 |n,[_,_],last,l,_,h=>by rw[KO (by simp) (by simp)]at h;simp at h
 | 0,_::_::_::_,last,l,hn,h=>by simp at hn
 |n+1,t::a::b::r,last,l,hn,h=>by
  by_cases h1:t.toNat<=last∨EN a b=0
  ·rw[OV h1]at h;simp at h
  ·by_cases h2:r.length<EN a b
   ·rw[YK h1 h2]at h;simp at h
   ·rw[OD h1 h2]at h
    obtain⟨m,hq,rfl⟩:=xA h
    obtain⟨k1,k2,k3⟩:=eB n (r.drop (EN a b)) t.toNat m (by simp at hn ⊢;omega) hq
    have hlen:(⟨t.toNat,bytesOf (r.take (EN a b))⟩:At).len=EN a b:=by
     show(r.take (EN a b)).length=_
     rw[List.length_take];omega
    have hlt:=eG a b
    refine⟨?_,?_,?_⟩
    ·simp only[JB,hlen]
     rw[if_neg h1,if_neg (by omega)];exact k1
    ·show ZP _++EW m=_
     rw[k2]
     unfold ZP
     rw[hlen,AAE]
     show UInt8.ofNat t.toNat::([a,b]++r.take (EN a b))++r.drop (EN a b)=_
     simp
    ·intro x hx
     rcases List.mem_cons.1 hx with hx|hx
     ·subst hx;exact t.toNat_lt
     ·exact k3 x hx
def UZ(s:List UInt8)(top:Nat):Option Nat:=if 8<s.length∨s[0]?=some 0 then none else if top<PW s then none else some (PW s)
theorem YA{n top:Nat}(h:n<=top)(hn:n<18446744073709551616):UZ (EK n) top=some n:=by
 have h1:(EK n).length<=8:=kM (k:=8) (by omega)
 unfold UZ
 rw[if_neg,AFX,if_neg (by omega)]
 rintro (h2|h2)
 ·omega
 ·exact AFj h2 rfl
theorem C8{s:List UInt8}{n top:Nat}(h:UZ s top=some n):EK n=s/\n<=top/\n<18446744073709551616:=by
 unfold UZ at h
 split at h
 ·cases h
 ·rename_i h1
  split at h
  ·cases h
  ·simp only[Option.some.injEq]at h;subst h
   have h8:s.length<=8:=by
    rcases Nat.lt_or_ge 8 s.length with c|c
    ·exact absurd (.inl c) h1
    ·exact c
   refine⟨AFk s (fun c=>h1 (.inr c)),by omega,?_⟩
   have:=lI s
   have h2:256 ^ s.length<=256 ^ 8:=Nat.pow_le_pow_right (by omega) h8
   have h3:(256:Nat) ^ 8=18446744073709551616:=by decide
   omega
def itB(s:ByteArray):List UInt8:=two s.data.toList.length++s.data.toList
def mQ(l:List ByteArray):List UInt8:=l.flatMap itB
def HY(top k:Nat)(s:List UInt8):Nat×List ByteArray:=
 match s with
 | []=>(0,[])
 | [_]=>(4,[])
 |a::b::r=>
  if top<=k then(3,[])
  else if r.length<EN a b then(4,[])
  else PX (bytesOf (r.take (EN a b))) (HY top (k+1) (r.drop (EN a b)))
termination_by s.length
decreasing_by simp;omega
theorem WF(top k:Nat):HY top k []=(0,[]):=by rw[HY]
theorem UN{top k:Nat}{s:List UInt8}(h0:s≠[])(h:s.length<2):HY top k s=(4,[]):=by
 match s,h0,h with
 | [_],_,_=>rw[HY]
theorem X5{top k:Nat}{a b:UInt8}{r:List UInt8}(h:top<=k):HY top k (a::b::r)=(3,[]):=by rw[HY,if_pos h]
theorem aZ{top k:Nat}{a b:UInt8}{r:List UInt8}(h:¬top<=k)(h2:r.length<EN a b):HY top k (a::b::r)=(4,[]):=by rw[HY,if_neg h,if_pos h2]
theorem TF{top k:Nat}{a b:UInt8}{r:List UInt8}(h:¬top<=k)(h2:¬r.length<EN a b):HY top k (a::b::r)=PX (bytesOf (r.take (EN a b))) (HY top (k+1) (r.drop (EN a b))):=by rw[HY,if_neg h,if_neg h2]
theorem dM:∀(l:List ByteArray) (top k:Nat),(∀s∈l,s.data.toList.length<=65535)->k+l.length<=top->HY top k (mQ l)=(0,l)
 | [],top,k,_,_=>WF top k
 |s::l,top,k,ht,h=>by
  simp only[List.length_cons]at h
  have hs:=ht s (List.mem_cons_self ..)
  have ih:=dM l top (k+1) (fun x hx=>ht x (List.mem_cons_of_mem _ hx)) (by omega)
  have e2:=bH hs
  show HY top k (UInt8.ofNat (s.data.toList.length / 256 % 256)::UInt8.ofNat (s.data.toList.length % 256)::(s.data.toList++mQ l))=_
  rw[TF (by omega) (by rw[e2,List.length_append];omega),e2,List.drop_left,List.take_left,ih,bytes_eta]
  rfl
theorem bA:∀(n:Nat) (s:List UInt8) (top k:Nat) (l:List ByteArray),s.length<=n->HY top k s=(0,l)->mQ l=s/\(k+l.length<=top∨l=[])/\∀a∈l,a.data.toList.length<=65535
 |n,[],top,k,l,_,h=>by
  rw[WF]at h
  simp only[Prod.mk.injEq,true_and]at h
  subst h;exact⟨rfl,.inr rfl,fun a ha=>by cases ha⟩
 |n,[_],top,k,l,_,h=>by rw[UN (by simp) (by simp)]at h;simp at h
 | 0,_::_::_,top,k,l,hn,h=>by simp at hn
 |n+1,a::b::r,top,k,l,hn,h=>by
  by_cases h1:top<=k
  ·rw[X5 h1]at h;simp at h
  ·by_cases h2:r.length<EN a b
   ·rw[aZ h1 h2]at h;simp at h
   ·rw[TF h1 h2]at h
    obtain⟨m,hq,rfl⟩:=xA h
    obtain⟨k1,k2,k3⟩:=bA n (r.drop (EN a b)) top (k+1) m (by simp at hn ⊢;omega) hq
    have hlen:(r.take (EN a b)).length=EN a b:=by rw[List.length_take];omega
    have hlt:=eG a b
    refine⟨?_,?_,?_⟩
    ·show itB _++mQ m=_
     rw[k1]
     unfold itB
     rw[AV,hlen,AAE]
     show[a,b]++r.take (EN a b)++r.drop (EN a b)=_
     simp
    ·left
     rw[List.length_cons]
     rcases k2 with k2|k2
     ·omega
     ·subst k2;simp;omega
    ·intro x hx
     rcases List.mem_cons.1 hx with hx|hx
     ·subst hx;show(r.take (EN a b)).length<=_;omega
     ·exact k3 x hx
def run{α:Type}(step:α->At->Option α):α->List At->Option α
 |x,[]=>some x
 |x,a::l=>match step x a with
  |some y=>run step y l
  |none=>none
theorem AAQ{α:Type}{step:α->At->Option α}:∀(l m:List At) (x:α),run step x (l++m)=match run step x l with
  |some y=>run step y m
  |none=>none
 | [],m,x=>rfl
 |a::l,m,x=>by
  show(match step x a with|some y=>run step y (l++m)|none=>none)=match (match step x a with|some y=>run step y l|none=>none)with|some y=>run step y m|none=>none
  cases step x a with
  |none=>rfl
  |some y=>exact AAQ l m y
def M7{α β:Type}(f:α->Option β):List α->Option (List β)
 | []=>some []
 |a::l=>match f a,M7 f l with
  |some b,some m=>some (b::m)
  |_,_=>none
theorem vI{α β:Type}{f:α->Option β}:∀ {l:List α} {m:List β},M7 f l=some m->m.length=l.length/\∀g:β->α,(∀a b,f a=some b->g b=a)->m.map g=l
 | [],m,h=>by simp only[M7,Option.some.injEq]at h;subst h;exact⟨rfl,fun _ _=>rfl⟩
 |a::l,m,h=>by
  unfold M7 at h
  split at h
  ·rename_i b m' h1 h2
   simp only[Option.some.injEq]at h;subst h
   obtain⟨k1,k2⟩:=vI h2
   exact⟨by simp[k1],fun g hg=>by simp[hg a b h1,k2 g hg]⟩
  ·cases h
theorem kH{α β:Type}{f:α->Option β}{p:β->Prop}(hp:∀a b,f a=some b->p b):∀ {l:List α} {m:List β},M7 f l=some m->∀b∈m,p b
 | [],m,h=>by simp only[M7,Option.some.injEq]at h;subst h;intro b hb;cases hb
 |a::l,m,h=>by
  unfold M7 at h
  split at h
  ·rename_i b m' h1 h2
   simp only[Option.some.injEq]at h;subst h
   intro c hc
   rcases List.mem_cons.1 hc with hc|hc
   ·subst hc;exact hp _ _ h1
   ·exact kH hp h2 c hc
  ·cases h
theorem kJ{α β:Type}{f:α->Option β}{g:β->α}:∀ {m:List β},(∀b∈m,f (g b)=some b)->M7 f (m.map g)=some m
 | [],_=>rfl
 |b::m,h=>by
  simp only[List.map_cons,M7,h b (List.mem_cons_self ..),kJ fun x hx=>h x (List.mem_cons_of_mem _ hx)]
theorem zQ{α β:Type}{f:α->Option β}:∀(l m:List α),M7 f (l++m)=match M7 f l,M7 f m with
  |some x,some y=>some (x++y)
  |_,_=>none
 | [],m=>by
  show M7 f m=_
  cases h:M7 f m<;>simp[M7]
 |a::l,m=>by
  simp only[List.cons_append,M7,zQ l m]
  cases f a<;>cases M7 f l<;>cases M7 f m<;>rfl
end Go.Tlv
namespace Go.Tlv
open Go Go.Abs
def QW(k:Nat)(s:List UInt8):List At:=if s=[]then[]else[⟨k,bytesOf s⟩]
def CR(f:Nat->List UInt8):Nat->Nat->List At
 | 0,_=>[]
 |n+1,j=>QW (j+1) (f (j+1))++CR f n (j+1)
theorem Y1{f:Nat->List UInt8}:∀(n j:Nat),(∀k,j<k->f k=[])->CR f n j=[]
 | 0,_,_=>rfl
 |n+1,j,h=>by
  simp only[CR,h (j+1) (by omega),QW,if_true,List.nil_append]
  exact Y1 n (j+1) fun k hk=>h k (by omega)
theorem YZ{f:Nat->List UInt8}(hf:∀k,(f k).length<=65535):∀(n j last:Nat),last<=j->JB last (CR f n j)=0
 | 0,_,_,_=>rfl
 |n+1,j,last,h=>by
  simp only[CR,QW]
  split
  ·exact YZ hf n (j+1) last (by omega)
  ·rename_i hne
   have hl:(⟨j+1,bytesOf (f (j+1))⟩:At).len=(f (j+1)).length:=rfl
   have h0:(f (j+1)).length≠0:=fun e=>hne (List.eq_nil_of_length_eq_zero e)
   have h1:=hf (j+1)
   simp only[List.singleton_append,JB,hl]
   rw[if_neg (by omega),if_neg (by omega)]
   exact YZ hf n (j+1) (j+1) (Nat.le_refl _)
theorem aG{f:Nat->List UInt8}:∀(n j:Nat),∀a∈CR f n j,a.t<=j+n
 | 0,_,a,h=>by cases h
 |n+1,j,a,h=>by
  simp only[CR,List.mem_append]at h
  rcases h with h|h
  ·unfold QW at h
   split at h
   ·cases h
   ·simp only[List.mem_singleton]at h;subst h;show j+1<=_;omega
  ·have:=aG n (j+1) a h;omega
structure Sch{α:Type}(m:Nat)(step:α->At->Option α)(put:α->Nat->List UInt8)(ok:α->Prop)(zero:α):Prop where
 no:∀y a,m<a.t->step y a=none
 is:∀y a y',ok y->step y a=some y'->ok y'/\put y' a.t=a.v.data.toList/\∀j,j≠a.t->put y' j=put y j
 back:∀x y k,ok x->1<=k->k<=m->∃y',step y ⟨k,bytesOf (put x k)⟩=some y'
 inj:∀x y,ok x->ok y->(∀k,1<=k->k<=m->put x k=put y k)->x=y
 z:ok zero
 z0:∀k,put zero k=[]
 len:∀x k,ok x->(put x k).length<=65535
 m:m<=255
section
variable {α:Type} {m:Nat} {step:α->At->Option α} {put:α->Nat->List UInt8} {ok:α->Prop} {zero:α}
theorem Sch.run_put(S:Sch m step put ok zero){x:α}(hx:ok x):∀(n j:Nat) (y:α),ok y->j+n=m->(∀k,1<=k->k<=j->put y k=put x k)->(∀k,j<k->put y k=[])->
  ∃y',run step y (CR (put x) n j)=some y'/\ok y'/\∀k,1<=k->k<=m->put y' k=put x k
 | 0,j,y,hy,hj,h1,h2=>⟨y,rfl,hy,fun k a b=>h1 k a (by omega)⟩
 |n+1,j,y,hy,hj,h1,h2=>by
  simp only[CR,QW]
  by_cases hne:put x (j+1)=[]
  ·rw[if_pos hne]
   exact S.run_put hx n (j+1) y hy (by omega) (fun k a b=>by
    rcases Nat.lt_or_ge k (j+1)with c|c
    ·exact h1 k a (by omega)
    ·have e:k=j+1:=by omega
     subst e;rw[hne];exact h2 _ (by omega)) (fun k hk=>h2 k (by omega))
  ·rw[if_neg hne]
   obtain⟨y1,e1⟩:=S.back x y (j+1) hx (by omega) (by omega)
   obtain⟨k1,k2,k3⟩:=S.is _ _ _ hy e1
   have k2:put y1 (j+1)=put x (j+1):=k2
   have k3:∀i,i≠j+1->put y1 i=put y i:=k3
   obtain⟨y',g1,g2,g3⟩:=S.run_put hx n (j+1) y1 k1 (by omega) (fun k a b=>by
    rcases Nat.lt_or_ge k (j+1)with c|c
    ·rw[k3 k (by omega)];exact h1 k a (by omega)
    ·have e:k=j+1:=by omega
     subst e;exact k2) (fun k hk=>by rw[k3 k (by omega)];exact h2 k (by omega))
   refine⟨y',?_,g2,g3⟩
   simp only[List.singleton_append,run,e1]
   exact g1
theorem Sch.run_back(S:Sch m step put ok zero){x:α}(hx:ok x):run step zero (CR (put x) m 0)=some x:=by
 obtain⟨y,h1,h2,h3⟩:=S.run_put hx m 0 zero S.z (by omega) (fun k a b=>by omega) (fun k _=>S.z0 k)
 rw[h1,S.inj _ _ h2 hx h3]
theorem Sch.run_get(S:Sch m step put ok zero):∀(n j:Nat) (l:List At) (y x:α),ok y->JB j l=0->j+n=m->(∀k,j<k->put y k=[])->run step y l=some x->
  ok x/\(∀k,k<=j->put x k=put y k)/\l=CR (put x) n j
 |n,j,[],y,x,hy,he,hj,h0,hr=>by
  simp only[run,Option.some.injEq]at hr;subst hr
  exact⟨hy,fun _ _=>rfl,(Y1 n j h0).symm⟩
 | 0,j,a::l,y,x,hy,he,hj,h0,hr=>by
  simp only[JB]at he
  split at he
  ·omega
  ·rename_i h1
   rw[run,S.no y a (by omega)]at hr;cases hr
 |n+1,j,a::l,y,x,hy,he,hj,h0,hr=>by
  have he0:=he
  simp only[JB]at he
  split at he
  ·omega
  ·rename_i h1
   split at he
   ·omega
   ·rename_i h2
    by_cases hat:a.t=j+1
    ·unfold run at hr
     split at hr
     ·rename_i y1 e1
      obtain⟨k1,k2,k3⟩:=S.is _ _ _ hy e1
      rw[hat]at k2 k3 he
      obtain⟨g1,g2,g3⟩:=S.run_get n (j+1) l y1 x k1 he (by omega) (fun k hk=>by rw[k3 k (by omega)];exact h0 k (by omega)) hr
      have hput:put x (j+1)=a.v.data.toList:=by rw[g2 _ (Nat.le_refl _),k2]
      refine⟨g1,fun k hk=>by rw[g2 k (by omega),k3 k (by omega)],?_⟩
      have hne:put x (j+1)≠[]:=by
       rw[hput];intro e
       exact h1 (.inr (by show a.v.data.toList.length=0;rw[e];rfl))
      simp only[CR,QW]
      rw[if_neg hne,←g3,hput,bytes_eta,List.singleton_append]
      congr 1
      cases a;simp only at hat;subst hat;rfl
     ·cases hr
    ·have he1:JB (j+1) (a::l)=0:=by
      simp only[JB]
      rw[if_neg (by omega),if_neg h2];exact he
     obtain⟨g1,g2,g3⟩:=S.run_get n (j+1) (a::l) y x hy he1 (by omega) (fun k hk=>h0 k (by omega)) hr
     refine⟨g1,fun k hk=>g2 k (by omega),?_⟩
     have hput:put x (j+1)=[]:=by rw[g2 _ (Nat.le_refl _)];exact h0 _ (by omega)
     simp only[CR,QW]
     rw[if_pos hput,←g3,List.nil_append]
def rdE(step:α->At->Option α)(zero:α)(s:List UInt8):Nat×α:=if (EG 0 s).1=0 then(match run step zero (EG 0 s).2 with
 |some x=>(0,x)
 |none=>(3,zero))else((EG 0 s).1,zero)
theorem Sch.encA(S:Sch m step put ok zero){x:α}(hx:ok x):JB 0 (CR (put x) m 0)=0:=YZ (fun k=>S.len x k hx) m 0 0 (Nat.le_refl _)
theorem Sch.tA(S:Sch m step put ok zero){x:α}:∀a∈CR (put x) m 0,a.t<256:=fun a h=>by
 have:=aG m 0 a h;have:=S.m;omega
theorem Sch.encS_eq(S:Sch m step put ok zero){x:α}(hx:ok x):encS (CR (put x) m 0)=EW (CR (put x) m 0):=by unfold encS;rw[if_pos (S.encA hx)]
theorem Sch.rd_put(S:Sch m step put ok zero){x:α}(hx:ok x):rdE step zero (encS (CR (put x) m 0))=(0,x):=by
 unfold rdE
 rw[S.encS_eq hx,Y6 _ 0 S.tA (S.encA hx),if_pos rfl,S.run_back hx]
theorem Sch.rd_ok(S:Sch m step put ok zero){s:List UInt8}{x:α}(h:rdE step zero s=(0,x)):ok x/\encS (CR (put x) m 0)=s:=by
 unfold rdE at h
 split at h
 ·rename_i h0
  have hd:EG 0 s=(0,(EG 0 s).2):=Prod.ext h0 rfl
  obtain⟨k1,k2,k3⟩:=eB s.length s 0 _ (Nat.le_refl _) hd
  cases hr:run step zero (EG 0 s).2 with
  |none=>rw[hr]at h;simp at h
  |some y=>
   rw[hr]at h
   simp only[Prod.mk.injEq,true_and]at h
   subst h
   obtain⟨g1,_,g3⟩:=S.run_get m 0 _ zero y S.z k1 (by omega) (fun k _=>S.z0 k) hr
   refine⟨g1,?_⟩
   rw[S.encS_eq g1,←g3];exact k2
 ·rename_i h0
  simp only[Prod.mk.injEq]at h
  exact absurd h.1 h0
theorem Sch.put_zero(S:Sch m step put ok zero):encS (CR (put zero) m 0)=[]:=by
 rw[S.encS_eq S.z,Y1 m 0 fun k _=>S.z0 k];rfl
theorem Sch.unlike(S:Sch m step put ok zero){x y:α}(hx:ok x)(hy:ok y):encS (CR (put x) m 0)=encS (CR (put y) m 0)↔x=y:=by
 constructor
 ·intro h
  have h1:=S.rd_put hx
  rw[h,S.rd_put hy]at h1
  simp only[Prod.mk.injEq,true_and]at h1
  exact h1.symm
 ·intro h;rw[h]
theorem Sch.nothing(S:Sch m step put ok zero){x:α}(hx:ok x):encS (CR (put x) m 0)=[]↔x=zero:=by
 rw[←S.put_zero];exact S.unlike hx S.z
theorem iR:∀(l:List At) (last:Nat) (s:List UInt8),(∀a∈l,a.t<256)->JB last l=0->∃last',EG last (EW l++s)=XR l (EG last' s)/\(last'=last∨∃a∈l,last'=a.t)
 | [],last,s,_,_=>⟨last,(eH _ (QO _ _)).symm,.inl rfl⟩
 |a::l,last,s,ht,h=>by
  simp only[JB]at h
  split at h
  ·omega
  ·rename_i h1
   split at h
   ·omega
   ·rename_i h2
    have hat:=ht a (List.mem_cons_self ..)
    obtain⟨last',ih,hl⟩:=iR l a.t s (fun x hx=>ht x (List.mem_cons_of_mem _ hx)) h
    refine⟨last',?_,.inr ?_⟩
    ·have e1:(UInt8.ofNat a.t).toNat=a.t:=by simp;omega
     have e2:EN (UInt8.ofNat (a.len / 256 % 256)) (UInt8.ofNat (a.len % 256))=a.len:=bH (by omega)
     have hlen:a.v.data.toList.length=a.len:=rfl
     have e3:EW (a::l)++s=UInt8.ofNat a.t::UInt8.ofNat (a.len / 256 % 256)::UInt8.ofNat (a.len % 256)::(a.v.data.toList++(EW l++s)):=by
      show(UInt8.ofNat a.t::([UInt8.ofNat (a.len / 256 % 256),UInt8.ofNat (a.len % 256)]++a.v.data.toList))++EW l++s=_
      simp
     rw[e3,OD (by rw[e1,e2];exact h1) (by rw[e2,List.length_append,hlen];omega),e1,e2]
     rw[show(a.v.data.toList++(EW l++s)).drop a.len=EW l++s by rw[←hlen,List.drop_left],show(a.v.data.toList++(EW l++s)).take a.len=a.v.data.toList by rw[←hlen,List.take_left],ih,bytes_eta]
     unfold XR PX
     by_cases h0:(EG last' s).1=0<;>simp[h0]
    ·rcases hl with hl|⟨b,hb,hl⟩
     ·exact⟨a,List.mem_cons_self ..,hl⟩
     ·exact⟨b,List.mem_cons_of_mem _ hb,hl⟩
theorem Sch.more(S:Sch m step put ok zero){x:α}(hx:ok x){t:Nat}{v:List UInt8}(ht:m<t)(ht2:t<256)(hv:v.length<=65535):
  rdE step zero (encS (CR (put x) m 0)++(UInt8.ofNat t::(two v.length++v)))=(3,zero):=by
 obtain⟨last',h1,h2⟩:=iR (CR (put x) m 0) 0 (UInt8.ofNat t::(two v.length++v)) S.tA (S.encA hx)
 have hlast:last'<=m:=by
  rcases h2 with h2|⟨a,ha,h2⟩
  ·omega
  ·have:=aG m 0 a ha;omega
 have e1:(UInt8.ofNat t).toNat=t:=by simp;omega
 have e2:=bH hv
 rw[←S.encS_eq hx]at h1
 have hd:EG last' (UInt8.ofNat t::(two v.length++v))=if v=[]then(3,[])else(0,[⟨t,bytesOf v⟩]):=by
  show EG last' (UInt8.ofNat t::UInt8.ofNat (v.length / 256 % 256)::UInt8.ofNat (v.length % 256)::v)=_
  by_cases h0:v=[]
  ·rw[if_pos h0,OV (.inr (by rw[e2,h0];rfl))]
  ·have h3:v.length≠0:=fun e=>h0 (List.eq_nil_of_length_eq_zero e)
   rw[if_neg h0,OD (by rw[e1,e2];omega) (by rw[e2];omega),e1,e2,List.drop_length,List.take_length,QP]
   rfl
 unfold rdE
 rw[h1,hd]
 by_cases h0:v=[]
 ·rw[if_pos h0];rfl
 ·rw[if_neg h0]
  have:run step zero (CR (put x) m 0++[⟨t,bytesOf v⟩])=none:=by
   rw[AAQ,S.run_back hx]
   simp only[run]
   rw[S.no x _ (by show m<t;exact ht)]
  show(match run step zero (CR (put x) m 0++[⟨t,bytesOf v⟩])with|some x=>(0,x)|none=>(3,zero))=_
  rw[this]
end
end Go.Tlv
