/- . -/
import Derived.Test.YtblbaohcelldpaaGreatDoorWA
set_option linter.all false
namespace Go.Tlv
open Go Go.Abs
def I5(n:Nat):List UInt8:=if h:n=0 then[]else I5 (n / 256)++[UInt8.ofNat (n % 256)]
termination_by n
decreasing_by omega
theorem EA:I5 0=[]:=by rw[I5];rfl
theorem QF{n:Nat}(h:0<n):I5 n=I5 (n / 256)++[UInt8.ofNat (n % 256)]:=by rw[I5,dif_neg (by omega)]
def ABx(a:Nat)(l:List UInt8):Nat:=l.foldl (fun a b=>a*256+b.toNat) a
def JV(l:List UInt8):Nat:=ABx 0 l
theorem UZ(l:List UInt8)(b:UInt8):JV (l++[b])=JV l*256+b.toNat:=by simp[JV,ABx,List.foldl_append]
theorem wV(l:List UInt8):∀a,ABx a l<(a+1)*256 ^ l.length:=by
 induction l with
 |nil=>intro a;simp[ABx]
 |cons b l ih=>
  intro a
  have h:=ih (a*256+b.toNat)
  have hb:=b.toNat_lt
  show ABx (a*256+b.toNat) l<_
  rw[List.length_cons,Nat.pow_succ]
  calc ABx (a*256+b.toNat) l<(a*256+b.toNat+1)*256 ^ l.length:=h
   _<=((a+1)*256)*256 ^ l.length:=Nat.mul_le_mul_right _ (by omega)
   _=(a+1)*(256 ^ l.length*256):=by rw[Nat.mul_assoc,Nat.mul_comm 256]
theorem fC(l:List UInt8):JV l<256 ^ l.length:=by have:=wV l 0;simpa [JV]using this
theorem ABw(n:Nat):JV (I5 n)=n:=by
 induction n using Nat.strongRecOn with
 |_ n ih=>
  rcases Nat.eq_zero_or_pos n with h|h
  ·subst h;rw[EA];rfl
  ·rw[QF h,UZ,ih _ (by omega)]
   have:(UInt8.ofNat (n % 256)).toNat=n % 256:=by simp
   rw[this];omega
theorem AC2{n:Nat}:I5 n=[]↔n=0:=by
 constructor
 ·intro h
  rcases Nat.eq_zero_or_pos n with h0|h0
  ·exact h0
  ·rw[QF h0]at h;simp at h
 ·intro h;subst h;exact EA
theorem AA4{n:Nat}{b:UInt8}(h:(I5 n)[0]?=some b):b≠0:=by
 induction n using Nat.strongRecOn with
 |_ n ih=>
  rcases Nat.eq_zero_or_pos n with h0|h0
  ·subst h0;rw[EA]at h;simp at h
  ·rw[QF h0]at h
   rcases Nat.eq_zero_or_pos (n / 256)with h1|h1
   ·rw[h1,EA]at h
    simp at h;subst h
    intro hc
    have:=congrArg UInt8.toNat hc
    simp at this;omega
   ·refine ih (n / 256) (by omega) ?_
    have hne:I5 (n / 256)≠[]:=fun e=>by rw[AC2]at e;omega
    rw[List.getElem?_append_left (List.length_pos_iff.2 hne)]at h;exact h
theorem d9 {n k:Nat} (h:n<256 ^ k):(I5 n).length<=k:=by
  induction k generalizing n with
  | zero => have:n=0:=by simpa using h
            subst this;rw[EA];simp
  |succ k ih=>
    rcases Nat.eq_zero_or_pos n with h0|h0
    · subst h0;rw[EA];simp
    · rw[QF h0,List.length_append,List.length_singleton]
      have:=ih (n:=n / 256) (by rw[Nat.pow_succ]at h;exact Nat.div_lt_of_lt_mul (by rw[Nat.mul_comm];exact h))
      omega
theorem AA5:∀(l:List UInt8),l[0]?≠some 0->I5 (JV l)=l:=by
 intro l
 induction hn:l.length using Nat.strongRecOn generalizing l with
 |_ n ih=>
  intro h0
  rcases List.eq_nil_or_concat l with e|⟨m,b,e⟩
  ·subst e;show I5 0=[];exact EA
  ·rw[List.concat_eq_append]at e
   subst e
   rw[UZ]
   have hb:=b.toNat_lt
   by_cases hm:m=[]
   ·subst hm
    have hb0:b≠0:=by simpa using h0
    have:0<b.toNat:=by
     rcases Nat.eq_zero_or_pos b.toNat with h|h
     ·exact absurd (by apply UInt8.toNat_inj.1;simpa using h) hb0
     ·exact h
    show I5 (0*256+b.toNat)=[b]
    rw[Nat.zero_mul,Nat.zero_add,QF this,show b.toNat / 256=0 by omega,EA,show b.toNat % 256=b.toNat by omega]
    simp
   ·have h1:m[0]?≠some 0:=by rw[List.getElem?_append_left (List.length_pos_iff.2 hm)]at h0;exact h0
    have ihm:=ih m.length (by rw[←hn];simp) m rfl h1
    have hpos:0<JV m:=by
     rcases Nat.eq_zero_or_pos (JV m)with h|h
     ·rw[h,EA]at ihm;exact absurd ihm.symm hm
     ·exact h
    rw[QF (by omega),show(JV m*256+b.toNat) / 256=JV m by omega,show(JV m*256+b.toNat) % 256=b.toNat by omega,ihm]
    simp
structure At where
 t:Nat
 v:ByteArray
def At.len(a:At):Nat:=a.v.data.toList.length
def AH6(a:At):Value := .agg ⟨[.int .u8 a.t,.string a.v]⟩
def two(n:Nat):List UInt8:=[UInt8.ofNat (n / 256 % 256),UInt8.ofNat (n % 256)]
def AAx(a:At):List UInt8:=UInt8.ofNat a.t::(two a.len++a.v.data.toList)
def JS:Nat->List At->Nat
 |_,[]=>0
 |last,a::l=>if a.t<=last∨a.len=0 then 3 else if 65535<a.len then 5 else JS a.t l
def KO(l:List At):List UInt8:=l.flatMap AAx
def encS(l:List At):List UInt8:=if JS 0 l=0 then KO l else[]
end Go.Tlv
namespace Go.Tlv
open Go Go.Abs
def BX(a b:UInt8):Nat:=a.toNat*256+b.toNat
theorem UT(a b:UInt8):BX a b<65536:=by have:=a.toNat_lt;have:=b.toNat_lt;unfold BX;omega
theorem tV(a b:UInt8):two (BX a b)=[a,b]:=by
 have ha:=a.toNat_lt
 have hb:=b.toNat_lt
 unfold two BX
 rw[show(a.toNat*256+b.toNat) / 256 % 256=a.toNat by omega,show(a.toNat*256+b.toNat) % 256=b.toNat by omega]
 simp
theorem XU{n:Nat}(h:n<=65535):BX (UInt8.ofNat (n / 256 % 256)) (UInt8.ofNat (n % 256))=n:=by
 unfold BX;simp;omega
def NG{α:Type}(a:α)(q:Nat×List α):Nat×List α:=if q.1=0 then(0,a::q.2)else(q.1,[])
def QU{α:Type}(l:List α)(q:Nat×List α):Nat×List α:=if q.1=0 then(0,l++q.2)else(q.1,[])
theorem SI{α:Type}(q:Nat×List α)(h:q.1≠0->q.2=[]):QU [] q=q:=by
 obtain⟨e,l⟩:=q
 unfold QU;dsimp only at h ⊢
 split
 ·rename_i h0;rw[h0];rfl
 ·rename_i h0;rw[h h0]
theorem UI{α:Type}(l:List α)(a:α)(q:Nat×List α):QU l (NG a q)=QU (l++[a]) q:=by
 unfold QU NG
 by_cases h:q.1=0
 ·simp[h]
 ·simp[h]
def CP(last:Nat)(s:List UInt8):Nat×List At:=
 match s with
 | []=>(0,[])
 | [_]=>(4,[])
 | [_,_]=>(4,[])
 |t::a::b::r=>
  if t.toNat<=last∨BX a b=0 then(3,[])
  else if r.length<BX a b then(4,[])
  else NG ⟨t.toNat,bytesOf (r.take (BX a b))⟩ (CP t.toNat (r.drop (BX a b)))
termination_by s.length
decreasing_by simp;omega
theorem NY(last:Nat):CP last []=(0,[]):=by rw[CP]
theorem G8{last:Nat}{s:List UInt8}(h0:s≠[])(h:s.length<3):CP last s=(4,[]):=by
 match s,h0,h with
 | [_],_,_=>rw[CP]
 | [_,_],_,_=>rw[CP]
theorem J6{last:Nat}{t a b:UInt8}{r:List UInt8}(h:t.toNat<=last∨BX a b=0):CP last (t::a::b::r)=(3,[]):=by rw[CP,if_pos h]
theorem SX{last:Nat}{t a b:UInt8}{r:List UInt8}(h:¬(t.toNat<=last∨BX a b=0))(h2:r.length<BX a b):CP last (t::a::b::r)=(4,[]):=by rw[CP,if_neg h,if_pos h2]
theorem J7{last:Nat}{t a b:UInt8}{r:List UInt8}(h:¬(t.toNat<=last∨BX a b=0))(h2:¬r.length<BX a b):CP last (t::a::b::r)=NG ⟨t.toNat,bytesOf (r.take (BX a b))⟩ (CP t.toNat (r.drop (BX a b))):=by rw[CP,if_neg h,if_neg h2]
theorem iK{α:Type}{a:α}{q:Nat×List α}(h:(NG a q).1≠0):(NG a q).2=[]:=by
 unfold NG at h ⊢
 split
 ·rename_i h0;rw[if_pos h0]at h;exact absurd rfl h
 ·rfl
theorem MH:∀(last:Nat) (s:List UInt8),(CP last s).1≠0->(CP last s).2=[]:=by
 intro last s h
 match s with
 | []=>rw[NY]at h;exact absurd rfl h
 | [_]=>rw[G8 (by simp) (by simp)]
 | [_,_]=>rw[G8 (by simp) (by simp)]
 |t::a::b::r=>
  by_cases h1:t.toNat<=last∨BX a b=0
  ·rw[J6 h1]
  ·by_cases h2:r.length<BX a b
   ·rw[SX h1 h2]
   ·rw[J7 h1 h2]at h ⊢;exact iK h
theorem cZ{α:Type}{a:α}{q:Nat×List α}(h:q.1=0∨q.1=3∨q.1=4):(NG a q).1=0∨(NG a q).1=3∨(NG a q).1=4:=by
 unfold NG
 split
 ·exact .inl rfl
 ·exact h
theorem iL:∀(n last:Nat) (s:List UInt8),s.length<=n->(CP last s).1=0∨(CP last s).1=3∨(CP last s).1=4
 |n,last,[],_=>by rw[NY];exact .inl rfl
 |n,last,[_],_=>by rw[G8 (by simp) (by simp)];exact .inr (.inr rfl)
 |n,last,[_,_],_=>by rw[G8 (by simp) (by simp)];exact .inr (.inr rfl)
 | 0,last,_::_::_::_,h=>by simp at h
 |n+1,last,t::a::b::r,h=>by
  by_cases h1:t.toNat<=last∨BX a b=0
  ·rw[J6 h1];exact .inr (.inl rfl)
  ·by_cases h2:r.length<BX a b
   ·rw[SX h1 h2];exact .inr (.inr rfl)
   ·rw[J7 h1 h2]
    exact cZ (iL n t.toNat _ (by simp at h ⊢;omega))
theorem dB:∀(l:List At) (last:Nat),(∀a∈l,a.t<256)->JS last l=0->CP last (KO l)=(0,l)
 | [],last,_,_=>NY last
 |a::l,last,ht,h=>by
  simp only[JS]at h
  split at h
  ·omega
  ·rename_i h1
   split at h
   ·omega
   ·rename_i h2
    have hat:=ht a (List.mem_cons_self ..)
    have ih:=dB l a.t (fun x hx=>ht x (List.mem_cons_of_mem _ hx)) h
    have e1:(UInt8.ofNat a.t).toNat=a.t:=by simp;omega
    have e2:BX (UInt8.ofNat (a.len / 256 % 256)) (UInt8.ofNat (a.len % 256))=a.len:=XU (by omega)
    show CP last (UInt8.ofNat a.t::UInt8.ofNat (a.len / 256 % 256)::UInt8.ofNat (a.len % 256)::(a.v.data.toList++KO l))=_
    have hlen:a.v.data.toList.length=a.len:=rfl
    rw[J7 (by rw[e1,e2];exact h1) (by rw[e2,List.length_append,hlen];omega),e1,e2]
    rw[show(a.v.data.toList++KO l).drop a.len=KO l by rw[←hlen,List.drop_left],show(a.v.data.toList++KO l).take a.len=a.v.data.toList by rw[←hlen,List.take_left],ih,bytes_eta]
    rfl
theorem pQ{α:Type}{a:α}{q:Nat×List α}{l:List α}(h:NG a q=(0,l)):∃m,q=(0,m)/\l=a::m:=by
 obtain⟨e,m⟩:=q
 unfold NG at h
 split at h
 ·rename_i h0
  dsimp only at h0 h
  subst h0
  simp only[Prod.mk.injEq,true_and]at h
  exact⟨m,rfl,h.symm⟩
 ·rename_i h0
  simp only[Prod.mk.injEq]at h
  exact absurd h.1 h0
theorem UK:∀(n:Nat) (s:List UInt8) (last:Nat) (l:List At),s.length<=n->CP last s=(0,l)->JS last l=0/\KO l=s/\∀a∈l,a.t<256
 |n,[],last,l,_,h=>by
  rw[NY]at h
  simp only[Prod.mk.injEq,true_and]at h
  subst h;exact⟨rfl,rfl,fun a ha=>by cases ha⟩
 |n,[_],last,l,_,h=>by rw[G8 (by simp) (by simp)]at h;simp at h
 |n,[_,_],last,l,_,h=>by rw[G8 (by simp) (by simp)]at h;simp at h
 | 0,_::_::_::_,last,l,hn,h=>by simp at hn
 |n+1,t::a::b::r,last,l,hn,h=>by
  by_cases h1:t.toNat<=last∨BX a b=0
  ·rw[J6 h1]at h;simp at h
  ·by_cases h2:r.length<BX a b
   ·rw[SX h1 h2]at h;simp at h
   ·rw[J7 h1 h2]at h
    obtain⟨m,hq,rfl⟩:=pQ h
    obtain⟨k1,k2,k3⟩:=UK n (r.drop (BX a b)) t.toNat m (by simp at hn ⊢;omega) hq
    have hlen:(⟨t.toNat,bytesOf (r.take (BX a b))⟩:At).len=BX a b:=by
     show(r.take (BX a b)).length=_
     rw[List.length_take];omega
    have hlt:=UT a b
    refine⟨?_,?_,?_⟩
    ·simp only[JS,hlen]
     rw[if_neg h1,if_neg (by omega)];exact k1
    ·show AAx _++KO m=_
     rw[k2]
     unfold AAx
     rw[hlen,tV]
     show UInt8.ofNat t.toNat::([a,b]++r.take (BX a b))++r.drop (BX a b)=_
     simp
    ·intro x hx
     rcases List.mem_cons.1 hx with hx|hx
     ·subst hx;exact t.toNat_lt
     ·exact k3 x hx
def GQ(s:List UInt8)(top:Nat):Option Nat:=if 8<s.length∨s[0]?=some 0 then none else if top<JV s then none else some (JV s)
theorem UY{n top:Nat}(h:n<=top)(hn:n<18446744073709551616):GQ (I5 n) top=some n:=by
 have h1:(I5 n).length<=8:=d9 (k:=8) (by omega)
 unfold GQ
 rw[if_neg,ABw,if_neg (by omega)]
 rintro (h2|h2)
 ·omega
 ·exact AA4 h2 rfl
theorem BV{s:List UInt8}{n top:Nat}(h:GQ s top=some n):I5 n=s/\n<=top/\n<18446744073709551616:=by
 unfold GQ at h
 split at h
 ·cases h
 ·rename_i h1
  split at h
  ·cases h
  ·simp only[Option.some.injEq]at h;subst h
   have h8:s.length<=8:=by
    rcases Nat.lt_or_ge 8 s.length with c|c
    ·exact absurd (.inl c) h1
    ·exact c
   refine⟨AA5 s (fun c=>h1 (.inr c)),by omega,?_⟩
   have:=fC s
   have h2:256 ^ s.length<=256 ^ 8:=Nat.pow_le_pow_right (by omega) h8
   have h3:(256:Nat) ^ 8=18446744073709551616:=by decide
   omega
def itB(s:ByteArray):List UInt8:=two s.data.toList.length++s.data.toList
def gF(l:List ByteArray):List UInt8:=l.flatMap itB
def DK(top k:Nat)(s:List UInt8):Nat×List ByteArray:=
 match s with
 | []=>(0,[])
 | [_]=>(4,[])
 |a::b::r=>
  if top<=k then(3,[])
  else if r.length<BX a b then(4,[])
  else NG (bytesOf (r.take (BX a b))) (DK top (k+1) (r.drop (BX a b)))
termination_by s.length
decreasing_by simp;omega
theorem QD(top k:Nat):DK top k []=(0,[]):=by rw[DK]
theorem N8{top k:Nat}{s:List UInt8}(h0:s≠[])(h:s.length<2):DK top k s=(4,[]):=by
 match s,h0,h with
 | [_],_,_=>rw[DK]
theorem QC{top k:Nat}{a b:UInt8}{r:List UInt8}(h:top<=k):DK top k (a::b::r)=(3,[]):=by rw[DK,if_pos h]
theorem TB{top k:Nat}{a b:UInt8}{r:List UInt8}(h:¬top<=k)(h2:r.length<BX a b):DK top k (a::b::r)=(4,[]):=by rw[DK,if_neg h,if_pos h2]
theorem NP{top k:Nat}{a b:UInt8}{r:List UInt8}(h:¬top<=k)(h2:¬r.length<BX a b):DK top k (a::b::r)=NG (bytesOf (r.take (BX a b))) (DK top (k+1) (r.drop (BX a b))):=by rw[DK,if_neg h,if_neg h2]
theorem MX:∀(top k:Nat) (s:List UInt8),(DK top k s).1≠0->(DK top k s).2=[]:=by
 intro top k s h
 match s with
 | []=>rw[QD]at h;exact absurd rfl h
 | [_]=>rw[N8 (by simp) (by simp)]
 |a::b::r=>
  by_cases h1:top<=k
  ·rw[QC h1]
  ·by_cases h2:r.length<BX a b
   ·rw[TB h1 h2]
   ·rw[NP h1 h2]at h ⊢;exact iK h
theorem jR:∀(n top k:Nat) (s:List UInt8),s.length<=n->(DK top k s).1=0∨(DK top k s).1=3∨(DK top k s).1=4
 |n,top,k,[],_=>by rw[QD];exact .inl rfl
 |n,top,k,[_],_=>by rw[N8 (by simp) (by simp)];exact .inr (.inr rfl)
 | 0,top,k,_::_::_,h=>by simp at h
 |n+1,top,k,a::b::r,h=>by
  by_cases h1:top<=k
  ·rw[QC h1];exact .inr (.inl rfl)
  ·by_cases h2:r.length<BX a b
   ·rw[TB h1 h2];exact .inr (.inr rfl)
   ·rw[NP h1 h2]
    exact cZ (jR n top (k+1) _ (by simp at h ⊢;omega))
theorem YT:∀(l:List ByteArray) (top k:Nat),(∀s∈l,s.data.toList.length<=65535)->k+l.length<=top->DK top k (gF l)=(0,l)
 | [],top,k,_,_=>QD top k
 |s::l,top,k,ht,h=>by
  simp only[List.length_cons]at h
  have hs:=ht s (List.mem_cons_self ..)
  have ih:=YT l top (k+1) (fun x hx=>ht x (List.mem_cons_of_mem _ hx)) (by omega)
  have e2:=XU hs
  show DK top k (UInt8.ofNat (s.data.toList.length / 256 % 256)::UInt8.ofNat (s.data.toList.length % 256)::(s.data.toList++gF l))=_
  rw[NP (by omega) (by rw[e2,List.length_append];omega),e2,List.drop_left,List.take_left,ih,bytes_eta]
  rfl
theorem UQ:∀(n:Nat) (s:List UInt8) (top k:Nat) (l:List ByteArray),s.length<=n->DK top k s=(0,l)->gF l=s/\(k+l.length<=top∨l=[])/\∀a∈l,a.data.toList.length<=65535
 |n,[],top,k,l,_,h=>by
  rw[QD]at h
  simp only[Prod.mk.injEq,true_and]at h
  subst h;exact⟨rfl,.inr rfl,fun a ha=>by cases ha⟩
 |n,[_],top,k,l,_,h=>by rw[N8 (by simp) (by simp)]at h;simp at h
 | 0,_::_::_,top,k,l,hn,h=>by simp at hn
 |n+1,a::b::r,top,k,l,hn,h=>by
  by_cases h1:top<=k
  ·rw[QC h1]at h;simp at h
  ·by_cases h2:r.length<BX a b
   ·rw[TB h1 h2]at h;simp at h
   ·rw[NP h1 h2]at h
    obtain⟨m,hq,rfl⟩:=pQ h
    obtain⟨k1,k2,k3⟩:=UQ n (r.drop (BX a b)) top (k+1) m (by simp at hn ⊢;omega) hq
    have hlen:(r.take (BX a b)).length=BX a b:=by rw[List.length_take];omega
    have hlt:=UT a b
    refine⟨?_,?_,?_⟩
    ·show itB _++gF m=_
     rw[k1]
     unfold itB
     rw[AZ,hlen,tV]
     show[a,b]++r.take (BX a b)++r.drop (BX a b)=_
     simp
    ·left
     rw[List.length_cons]
     rcases k2 with k2|k2
     ·omega
     ·subst k2;simp;omega
    ·intro x hx
     rcases List.mem_cons.1 hx with hx|hx
     ·subst hx;show(r.take (BX a b)).length<=_;omega
     ·exact k3 x hx
def run{α:Type}(step:α->At->Option α):α->List At->Option α
 |x,[]=>some x
 |x,a::l=>match step x a with
  |some y=>run step y l
  |none=>none
theorem zW{α:Type}{step:α->At->Option α}:∀(l m:List At) (x:α),run step x (l++m)=match run step x l with
  |some y=>run step y m
  |none=>none
 | [],m,x=>rfl
 |a::l,m,x=>by
  show(match step x a with|some y=>run step y (l++m)|none=>none)=match (match step x a with|some y=>run step y l|none=>none)with|some y=>run step y m|none=>none
  cases step x a with
  |none=>rfl
  |some y=>exact zW l m y
def H5{α β:Type}(f:α->Option β):List α->Option (List β)
 | []=>some []
 |a::l=>match f a,H5 f l with
  |some b,some m=>some (b::m)
  |_,_=>none
theorem mX{α β:Type}{f:α->Option β}:∀ {l:List α} {m:List β},H5 f l=some m->m.length=l.length/\∀g:β->α,(∀a b,f a=some b->g b=a)->m.map g=l
 | [],m,h=>by simp only[H5,Option.some.injEq]at h;subst h;exact⟨rfl,fun _ _=>rfl⟩
 |a::l,m,h=>by
  unfold H5 at h
  split at h
  ·rename_i b m' h1 h2
   simp only[Option.some.injEq]at h;subst h
   obtain⟨k1,k2⟩:=mX h2
   exact⟨by simp[k1],fun g hg=>by simp[hg a b h1,k2 g hg]⟩
  ·cases h
theorem dV{α β:Type}{f:α->Option β}{p:β->Prop}(hp:∀a b,f a=some b->p b):∀ {l:List α} {m:List β},H5 f l=some m->∀b∈m,p b
 | [],m,h=>by simp only[H5,Option.some.injEq]at h;subst h;intro b hb;cases hb
 |a::l,m,h=>by
  unfold H5 at h
  split at h
  ·rename_i b m' h1 h2
   simp only[Option.some.injEq]at h;subst h
   intro c hc
   rcases List.mem_cons.1 hc with hc|hc
   ·subst hc;exact hp _ _ h1
   ·exact dV hp h2 c hc
  ·cases h
theorem dW{α β:Type}{f:α->Option β}{g:β->α}:∀ {m:List β},(∀b∈m,f (g b)=some b)->H5 f (m.map g)=some m
 | [],_=>rfl
 |b::m,h=>by
  simp only[List.map_cons,H5,h b (List.mem_cons_self ..),dW fun x hx=>h x (List.mem_cons_of_mem _ hx)]
theorem rR{α β:Type}{f:α->Option β}:∀(l m:List α),H5 f (l++m)=match H5 f l,H5 f m with
  |some x,some y=>some (x++y)
  |_,_=>none
 | [],m=>by
  show H5 f m=_
  cases h:H5 f m<;>simp[H5]
 |a::l,m=>by
  simp only[List.cons_append,H5,rR l m]
  cases f a<;>cases H5 f l<;>cases H5 f m<;>rfl
end Go.Tlv
namespace Go.Tlv
open Go Go.Abs
def OQ(k:Nat)(s:List UInt8):List At:=if s=[]then[]else[⟨k,bytesOf s⟩]
def BQ(f:Nat->List UInt8):Nat->Nat->List At
 | 0,_=>[]
 |n+1,j=>OQ (j+1) (f (j+1))++BQ f n (j+1)
theorem VI{f:Nat->List UInt8}:∀(n j:Nat),(∀k,j<k->f k=[])->BQ f n j=[]
 | 0,_,_=>rfl
 |n+1,j,h=>by
  simp only[BQ,h (j+1) (by omega),OQ,if_true,List.nil_append]
  exact VI n (j+1) fun k hk=>h k (by omega)
theorem VG{f:Nat->List UInt8}(hf:∀k,(f k).length<=65535):∀(n j last:Nat),last<=j->JS last (BQ f n j)=0
 | 0,_,_,_=>rfl
 |n+1,j,last,h=>by
  simp only[BQ,OQ]
  split
  ·exact VG hf n (j+1) last (by omega)
  ·rename_i hne
   have hl:(⟨j+1,bytesOf (f (j+1))⟩:At).len=(f (j+1)).length:=rfl
   have h0:(f (j+1)).length≠0:=fun e=>hne (List.eq_nil_of_length_eq_zero e)
   have h1:=hf (j+1)
   simp only[List.singleton_append,JS,hl]
   rw[if_neg (by omega),if_neg (by omega)]
   exact VG hf n (j+1) (j+1) (Nat.le_refl _)
theorem bX{f:Nat->List UInt8}:∀(n j:Nat),∀a∈BQ f n j,a.t<=j+n
 | 0,_,a,h=>by cases h
 |n+1,j,a,h=>by
  simp only[BQ,List.mem_append]at h
  rcases h with h|h
  ·unfold OQ at h
   split at h
   ·cases h
   ·simp only[List.mem_singleton]at h;subst h;show j+1<=_;omega
  ·have:=bX n (j+1) a h;omega
structure Sch{α:Type}(m:Nat)(step:α->At->Option α)(put:α->Nat->List UInt8)(ok:α->Prop)(zero:α):Prop where
 no:∀y a,m<a.t->step y a=none
 is:∀y a y',ok y->step y a=some y'->ok y'/\put y' a.t=a.v.data.toList/\∀j,j≠a.t->put y' j=put y j
 back:∀x y k,ok x->1<=k->k<=m->∃y',step y ⟨k,bytesOf (put x k)⟩=some y'
 inj:∀x y,ok x->ok y->(∀k,1<=k->k<=m->put x k=put y k)->x=y
 z:ok zero
 z0:∀k,put zero k=[]
 len:∀x k,ok x->(put x k).length<=65535
 m:m<=255
section
variable {α:Type} {m:Nat} {step:α->At->Option α} {put:α->Nat->List UInt8} {ok:α->Prop} {zero:α}
theorem Sch.run_put(S:Sch m step put ok zero){x:α}(hx:ok x):∀(n j:Nat) (y:α),ok y->j+n=m->(∀k,1<=k->k<=j->put y k=put x k)->(∀k,j<k->put y k=[])->
  ∃y',run step y (BQ (put x) n j)=some y'/\ok y'/\∀k,1<=k->k<=m->put y' k=put x k
 | 0,j,y,hy,hj,h1,h2=>⟨y,rfl,hy,fun k a b=>h1 k a (by omega)⟩
 |n+1,j,y,hy,hj,h1,h2=>by
  simp only[BQ,OQ]
  by_cases hne:put x (j+1)=[]
  ·rw[if_pos hne]
   exact S.run_put hx n (j+1) y hy (by omega) (fun k a b=>by
    rcases Nat.lt_or_ge k (j+1)with c|c
    ·exact h1 k a (by omega)
    ·have e:k=j+1:=by omega
     subst e;rw[hne];exact h2 _ (by omega)) (fun k hk=>h2 k (by omega))
  ·rw[if_neg hne]
   obtain⟨y1,e1⟩:=S.back x y (j+1) hx (by omega) (by omega)
   obtain⟨k1,k2,k3⟩:=S.is _ _ _ hy e1
   have k2:put y1 (j+1)=put x (j+1):=k2
   have k3:∀i,i≠j+1->put y1 i=put y i:=k3
   obtain⟨y',g1,g2,g3⟩:=S.run_put hx n (j+1) y1 k1 (by omega) (fun k a b=>by
    rcases Nat.lt_or_ge k (j+1)with c|c
    ·rw[k3 k (by omega)];exact h1 k a (by omega)
    ·have e:k=j+1:=by omega
     subst e;exact k2) (fun k hk=>by rw[k3 k (by omega)];exact h2 k (by omega))
   refine⟨y',?_,g2,g3⟩
   simp only[List.singleton_append,run,e1]
   exact g1
theorem Sch.run_back(S:Sch m step put ok zero){x:α}(hx:ok x):run step zero (BQ (put x) m 0)=some x:=by
 obtain⟨y,h1,h2,h3⟩:=S.run_put hx m 0 zero S.z (by omega) (fun k a b=>by omega) (fun k _=>S.z0 k)
 rw[h1,S.inj _ _ h2 hx h3]
theorem Sch.run_get(S:Sch m step put ok zero):∀(n j:Nat) (l:List At) (y x:α),ok y->JS j l=0->j+n=m->(∀k,j<k->put y k=[])->run step y l=some x->
  ok x/\(∀k,k<=j->put x k=put y k)/\l=BQ (put x) n j
 |n,j,[],y,x,hy,he,hj,h0,hr=>by
  simp only[run,Option.some.injEq]at hr;subst hr
  exact⟨hy,fun _ _=>rfl,(VI n j h0).symm⟩
 | 0,j,a::l,y,x,hy,he,hj,h0,hr=>by
  simp only[JS]at he
  split at he
  ·omega
  ·rename_i h1
   rw[run,S.no y a (by omega)]at hr;cases hr
 |n+1,j,a::l,y,x,hy,he,hj,h0,hr=>by
  have he0:=he
  simp only[JS]at he
  split at he
  ·omega
  ·rename_i h1
   split at he
   ·omega
   ·rename_i h2
    by_cases hat:a.t=j+1
    ·unfold run at hr
     split at hr
     ·rename_i y1 e1
      obtain⟨k1,k2,k3⟩:=S.is _ _ _ hy e1
      rw[hat]at k2 k3 he
      obtain⟨g1,g2,g3⟩:=S.run_get n (j+1) l y1 x k1 he (by omega) (fun k hk=>by rw[k3 k (by omega)];exact h0 k (by omega)) hr
      have hput:put x (j+1)=a.v.data.toList:=by rw[g2 _ (Nat.le_refl _),k2]
      refine⟨g1,fun k hk=>by rw[g2 k (by omega),k3 k (by omega)],?_⟩
      have hne:put x (j+1)≠[]:=by
       rw[hput];intro e
       exact h1 (.inr (by show a.v.data.toList.length=0;rw[e];rfl))
      simp only[BQ,OQ]
      rw[if_neg hne,←g3,hput,bytes_eta,List.singleton_append]
      congr 1
      cases a;simp only at hat;subst hat;rfl
     ·cases hr
    ·have he1:JS (j+1) (a::l)=0:=by
      simp only[JS]
      rw[if_neg (by omega),if_neg h2];exact he
     obtain⟨g1,g2,g3⟩:=S.run_get n (j+1) (a::l) y x hy he1 (by omega) (fun k hk=>h0 k (by omega)) hr
     refine⟨g1,fun k hk=>g2 k (by omega),?_⟩
     have hput:put x (j+1)=[]:=by rw[g2 _ (Nat.le_refl _)];exact h0 _ (by omega)
     simp only[BQ,OQ]
     rw[if_pos hput,←g3,List.nil_append]
def rdE(step:α->At->Option α)(zero:α)(s:List UInt8):Nat×α:=if (CP 0 s).1=0 then(match run step zero (CP 0 s).2 with
 |some x=>(0,x)
 |none=>(3,zero))else((CP 0 s).1,zero)
theorem Sch.encA(S:Sch m step put ok zero){x:α}(hx:ok x):JS 0 (BQ (put x) m 0)=0:=VG (fun k=>S.len x k hx) m 0 0 (Nat.le_refl _)
theorem Sch.tA(S:Sch m step put ok zero){x:α}:∀a∈BQ (put x) m 0,a.t<256:=fun a h=>by
 have:=bX m 0 a h;have:=S.m;omega
theorem Sch.encS_eq(S:Sch m step put ok zero){x:α}(hx:ok x):encS (BQ (put x) m 0)=KO (BQ (put x) m 0):=by unfold encS;rw[if_pos (S.encA hx)]
theorem Sch.rd_put(S:Sch m step put ok zero){x:α}(hx:ok x):rdE step zero (encS (BQ (put x) m 0))=(0,x):=by
 unfold rdE
 rw[S.encS_eq hx,dB _ 0 S.tA (S.encA hx),if_pos rfl,S.run_back hx]
theorem Sch.rd_ok(S:Sch m step put ok zero){s:List UInt8}{x:α}(h:rdE step zero s=(0,x)):ok x/\encS (BQ (put x) m 0)=s:=by
 unfold rdE at h
 split at h
 ·rename_i h0
  have hd:CP 0 s=(0,(CP 0 s).2):=Prod.ext h0 rfl
  obtain⟨k1,k2,k3⟩:=UK s.length s 0 _ (Nat.le_refl _) hd
  cases hr:run step zero (CP 0 s).2 with
  |none=>rw[hr]at h;simp at h
  |some y=>
   rw[hr]at h
   simp only[Prod.mk.injEq,true_and]at h
   subst h
   obtain⟨g1,_,g3⟩:=S.run_get m 0 _ zero y S.z k1 (by omega) (fun k _=>S.z0 k) hr
   refine⟨g1,?_⟩
   rw[S.encS_eq g1,←g3];exact k2
 ·rename_i h0
  simp only[Prod.mk.injEq]at h
  exact absurd h.1 h0
theorem Sch.put_zero(S:Sch m step put ok zero):encS (BQ (put zero) m 0)=[]:=by
 rw[S.encS_eq S.z,VI m 0 fun k _=>S.z0 k];rfl
theorem Sch.unlike(S:Sch m step put ok zero){x y:α}(hx:ok x)(hy:ok y):encS (BQ (put x) m 0)=encS (BQ (put y) m 0)↔x=y:=by
 constructor
 ·intro h
  have h1:=S.rd_put hx
  rw[h,S.rd_put hy]at h1
  simp only[Prod.mk.injEq,true_and]at h1
  exact h1.symm
 ·intro h;rw[h]
theorem Sch.nothing(S:Sch m step put ok zero){x:α}(hx:ok x):encS (BQ (put x) m 0)=[]↔x=zero:=by
 rw[←S.put_zero];exact S.unlike hx S.z
theorem iM:∀(l:List At) (last:Nat) (s:List UInt8),(∀a∈l,a.t<256)->JS last l=0->∃last',CP last (KO l++s)=QU l (CP last' s)/\(last'=last∨∃a∈l,last'=a.t)
 | [],last,s,_,_=>⟨last,(SI _ (MH _ _)).symm,.inl rfl⟩
 |a::l,last,s,ht,h=>by
  simp only[JS]at h
  split at h
  ·omega
  ·rename_i h1
   split at h
   ·omega
   ·rename_i h2
    have hat:=ht a (List.mem_cons_self ..)
    obtain⟨last',ih,hl⟩:=iM l a.t s (fun x hx=>ht x (List.mem_cons_of_mem _ hx)) h
    refine⟨last',?_,.inr ?_⟩
    ·have e1:(UInt8.ofNat a.t).toNat=a.t:=by simp;omega
     have e2:BX (UInt8.ofNat (a.len / 256 % 256)) (UInt8.ofNat (a.len % 256))=a.len:=XU (by omega)
     have hlen:a.v.data.toList.length=a.len:=rfl
     have e3:KO (a::l)++s=UInt8.ofNat a.t::UInt8.ofNat (a.len / 256 % 256)::UInt8.ofNat (a.len % 256)::(a.v.data.toList++(KO l++s)):=by
      show(UInt8.ofNat a.t::([UInt8.ofNat (a.len / 256 % 256),UInt8.ofNat (a.len % 256)]++a.v.data.toList))++KO l++s=_
      simp
     rw[e3,J7 (by rw[e1,e2];exact h1) (by rw[e2,List.length_append,hlen];omega),e1,e2]
     rw[show(a.v.data.toList++(KO l++s)).drop a.len=KO l++s by rw[←hlen,List.drop_left],show(a.v.data.toList++(KO l++s)).take a.len=a.v.data.toList by rw[←hlen,List.take_left],ih,bytes_eta]
     unfold QU NG
     by_cases h0:(CP last' s).1=0<;>simp[h0]
    ·rcases hl with hl|⟨b,hb,hl⟩
     ·exact⟨a,List.mem_cons_self ..,hl⟩
     ·exact⟨b,List.mem_cons_of_mem _ hb,hl⟩
theorem Sch.more(S:Sch m step put ok zero){x:α}(hx:ok x){t:Nat}{v:List UInt8}(ht:m<t)(ht2:t<256)(hv:v.length<=65535):
  rdE step zero (encS (BQ (put x) m 0)++(UInt8.ofNat t::(two v.length++v)))=(3,zero):=by
 obtain⟨last',h1,h2⟩:=iM (BQ (put x) m 0) 0 (UInt8.ofNat t::(two v.length++v)) S.tA (S.encA hx)
 have hlast:last'<=m:=by
  rcases h2 with h2|⟨a,ha,h2⟩
  ·omega
  ·have:=bX m 0 a ha;omega
 have e1:(UInt8.ofNat t).toNat=t:=by simp;omega
 have e2:=XU hv
 rw[←S.encS_eq hx]at h1
 have hd:CP last' (UInt8.ofNat t::(two v.length++v))=if v=[]then(3,[])else(0,[⟨t,bytesOf v⟩]):=by
  show CP last' (UInt8.ofNat t::UInt8.ofNat (v.length / 256 % 256)::UInt8.ofNat (v.length % 256)::v)=_
  by_cases h0:v=[]
  ·rw[if_pos h0,J6 (.inr (by rw[e2,h0];rfl))]
  ·have h3:v.length≠0:=fun e=>h0 (List.eq_nil_of_length_eq_zero e)
   rw[if_neg h0,J7 (by rw[e1,e2];omega) (by rw[e2];omega),e1,e2,List.drop_length,List.take_length,NY]
   rfl
 unfold rdE
 rw[h1,hd]
 by_cases h0:v=[]
 ·rw[if_pos h0];rfl
 ·rw[if_neg h0]
  have:run step zero (BQ (put x) m 0++[⟨t,bytesOf v⟩])=none:=by
   rw[zW,S.run_back hx]
   simp only[run]
   rw[S.no x _ (by show m<t;exact ht)]
  show(match run step zero (BQ (put x) m 0++[⟨t,bytesOf v⟩])with|some x=>(0,x)|none=>(3,zero))=_
  rw[this]
end
end Go.Tlv
