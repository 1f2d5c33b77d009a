/- Numbers, attributes, lists, as bytes: what the document says of them, in Lean. -/
import Derived.Test.YtblbaohcelldpaaWA
import Derived.Test.YtblbaohcelldpaaN1
set_option linter.all false
namespace Go.Tlv
open Go Go.Abs
def numB(n:Nat):List UInt8:=if h:n=0 then[]else numB (n / 256)++[UInt8.ofNat (n % 256)]
termination_by n
decreasing_by omega
theorem numB_zero:numB 0=[]:=by rw[numB];rfl
theorem numB_pos{n:Nat}(h:0<n):numB n=numB (n / 256)++[UInt8.ofNat (n % 256)]:=by rw[numB,dif_neg (by omega)]
def valF(a:Nat)(l:List UInt8):Nat:=l.foldl (fun a b=>a*256+b.toNat) a
def valB(l:List UInt8):Nat:=valF 0 l
theorem valB_snoc(l:List UInt8)(b:UInt8):valB (l++[b])=valB l*256+b.toNat:=by simp[valB,valF,List.foldl_append]
theorem valF_bound(l:List UInt8):∀a,valF a l<(a+1)*256 ^ l.length:=by
 induction l with
 |nil=>intro a;simp[valF]
 |cons b l ih=>
  intro a
  have h:=ih (a*256+b.toNat)
  have hb:=b.toNat_lt
  show valF (a*256+b.toNat) l<_
  rw[List.length_cons,Nat.pow_succ]
  calc valF (a*256+b.toNat) l<(a*256+b.toNat+1)*256 ^ l.length:=h
   _<=((a+1)*256)*256 ^ l.length:=Nat.mul_le_mul_right _ (by omega)
   _=(a+1)*(256 ^ l.length*256):=by rw[Nat.mul_assoc,Nat.mul_comm 256]
theorem valB_bound(l:List UInt8):valB l<256 ^ l.length:=by have:=valF_bound l 0;simpa [valB]using this
theorem numB_valB:∀(l:List UInt8),l[0]?≠some 0->numB (valB l)=l:=by
 intro l
 induction hn:l.length using Nat.strongRecOn generalizing l with
 |_ n ih=>
  intro h0
  rcases List.eq_nil_or_concat l with e|⟨m,b,e⟩
  ·subst e;show numB 0=[];exact numB_zero
  ·rw[List.concat_eq_append]at e
   subst e
   rw[valB_snoc]
   have hb:=b.toNat_lt
   by_cases hm:m=[]
   ·subst hm
    have hb0:b≠0:=by simpa using h0
    have:0<b.toNat:=by
     rcases Nat.eq_zero_or_pos b.toNat with h|h
     ·exact absurd (by apply UInt8.toNat_inj.1;simpa using h) hb0
     ·exact h
    show numB (0*256+b.toNat)=[b]
    rw[Nat.zero_mul,Nat.zero_add,numB_pos this,show b.toNat / 256=0 by omega,numB_zero,show b.toNat % 256=b.toNat by omega]
    simp
   ·have h1:m[0]?≠some 0:=by rw[List.getElem?_append_left (List.length_pos_iff.2 hm)]at h0;exact h0
    have ihm:=ih m.length (by rw[←hn];simp) m rfl h1
    have hpos:0<valB m:=by
     rcases Nat.eq_zero_or_pos (valB m)with h|h
     ·rw[h,numB_zero]at ihm;exact absurd ihm.symm hm
     ·exact h
    rw[numB_pos (by omega),show(valB m*256+b.toNat) / 256=valB m by omega,show(valB m*256+b.toNat) % 256=b.toNat by omega,ihm]
    simp
structure At where
 t:Nat
 v:ByteArray
def At.len(a:At):Nat:=a.v.data.toList.length
def rowA(a:At):Value := .agg ⟨[.int .u8 a.t,.string a.v]⟩
def two(n:Nat):List UInt8:=[UInt8.ofNat (n / 256 % 256),UInt8.ofNat (n % 256)]
def attB(a:At):List UInt8:=UInt8.ofNat a.t::(two a.len++a.v.data.toList)
def encE:Nat->List At->Nat
 |_,[]=>0
 |last,a::l=>if a.t<=last∨a.len=0 then 3 else if 65535<a.len then 5 else encE a.t l
def attsB(l:List At):List UInt8:=l.flatMap attB
def encS(l:List At):List UInt8:=if encE 0 l=0 then attsB l else[]
end Go.Tlv
namespace Go.Tlv
open Go Go.Abs
def num2(a b:UInt8):Nat:=a.toNat*256+b.toNat
theorem num2_lt(a b:UInt8):num2 a b<65536:=by have:=a.toNat_lt;have:=b.toNat_lt;unfold num2;omega
theorem two_num2(a b:UInt8):two (num2 a b)=[a,b]:=by
 have ha:=a.toNat_lt
 have hb:=b.toNat_lt
 unfold two num2
 rw[show(a.toNat*256+b.toNat) / 256 % 256=a.toNat by omega,show(a.toNat*256+b.toNat) % 256=b.toNat by omega]
 simp
theorem num2_two{n:Nat}(h:n<=65535):num2 (UInt8.ofNat (n / 256 % 256)) (UInt8.ofNat (n % 256))=n:=by
 unfold num2;simp;omega
def cons2{α:Type}(a:α)(q:Nat×List α):Nat×List α:=if q.1=0 then(0,a::q.2)else(q.1,[])
def app2{α:Type}(l:List α)(q:Nat×List α):Nat×List α:=if q.1=0 then(0,l++q.2)else(q.1,[])
theorem app2_nil{α:Type}(q:Nat×List α)(h:q.1≠0->q.2=[]):app2 [] q=q:=by
 obtain⟨e,l⟩:=q
 unfold app2;dsimp only at h ⊢
 split
 ·rename_i h0;rw[h0];rfl
 ·rename_i h0;rw[h h0]
theorem app2_cons{α:Type}(l:List α)(a:α)(q:Nat×List α):app2 l (cons2 a q)=app2 (l++[a]) q:=by
 unfold app2 cons2
 by_cases h:q.1=0
 ·simp[h]
 ·simp[h]
def decE(last:Nat)(s:List UInt8):Nat×List At:=
 match s with
 | []=>(0,[])
 | [_]=>(4,[])
 | [_,_]=>(4,[])
 |t::a::b::r=>
  if t.toNat<=last∨num2 a b=0 then(3,[])
  else if r.length<num2 a b then(4,[])
  else cons2 ⟨t.toNat,bytesOf (r.take (num2 a b))⟩ (decE t.toNat (r.drop (num2 a b)))
termination_by s.length
decreasing_by simp;omega
theorem decE_nil(last:Nat):decE last []=(0,[]):=by rw[decE]
theorem decE_short{last:Nat}{s:List UInt8}(h0:s≠[])(h:s.length<3):decE last s=(4,[]):=by
 match s,h0,h with
 | [_],_,_=>rw[decE]
 | [_,_],_,_=>rw[decE]
theorem decE_form{last:Nat}{t a b:UInt8}{r:List UInt8}(h:t.toNat<=last∨num2 a b=0):decE last (t::a::b::r)=(3,[]):=by rw[decE,if_pos h]
theorem decE_cut{last:Nat}{t a b:UInt8}{r:List UInt8}(h:¬(t.toNat<=last∨num2 a b=0))(h2:r.length<num2 a b):decE last (t::a::b::r)=(4,[]):=by rw[decE,if_neg h,if_pos h2]
theorem decE_step{last:Nat}{t a b:UInt8}{r:List UInt8}(h:¬(t.toNat<=last∨num2 a b=0))(h2:¬r.length<num2 a b):decE last (t::a::b::r)=cons2 ⟨t.toNat,bytesOf (r.take (num2 a b))⟩ (decE t.toNat (r.drop (num2 a b))):=by rw[decE,if_neg h,if_neg h2]
theorem cons2_err{α:Type}{a:α}{q:Nat×List α}(h:(cons2 a q).1≠0):(cons2 a q).2=[]:=by
 unfold cons2 at h ⊢
 split
 ·rename_i h0;rw[if_pos h0]at h;exact absurd rfl h
 ·rfl
theorem decE_err:∀(last:Nat) (s:List UInt8),(decE last s).1≠0->(decE last s).2=[]:=by
 intro last s h
 match s with
 | []=>rw[decE_nil]at h;exact absurd rfl h
 | [_]=>rw[decE_short (by simp) (by simp)]
 | [_,_]=>rw[decE_short (by simp) (by simp)]
 |t::a::b::r=>
  by_cases h1:t.toNat<=last∨num2 a b=0
  ·rw[decE_form h1]
  ·by_cases h2:r.length<num2 a b
   ·rw[decE_cut h1 h2]
   ·rw[decE_step h1 h2]at h ⊢;exact cons2_err h
theorem cons2_errs{α:Type}{a:α}{q:Nat×List α}(h:q.1=0∨q.1=3∨q.1=4):(cons2 a q).1=0∨(cons2 a q).1=3∨(cons2 a q).1=4:=by
 unfold cons2
 split
 ·exact .inl rfl
 ·exact h
theorem decE_errs:∀(n last:Nat) (s:List UInt8),s.length<=n->(decE last s).1=0∨(decE last s).1=3∨(decE last s).1=4
 |n,last,[],_=>by rw[decE_nil];exact .inl rfl
 |n,last,[_],_=>by rw[decE_short (by simp) (by simp)];exact .inr (.inr rfl)
 |n,last,[_,_],_=>by rw[decE_short (by simp) (by simp)];exact .inr (.inr rfl)
 | 0,last,_::_::_::_,h=>by simp at h
 |n+1,last,t::a::b::r,h=>by
  by_cases h1:t.toNat<=last∨num2 a b=0
  ·rw[decE_form h1];exact .inr (.inl rfl)
  ·by_cases h2:r.length<num2 a b
   ·rw[decE_cut h1 h2];exact .inr (.inr rfl)
   ·rw[decE_step h1 h2]
    exact cons2_errs (decE_errs n t.toNat _ (by simp at h ⊢;omega))
theorem decE_attsB:∀(l:List At) (last:Nat),(∀a∈l,a.t<256)->encE last l=0->decE last (attsB l)=(0,l)
 | [],last,_,_=>decE_nil last
 |a::l,last,ht,h=>by
  simp only[encE]at h
  split at h
  ·omega
  ·rename_i h1
   split at h
   ·omega
   ·rename_i h2
    have hat:=ht a (List.mem_cons_self ..)
    have ih:=decE_attsB l a.t (fun x hx=>ht x (List.mem_cons_of_mem _ hx)) h
    have e1:(UInt8.ofNat a.t).toNat=a.t:=by simp;omega
    have e2:num2 (UInt8.ofNat (a.len / 256 % 256)) (UInt8.ofNat (a.len % 256))=a.len:=num2_two (by omega)
    show decE last (UInt8.ofNat a.t::UInt8.ofNat (a.len / 256 % 256)::UInt8.ofNat (a.len % 256)::(a.v.data.toList++attsB l))=_
    have hlen:a.v.data.toList.length=a.len:=rfl
    rw[decE_step (by rw[e1,e2];exact h1) (by rw[e2,List.length_append,hlen];omega),e1,e2]
    rw[show(a.v.data.toList++attsB l).drop a.len=attsB l by rw[←hlen,List.drop_left],show(a.v.data.toList++attsB l).take a.len=a.v.data.toList by rw[←hlen,List.take_left],ih,bytes_eta]
    rfl
theorem cons2_ok{α:Type}{a:α}{q:Nat×List α}{l:List α}(h:cons2 a q=(0,l)):∃m,q=(0,m)/\l=a::m:=by
 obtain⟨e,m⟩:=q
 unfold cons2 at h
 split at h
 ·rename_i h0
  dsimp only at h0 h
  subst h0
  simp only[Prod.mk.injEq,true_and]at h
  exact⟨m,rfl,h.symm⟩
 ·rename_i h0
  simp only[Prod.mk.injEq]at h
  exact absurd h.1 h0
theorem decE_ok:∀(n:Nat) (s:List UInt8) (last:Nat) (l:List At),s.length<=n->decE last s=(0,l)->encE last l=0/\attsB l=s/\∀a∈l,a.t<256
 |n,[],last,l,_,h=>by
  rw[decE_nil]at h
  simp only[Prod.mk.injEq,true_and]at h
  subst h;exact⟨rfl,rfl,fun a ha=>by cases ha⟩
 |n,[_],last,l,_,h=>by rw[decE_short (by simp) (by simp)]at h;simp at h
 |n,[_,_],last,l,_,h=>by rw[decE_short (by simp) (by simp)]at h;simp at h
 | 0,_::_::_::_,last,l,hn,h=>by simp at hn
 |n+1,t::a::b::r,last,l,hn,h=>by
  by_cases h1:t.toNat<=last∨num2 a b=0
  ·rw[decE_form h1]at h;simp at h
  ·by_cases h2:r.length<num2 a b
   ·rw[decE_cut h1 h2]at h;simp at h
   ·rw[decE_step h1 h2]at h
    obtain⟨m,hq,rfl⟩:=cons2_ok h
    obtain⟨k1,k2,k3⟩:=decE_ok n (r.drop (num2 a b)) t.toNat m (by simp at hn ⊢;omega) hq
    have hlen:(⟨t.toNat,bytesOf (r.take (num2 a b))⟩:At).len=num2 a b:=by
     show(r.take (num2 a b)).length=_
     rw[List.length_take];omega
    have hlt:=num2_lt a b
    refine⟨?_,?_,?_⟩
    ·simp only[encE,hlen]
     rw[if_neg h1,if_neg (by omega)];exact k1
    ·show attB _++attsB m=_
     rw[k2]
     unfold attB
     rw[hlen,two_num2]
     show UInt8.ofNat t.toNat::([a,b]++r.take (num2 a b))++r.drop (num2 a b)=_
     simp
    ·intro x hx
     rcases List.mem_cons.1 hx with hx|hx
     ·subst hx;exact t.toNat_lt
     ·exact k3 x hx
def rnum(s:List UInt8)(top:Nat):Option Nat:=if 8<s.length∨s[0]?=some 0 then none else if top<valB s then none else some (valB s)
theorem rnum_ok{s:List UInt8}{n top:Nat}(h:rnum s top=some n):numB n=s/\n<=top/\n<18446744073709551616:=by
 unfold rnum at h
 split at h
 ·cases h
 ·rename_i h1
  split at h
  ·cases h
  ·simp only[Option.some.injEq]at h;subst h
   have h8:s.length<=8:=by
    rcases Nat.lt_or_ge 8 s.length with c|c
    ·exact absurd (.inl c) h1
    ·exact c
   refine⟨numB_valB s (fun c=>h1 (.inr c)),by omega,?_⟩
   have:=valB_bound s
   have h2:256 ^ s.length<=256 ^ 8:=Nat.pow_le_pow_right (by omega) h8
   have h3:(256:Nat) ^ 8=18446744073709551616:=by decide
   omega
def itB(s:ByteArray):List UInt8:=two s.data.toList.length++s.data.toList
def itsB(l:List ByteArray):List UInt8:=l.flatMap itB
def lstE(top k:Nat)(s:List UInt8):Nat×List ByteArray:=
 match s with
 | []=>(0,[])
 | [_]=>(4,[])
 |a::b::r=>
  if top<=k then(3,[])
  else if r.length<num2 a b then(4,[])
  else cons2 (bytesOf (r.take (num2 a b))) (lstE top (k+1) (r.drop (num2 a b)))
termination_by s.length
decreasing_by simp;omega
theorem lstE_nil(top k:Nat):lstE top k []=(0,[]):=by rw[lstE]
theorem lstE_short{top k:Nat}{s:List UInt8}(h0:s≠[])(h:s.length<2):lstE top k s=(4,[]):=by
 match s,h0,h with
 | [_],_,_=>rw[lstE]
theorem lstE_full{top k:Nat}{a b:UInt8}{r:List UInt8}(h:top<=k):lstE top k (a::b::r)=(3,[]):=by rw[lstE,if_pos h]
theorem lstE_cut{top k:Nat}{a b:UInt8}{r:List UInt8}(h:¬top<=k)(h2:r.length<num2 a b):lstE top k (a::b::r)=(4,[]):=by rw[lstE,if_neg h,if_pos h2]
theorem lstE_step{top k:Nat}{a b:UInt8}{r:List UInt8}(h:¬top<=k)(h2:¬r.length<num2 a b):lstE top k (a::b::r)=cons2 (bytesOf (r.take (num2 a b))) (lstE top (k+1) (r.drop (num2 a b))):=by rw[lstE,if_neg h,if_neg h2]
theorem lstE_err:∀(top k:Nat) (s:List UInt8),(lstE top k s).1≠0->(lstE top k s).2=[]:=by
 intro top k s h
 match s with
 | []=>rw[lstE_nil]at h;exact absurd rfl h
 | [_]=>rw[lstE_short (by simp) (by simp)]
 |a::b::r=>
  by_cases h1:top<=k
  ·rw[lstE_full h1]
  ·by_cases h2:r.length<num2 a b
   ·rw[lstE_cut h1 h2]
   ·rw[lstE_step h1 h2]at h ⊢;exact cons2_err h
theorem lstE_errs:∀(n top k:Nat) (s:List UInt8),s.length<=n->(lstE top k s).1=0∨(lstE top k s).1=3∨(lstE top k s).1=4
 |n,top,k,[],_=>by rw[lstE_nil];exact .inl rfl
 |n,top,k,[_],_=>by rw[lstE_short (by simp) (by simp)];exact .inr (.inr rfl)
 | 0,top,k,_::_::_,h=>by simp at h
 |n+1,top,k,a::b::r,h=>by
  by_cases h1:top<=k
  ·rw[lstE_full h1];exact .inr (.inl rfl)
  ·by_cases h2:r.length<num2 a b
   ·rw[lstE_cut h1 h2];exact .inr (.inr rfl)
   ·rw[lstE_step h1 h2]
    exact cons2_errs (lstE_errs n top (k+1) _ (by simp at h ⊢;omega))
theorem lstE_ok:∀(n:Nat) (s:List UInt8) (top k:Nat) (l:List ByteArray),s.length<=n->lstE top k s=(0,l)->itsB l=s/\(k+l.length<=top∨l=[])/\∀a∈l,a.data.toList.length<=65535
 |n,[],top,k,l,_,h=>by
  rw[lstE_nil]at h
  simp only[Prod.mk.injEq,true_and]at h
  subst h;exact⟨rfl,.inr rfl,fun a ha=>by cases ha⟩
 |n,[_],top,k,l,_,h=>by rw[lstE_short (by simp) (by simp)]at h;simp at h
 | 0,_::_::_,top,k,l,hn,h=>by simp at hn
 |n+1,a::b::r,top,k,l,hn,h=>by
  by_cases h1:top<=k
  ·rw[lstE_full h1]at h;simp at h
  ·by_cases h2:r.length<num2 a b
   ·rw[lstE_cut h1 h2]at h;simp at h
   ·rw[lstE_step h1 h2]at h
    obtain⟨m,hq,rfl⟩:=cons2_ok h
    obtain⟨k1,k2,k3⟩:=lstE_ok n (r.drop (num2 a b)) top (k+1) m (by simp at hn ⊢;omega) hq
    have hlen:(r.take (num2 a b)).length=num2 a b:=by rw[List.length_take];omega
    have hlt:=num2_lt a b
    refine⟨?_,?_,?_⟩
    ·show itB _++itsB m=_
     rw[k1]
     unfold itB
     rw[bytes_toList,hlen,two_num2]
     show[a,b]++r.take (num2 a b)++r.drop (num2 a b)=_
     simp
    ·left
     rw[List.length_cons]
     rcases k2 with k2|k2
     ·omega
     ·subst k2;simp;omega
    ·intro x hx
     rcases List.mem_cons.1 hx with hx|hx
     ·subst hx;show(r.take (num2 a b)).length<=_;omega
     ·exact k3 x hx
def run{α:Type}(step:α->At->Option α):α->List At->Option α
 |x,[]=>some x
 |x,a::l=>match step x a with
  |some y=>run step y l
  |none=>none
theorem run_app{α:Type}{step:α->At->Option α}:∀(l m:List At) (x:α),run step x (l++m)=match run step x l with
  |some y=>run step y m
  |none=>none
 | [],m,x=>rfl
 |a::l,m,x=>by
  show(match step x a with|some y=>run step y (l++m)|none=>none)=match (match step x a with|some y=>run step y l|none=>none)with|some y=>run step y m|none=>none
  cases step x a with
  |none=>rfl
  |some y=>exact run_app l m y
def mapO{α β:Type}(f:α->Option β):List α->Option (List β)
 | []=>some []
 |a::l=>match f a,mapO f l with
  |some b,some m=>some (b::m)
  |_,_=>none
theorem mapO_app{α β:Type}{f:α->Option β}:∀(l m:List α),mapO f (l++m)=match mapO f l,mapO f m with
  |some x,some y=>some (x++y)
  |_,_=>none
 | [],m=>by
  show mapO f m=_
  cases h:mapO f m<;>simp[mapO]
 |a::l,m=>by
  simp only[List.cons_append,mapO,mapO_app l m]
  cases f a<;>cases mapO f l<;>cases mapO f m<;>rfl
end Go.Tlv
namespace Go.Tlv
open Go Go.Abs
def one1(k:Nat)(s:List UInt8):List At:=if s=[]then[]else[⟨k,bytesOf s⟩]
def atFrom(f:Nat->List UInt8):Nat->Nat->List At
 | 0,_=>[]
 |n+1,j=>one1 (j+1) (f (j+1))++atFrom f n (j+1)
theorem atFrom_nil{f:Nat->List UInt8}:∀(n j:Nat),(∀k,j<k->f k=[])->atFrom f n j=[]
 | 0,_,_=>rfl
 |n+1,j,h=>by
  simp only[atFrom,h (j+1) (by omega),one1,if_true,List.nil_append]
  exact atFrom_nil n (j+1) fun k hk=>h k (by omega)
theorem atFrom_enc{f:Nat->List UInt8}(hf:∀k,(f k).length<=65535):∀(n j last:Nat),last<=j->encE last (atFrom f n j)=0
 | 0,_,_,_=>rfl
 |n+1,j,last,h=>by
  simp only[atFrom,one1]
  split
  ·exact atFrom_enc hf n (j+1) last (by omega)
  ·rename_i hne
   have hl:(⟨j+1,bytesOf (f (j+1))⟩:At).len=(f (j+1)).length:=rfl
   have h0:(f (j+1)).length≠0:=fun e=>hne (List.eq_nil_of_length_eq_zero e)
   have h1:=hf (j+1)
   simp only[List.singleton_append,encE,hl]
   rw[if_neg (by omega),if_neg (by omega)]
   exact atFrom_enc hf n (j+1) (j+1) (Nat.le_refl _)
theorem atFrom_t{f:Nat->List UInt8}:∀(n j:Nat),∀a∈atFrom f n j,a.t<=j+n
 | 0,_,a,h=>by cases h
 |n+1,j,a,h=>by
  simp only[atFrom,List.mem_append]at h
  rcases h with h|h
  ·unfold one1 at h
   split at h
   ·cases h
   ·simp only[List.mem_singleton]at h;subst h;show j+1<=_;omega
  ·have:=atFrom_t n (j+1) a h;omega
structure Sch{α:Type}(m:Nat)(step:α->At->Option α)(put:α->Nat->List UInt8)(ok:α->Prop)(zero:α):Prop where
 no:∀y a,m<a.t->step y a=none
 is:∀y a y',ok y->step y a=some y'->ok y'/\put y' a.t=a.v.data.toList/\∀j,j≠a.t->put y' j=put y j
 back:∀x y k,ok x->1<=k->k<=m->∃y',step y ⟨k,bytesOf (put x k)⟩=some y'
 inj:∀x y,ok x->ok y->(∀k,1<=k->k<=m->put x k=put y k)->x=y
 z:ok zero
 z0:∀k,put zero k=[]
 len:∀x k,ok x->(put x k).length<=65535
 m:m<=255
section
variable {α:Type} {m:Nat} {step:α->At->Option α} {put:α->Nat->List UInt8} {ok:α->Prop} {zero:α}
theorem Sch.run_put(S:Sch m step put ok zero){x:α}(hx:ok x):∀(n j:Nat) (y:α),ok y->j+n=m->(∀k,1<=k->k<=j->put y k=put x k)->(∀k,j<k->put y k=[])->
  ∃y',run step y (atFrom (put x) n j)=some y'/\ok y'/\∀k,1<=k->k<=m->put y' k=put x k
 | 0,j,y,hy,hj,h1,h2=>⟨y,rfl,hy,fun k a b=>h1 k a (by omega)⟩
 |n+1,j,y,hy,hj,h1,h2=>by
  simp only[atFrom,one1]
  by_cases hne:put x (j+1)=[]
  ·rw[if_pos hne]
   exact S.run_put hx n (j+1) y hy (by omega) (fun k a b=>by
    rcases Nat.lt_or_ge k (j+1)with c|c
    ·exact h1 k a (by omega)
    ·have e:k=j+1:=by omega
     subst e;rw[hne];exact h2 _ (by omega)) (fun k hk=>h2 k (by omega))
  ·rw[if_neg hne]
   obtain⟨y1,e1⟩:=S.back x y (j+1) hx (by omega) (by omega)
   obtain⟨k1,k2,k3⟩:=S.is _ _ _ hy e1
   have k2:put y1 (j+1)=put x (j+1):=k2
   have k3:∀i,i≠j+1->put y1 i=put y i:=k3
   obtain⟨y',g1,g2,g3⟩:=S.run_put hx n (j+1) y1 k1 (by omega) (fun k a b=>by
    rcases Nat.lt_or_ge k (j+1)with c|c
    ·rw[k3 k (by omega)];exact h1 k a (by omega)
    ·have e:k=j+1:=by omega
     subst e;exact k2) (fun k hk=>by rw[k3 k (by omega)];exact h2 k (by omega))
   refine⟨y',?_,g2,g3⟩
   simp only[List.singleton_append,run,e1]
   exact g1
theorem Sch.run_back(S:Sch m step put ok zero){x:α}(hx:ok x):run step zero (atFrom (put x) m 0)=some x:=by
 obtain⟨y,h1,h2,h3⟩:=S.run_put hx m 0 zero S.z (by omega) (fun k a b=>by omega) (fun k _=>S.z0 k)
 rw[h1,S.inj _ _ h2 hx h3]
def rdE(step:α->At->Option α)(zero:α)(s:List UInt8):Nat×α:=if (decE 0 s).1=0 then(match run step zero (decE 0 s).2 with
 |some x=>(0,x)
 |none=>(3,zero))else((decE 0 s).1,zero)
theorem Sch.encA(S:Sch m step put ok zero){x:α}(hx:ok x):encE 0 (atFrom (put x) m 0)=0:=atFrom_enc (fun k=>S.len x k hx) m 0 0 (Nat.le_refl _)
theorem Sch.tA(S:Sch m step put ok zero){x:α}:∀a∈atFrom (put x) m 0,a.t<256:=fun a h=>by
 have:=atFrom_t m 0 a h;have:=S.m;omega
theorem Sch.encS_eq(S:Sch m step put ok zero){x:α}(hx:ok x):encS (atFrom (put x) m 0)=attsB (atFrom (put x) m 0):=by unfold encS;rw[if_pos (S.encA hx)]
theorem Sch.rd_put(S:Sch m step put ok zero){x:α}(hx:ok x):rdE step zero (encS (atFrom (put x) m 0))=(0,x):=by
 unfold rdE
 rw[S.encS_eq hx,decE_attsB _ 0 S.tA (S.encA hx),if_pos rfl,S.run_back hx]
theorem Sch.put_zero(S:Sch m step put ok zero):encS (atFrom (put zero) m 0)=[]:=by
 rw[S.encS_eq S.z,atFrom_nil m 0 fun k _=>S.z0 k];rfl
theorem Sch.unlike(S:Sch m step put ok zero){x y:α}(hx:ok x)(hy:ok y):encS (atFrom (put x) m 0)=encS (atFrom (put y) m 0)↔x=y:=by
 constructor
 ·intro h
  have h1:=S.rd_put hx
  rw[h,S.rd_put hy]at h1
  simp only[Prod.mk.injEq,true_and]at h1
  exact h1.symm
 ·intro h;rw[h]
theorem Sch.nothing(S:Sch m step put ok zero){x:α}(hx:ok x):encS (atFrom (put x) m 0)=[]↔x=zero:=by
 rw[←S.put_zero];exact S.unlike hx S.z
theorem decE_more:∀(l:List At) (last:Nat) (s:List UInt8),(∀a∈l,a.t<256)->encE last l=0->∃last',decE last (attsB l++s)=app2 l (decE last' s)/\(last'=last∨∃a∈l,last'=a.t)
 | [],last,s,_,_=>⟨last,(app2_nil _ (decE_err _ _)).symm,.inl rfl⟩
 |a::l,last,s,ht,h=>by
  simp only[encE]at h
  split at h
  ·omega
  ·rename_i h1
   split at h
   ·omega
   ·rename_i h2
    have hat:=ht a (List.mem_cons_self ..)
    obtain⟨last',ih,hl⟩:=decE_more l a.t s (fun x hx=>ht x (List.mem_cons_of_mem _ hx)) h
    refine⟨last',?_,.inr ?_⟩
    ·have e1:(UInt8.ofNat a.t).toNat=a.t:=by simp;omega
     have e2:num2 (UInt8.ofNat (a.len / 256 % 256)) (UInt8.ofNat (a.len % 256))=a.len:=num2_two (by omega)
     have hlen:a.v.data.toList.length=a.len:=rfl
     have e3:attsB (a::l)++s=UInt8.ofNat a.t::UInt8.ofNat (a.len / 256 % 256)::UInt8.ofNat (a.len % 256)::(a.v.data.toList++(attsB l++s)):=by
      show(UInt8.ofNat a.t::([UInt8.ofNat (a.len / 256 % 256),UInt8.ofNat (a.len % 256)]++a.v.data.toList))++attsB l++s=_
      simp
     rw[e3,decE_step (by rw[e1,e2];exact h1) (by rw[e2,List.length_append,hlen];omega),e1,e2]
     rw[show(a.v.data.toList++(attsB l++s)).drop a.len=attsB l++s by rw[←hlen,List.drop_left],show(a.v.data.toList++(attsB l++s)).take a.len=a.v.data.toList by rw[←hlen,List.take_left],ih,bytes_eta]
     unfold app2 cons2
     by_cases h0:(decE last' s).1=0<;>simp[h0]
    ·rcases hl with hl|⟨b,hb,hl⟩
     ·exact⟨a,List.mem_cons_self ..,hl⟩
     ·exact⟨b,List.mem_cons_of_mem _ hb,hl⟩
theorem Sch.more(S:Sch m step put ok zero){x:α}(hx:ok x){t:Nat}{v:List UInt8}(ht:m<t)(ht2:t<256)(hv:v.length<=65535):
  rdE step zero (encS (atFrom (put x) m 0)++(UInt8.ofNat t::(two v.length++v)))=(3,zero):=by
 obtain⟨last',h1,h2⟩:=decE_more (atFrom (put x) m 0) 0 (UInt8.ofNat t::(two v.length++v)) S.tA (S.encA hx)
 have hlast:last'<=m:=by
  rcases h2 with h2|⟨a,ha,h2⟩
  ·omega
  ·have:=atFrom_t m 0 a ha;omega
 have e1:(UInt8.ofNat t).toNat=t:=by simp;omega
 have e2:=num2_two hv
 rw[←S.encS_eq hx]at h1
 have hd:decE last' (UInt8.ofNat t::(two v.length++v))=if v=[]then(3,[])else(0,[⟨t,bytesOf v⟩]):=by
  show decE last' (UInt8.ofNat t::UInt8.ofNat (v.length / 256 % 256)::UInt8.ofNat (v.length % 256)::v)=_
  by_cases h0:v=[]
  ·rw[if_pos h0,decE_form (.inr (by rw[e2,h0];rfl))]
  ·have h3:v.length≠0:=fun e=>h0 (List.eq_nil_of_length_eq_zero e)
   rw[if_neg h0,decE_step (by rw[e1,e2];omega) (by rw[e2];omega),e1,e2,List.drop_length,List.take_length,decE_nil]
   rfl
 unfold rdE
 rw[h1,hd]
 by_cases h0:v=[]
 ·rw[if_pos h0];rfl
 ·rw[if_neg h0]
  have:run step zero (atFrom (put x) m 0++[⟨t,bytesOf v⟩])=none:=by
   rw[run_app,S.run_back hx]
   simp only[run]
   rw[S.no x _ (by show m<t;exact ht)]
  show(match run step zero (atFrom (put x) m 0++[⟨t,bytesOf v⟩])with|some x=>(0,x)|none=>(3,zero))=_
  rw[this]
end
end Go.Tlv
namespace Go.Tlv
open Go Go.Abs
def addT(l:List At)(k:Nat)(s:ByteArray):List At:=if s.data.toList=[]then l else l++[⟨k,s⟩]
def addN(l:List At)(k n:Nat):List At:=addT l k (bytesOf (numB n))
def atC(a:At):List Value:=[.int .u8 (a.t:Int),.string a.v]
def cellsA(l:List At):List Value:=l.flatMap atC
theorem cellsA_app(l m:List At):cellsA (l++m)=cellsA l++cellsA m:=by simp[cellsA]
theorem cellsA_len(l:List At):(cellsA l).length=l.length*2:=by
 induction l with
 |nil=>rfl
 |cons a l ih=>show((atC a)++cellsA l).length=_;rw[List.length_append,ih,List.length_cons];simp[atC];omega
theorem cellsA_below(l:List At):belowL 0 (cellsA l)=true:=by
 induction l with
 |nil=>rfl
 |cons a l ih=>show(true&&(true&&belowL 0 (cellsA l)))=true;rw[ih];rfl
theorem flatA(l:List At):flatRows 2 (l.map rowA)=some (cellsA l):=by
 induction l with
 |nil=>rfl
 |cons a l ih=>
  show flatRows 2 (.agg ⟨[.int .u8 (a.t:Int),.string a.v]⟩::l.map rowA)=_
  simp only[flatRows,ih];rfl
theorem addT_ne{l:List At}{k:Nat}{s:ByteArray}(h:l≠[]):addT l k s≠[]:=by
 unfold addT;split
 ·exact h
 ·simp
def okI(n:Int):Bool:=decide (0<=n)&&decide (n<=2147483647)
structure Arm where
 v:Nat
 nx:Int
structure Instr where
 op:Nat
 to:Int
 ak:Nat
 an:Nat
 bk:Nat
 bn:Nat
 n:Int
structure Bucket where
 w:Nat
 b:Int
def cArm(x:Arm):List Value:=[.int .u32 (x.v:Int),.int .i64 x.nx]
def cInstr(x:Instr):List Value:=[.int .u8 (x.op:Int),.int .i64 x.to,.int .u8 (x.ak:Int),.int .u64 (x.an:Int),.int .u8 (x.bk:Int),.int .u64 (x.bn:Int),.int .i64 x.n]
def cBucket(x:Bucket):List Value:=[.int .u64 (x.w:Int),.int .i64 x.b]
def cInt(n:Int):List Value:=[.int .i64 n]
def rowsOf{α:Type}(c:α->List Value)(l:List α):List Value:=l.map fun x => .agg ⟨c x⟩
theorem rowsOf_get{α:Type}{c:α->List Value}{l:List α}{i:Nat}{x:α}(h:l[i]?=some x):(rowsOf c l)[i]?=some (.agg ⟨c x⟩):=by unfold rowsOf;rw[List.getElem?_map,h];rfl
theorem rowsOf_len{α:Type}(c:α->List Value)(l:List α):(rowsOf c l).length=l.length:=by simp[rowsOf]
def cNat(n:Nat):List Value:=[.int .u64 (n:Int)]
structure ONode where
 id:Int
 size:Int
 lo:Int
 lw:Int
 lu:Int
 so:Int
 sw:Int
 arms:List Arm
 ot:Int
def vNode(x:ONode):Value := .agg ⟨[.int .i64 x.id,.int .i64 x.size,.int .i64 x.lo,.int .i64 x.lw,.int .i64 x.lu,.int .i64 x.so,.int .i64 x.sw,dsl (rowsOf cArm x.arms),.int .i64 x.ot]⟩
def fitNode(x:ONode):Prop:=x.arms.length<1000000000
structure OField where
 id:Int
 base:Nat
 node:Int
 off:Int
 wid:Int
def vField(x:OField):Value := .agg ⟨[.int .i64 x.id,.int .u8 (x.base:Int),.int .i64 x.node,.int .i64 x.off,.int .i64 x.wid]⟩
structure OTable where
 id:Int
 kind:Nat
 keys:List Int
 cap:Int
 miss:Int
def vTable(x:OTable):Value := .agg ⟨[.int .i64 x.id,.int .u8 (x.kind:Int),dsl (rowsOf cInt x.keys),.int .i64 x.cap,.int .i64 x.miss]⟩
def fitTable(x:OTable):Prop:=x.keys.length<1000000000
structure OEntry where
 tab:Int
 key:ByteArray
 oth:ByteArray
 len:Int
 prio:Int
 blk:Int
 args:List Nat
 idle:Int
 hard:Int
 cook:Nat
 tell:Bool
def vEntry(x:OEntry):Value := .agg ⟨[.int .i64 x.tab,.string x.key,.string x.oth,.int .i64 x.len,.int .i64 x.prio,.int .i64 x.blk,dsl (rowsOf cNat x.args),.int .i64 x.idle,.int .i64 x.hard,.int .u64 (x.cook:Int),.bool x.tell]⟩
def fitEntry(x:OEntry):Prop:=x.args.length<1000000000
structure OBlock where
 id:Int
 code:List Instr
def vBlock(x:OBlock):Value := .agg ⟨[.int .i64 x.id,dsl (rowsOf cInstr x.code)]⟩
def fitBlock(x:OBlock):Prop:=x.code.length<1000000000
structure OGroup where
 id:Int
 kind:Nat
 fld:Int
 bks:List Bucket
def vGroup(x:OGroup):Value := .agg ⟨[.int .i64 x.id,.int .u8 (x.kind:Int),.int .i64 x.fld,dsl (rowsOf cBucket x.bks)]⟩
def fitGroup(x:OGroup):Prop:=x.bks.length<1000000000
structure OMeter where
 id:Int
 rate:Int
 burst:Int
def vMeter(x:OMeter):Value := .agg ⟨[.int .i64 x.id,.int .i64 x.rate,.int .i64 x.burst]⟩
structure ORegs where
 id:Int
 size:Int
def vRegs(x:ORegs):Value := .agg ⟨[.int .i64 x.id,.int .i64 x.size]⟩
abbrev slen(s:ByteArray):Nat:=s.data.toList.length
def listE:List ByteArray->Nat
 | []=>0
 |s::l=>if 65535<slen s then 5 else listE l
def itemB(s:ByteArray):List UInt8:=two (slen s)++s.data.toList
def listBB(l:List ByteArray):List UInt8:=l.flatMap itemB
def listS(l:List ByteArray):List UInt8:=if listE l=0 then listBB l else[]
structure OMsg where
 a0:Nat
 a1:Nat
 a2:Int
 a3:Int
 a4:Int
 a5:Int
 a6:Int
 a7:Nat
 a8:Nat
 a9:ByteArray
 a10:List Nat
 n:ONode
 f:OField
 t:OTable
 e:OEntry
 b:OBlock
 g:OGroup
 m:OMeter
 r:ORegs
def vMsg(x:OMsg):Value := .agg ⟨[.int .u8 (x.a0:Int),.int .u32 (x.a1:Int),.int .i64 x.a2,.int .i64 x.a3,.int .i64 x.a4,.int .i64 x.a5,.int .i64 x.a6,.int .u64 (x.a7:Int),.int .u64 (x.a8:Int),.string x.a9,dsl (rowsOf cNat x.a10),.int .i64 x.n.id,.int .i64 x.n.size,.int .i64 x.n.lo,.int .i64 x.n.lw,.int .i64 x.n.lu,.int .i64 x.n.so,.int .i64 x.n.sw,dsl (rowsOf cArm x.n.arms),.int .i64 x.n.ot,.int .i64 x.f.id,.int .u8 (x.f.base:Int),.int .i64 x.f.node,.int .i64 x.f.off,.int .i64 x.f.wid,.int .i64 x.t.id,.int .u8 (x.t.kind:Int),dsl (rowsOf cInt x.t.keys),.int .i64 x.t.cap,.int .i64 x.t.miss,.int .i64 x.e.tab,.string x.e.key,.string x.e.oth,.int .i64 x.e.len,.int .i64 x.e.prio,.int .i64 x.e.blk,dsl (rowsOf cNat x.e.args),.int .i64 x.e.idle,.int .i64 x.e.hard,.int .u64 (x.e.cook:Int),.bool x.e.tell,.int .i64 x.b.id,dsl (rowsOf cInstr x.b.code),.int .i64 x.g.id,.int .u8 (x.g.kind:Int),.int .i64 x.g.fld,dsl (rowsOf cBucket x.g.bks),.int .i64 x.m.id,.int .i64 x.m.rate,.int .i64 x.m.burst,.int .i64 x.r.id,.int .i64 x.r.size]⟩
theorem flat_of{α:Type}{c:α->List Value}{n:Nat}(hc:∀x,(c x).length=n)(l:List α):flatRows n (rowsOf c l)=some (l.flatMap c):=by
 induction l with
 |nil=>rfl
 |cons a l ih=>
  show flatRows n (.agg ⟨c a⟩::rowsOf c l)=_
  simp only[flatRows,ih,hc a,Nat.beq_refl,List.flatMap_cons]
theorem below_of{α:Type}{c:α->List Value}(hc:∀x m,belowL 0 m=true->belowL 0 (c x++m)=true)(l:List α):belowL 0 (l.flatMap c)=true:=by
 induction l with
 |nil=>rfl
 |cons a l ih=>rw[List.flatMap_cons];exact hc a _ ih
end Go.Tlv
namespace Go.Proofs.Ytblbaohcelldpaa.Ob
open Go Go.Abs Go.Tlv
noncomputable section
abbrev RK:=Value->List (Option AObj)->Prop
def h0:Heap:=hOf 100 [] []
set_option maxRecDepth 100000
end
end Go.Proofs.Ytblbaohcelldpaa.Ob
namespace Go.Abs
open Go
noncomputable section
section
variable {P:Program} {G:Nat} {B:Base}
theorem rel_pad{F:Nm}{w:World}{objs:List (Option AObj)}(R:Rel G F (hOf G [] objs) B w):Rel G F (hOf G [] (objs++[none])) B w:=by
 have key:∀n o,(hOf G [] (objs++[none])).get n=some o->(hOf G [] objs).get n=some o:=by
  intro n o h
  obtain⟨h1,h2,h3⟩:=hOf_at h
  rw[List.getElem?_append]at h3
  split at h3
  ·have:=hOf_of (G:=G) h3
   rw[show G+(n-G)=n by omega]at this;exact this
  ·rename_i hge
   rw[List.getElem?_singleton]at h3
   split at h3<;>cases h3
 constructor
 ·intro n o h;exact R.obj n o (key n o h)
 ·intro n m o o' h h' hne how;exact R.inj n m o o' (key n o h) (key m o' h') hne how
 ·intro n h
  refine R.fresh n ?_
  have h:G+(objs++[none]).length<=n:=h
  rw[List.length_append]at h
  show G+objs.length<=n
  omega
 ·exact R.glob
 ·exact R.base
 ·exact R.frame
 ·intro b i v hz;exact⟨(R.froz b i v hz).1,fun n o h how=>(R.froz b i v hz).2 n o (key n o h) how⟩
 ·exact R.zprot
 ·exact R.os
 ·exact R.out
 ·exact R.tape
theorem wk_pad{n0:Nat}{vals:List Value}{objs:List (Option AObj)}:Wk G n0 vals objs vals (objs++[none]):=
 ⟨rfl,fun B F w R=>⟨F,Agree.refl _ _,rel_pad R,fun i v v' x h1 h2 h=>by rw[h1]at h2;simp only[Option.some.injEq]at h2;subst h2;exact h⟩⟩
theorem wk_tau{n0:Nat}{τ:Nat->Nat}{vals vals':List Value}{objs objs':List (Option AObj)}(hv:vals=vals'.map (vren τ))(hG:G<=n0)(h0:∀n,n<n0->τ n=n)(hge:∀n,G<=n->G<=τ n)(hfr:∀n,G+objs'.length<=n->G+objs.length<=τ n)
  (hinj:∀(i j:Nat) o o',objs'[i]?=some (some o)->objs'[j]?=some (some o')->τ (G+i)=τ (G+j)->i=j) (ho:∀(i:Nat) o,objs'[i]?=some (some o)->objs[τ (G+i)-G]?=some (some (oren τ o))):Wk G n0 vals objs vals' objs':=by
 refine⟨by rw[hv,List.length_map],fun B F w R=>⟨F.re τ,⟨fun n hn => .inl (by simp only[Nm.re,h0 n hn]),zle_refl _⟩,?_,fun i v v' x h1 h2 hx=>?_⟩⟩
 ·have hget:∀n o,(hOf G [] objs').get n=some o->G<=n/\objs'[n-G]?=some (some o)/\(hOf G [] objs).get (τ n)=some (oren τ o):=by
   intro n o h
   obtain⟨h1,h2,h3⟩:=hOf_at h
   have h4:=hOf_of (G:=G) (ho _ _ h3)
   have e1:G+(n-G)=n:=by omega
   rw[e1]at h4
   have h5:=hge n h1
   rw[show G+(τ n-G)=τ n by omega]at h4
   exact⟨h1,h3,h4⟩
  constructor
  ·intro n o h
   exact objR_ren (R.obj _ _ (hget n o h).2.2)
  ·intro n m o o' h h' hne how
   obtain⟨g1,g2,g3⟩:=hget n o h
   obtain⟨k1,k2,k3⟩:=hget m o' h'
   refine R.inj _ _ _ _ g3 k3 (fun e=>hne ?_) (by rw[oren_own];exact how)
   have:=hinj (n-G) (m-G) o o' g2 k2 (by rw[show G+(n-G)=n by omega,show G+(m-G)=m by omega];exact e)
   omega
  ·intro n h
   exact R.fresh _ (hfr n h)
  ·intro g hg
   simp only[Nm.re,h0 g (by omega)];exact R.glob g hg
  ·exact R.base
  ·exact R.frame
  ·intro b i v hz
   exact⟨(R.froz b i v hz).1,fun n o hn how=>(R.froz b i v hz).2 _ _ (hget n o hn).2.2 (by rw[oren_own];exact how)⟩
  ·exact R.zprot
  ·exact R.os
  ·exact R.out
  ·exact R.tape
 ·rw[hv,List.getElem?_map,h2]at h1
  simp only[Option.map_some,Option.some.injEq]at h1
  rw[←h1]at hx
  exact(VR_ren _ _).1 hx
theorem wk_drop{k0:Nat}{vals:List Value}{pre extra:List (Option AObj)}(hk:pre.length=k0)(hv:belowL (G+k0) vals=true)(ho:∀(i:Nat) o,pre[i]?=some (some o)->belowO (G+k0) (some o)=true):Wk G (G+k0) vals (pre++extra) vals pre:=by
 have hτ:∀n,n<G+k0->(if n<G+k0 then n else n+extra.length)=n:=fun n h=>if_pos h
 refine wk_tau (τ:=fun n=>if n<G+k0 then n else n+extra.length) ?_ (by omega) hτ (fun n hn=>?_) (fun n hn=>?_) (fun i j o o' hi hj e=>?_) (fun i o hi=>?_)
 ·rw[←vrenL_map,vrenL_below hτ vals hv]
 ·show G<=if n<G+k0 then n else n+extra.length
  split<;>omega
 ·show G+(pre++extra).length<=if n<G+k0 then n else n+extra.length
  rw[if_neg (by omega),List.length_append];omega
 ·have h1:=(List.getElem?_eq_some_iff.1 hi).1
  have h2:=(List.getElem?_eq_some_iff.1 hj).1
  simp only[hτ _ (show G+i<G+k0 by omega),hτ _ (show G+j<G+k0 by omega)]at e
  omega
 ·have h1:=(List.getElem?_eq_some_iff.1 hi).1
  simp only[hτ _ (show G+i<G+k0 by omega),Nat.add_sub_cancel_left]
  rw[List.getElem?_append_left h1,hi]
  exact congrArg (fun x=>some (some x)) (oren_below hτ (ho i o hi)).symm
theorem wk_outG{k0 j k:Nat}{va rest:List Value}{objs pre:List (Option AObj)}{vs:List Value}{e sz:Nat}(hj:k0<=j)(ho:objs[j]?=some (some (.cells vs e sz true true)))(hv:belowL 0 vs=true)(hva:belowL (100+k0) va=true)(hr:belowL (100+k0) rest=true)(hk:k≠0)
  (hp:pre.length=k0) (hpre:∀(i:Nat) o,pre[i]?=some (some o)->objs[i]?=some (some o)/\belowO (100+k0) (some o)=true):
  Wk 100 (100+k0) (va ++ .slice (some ⟨100+j,0,none⟩) k k::rest) objs (va++mkS (100+k0) k::rest) (pre++[some (.cells vs e sz true true)]):=by
 have hlt:j<objs.length:=(List.getElem?_eq_some_iff.1 ho).1
 have hτ:∀n,n<100+k0->tau (100+k0) [100+j] (100+objs.length) n=n:=fun n h=>tau_lt h
 have hτ0:tau (100+k0) [100+j] (100+objs.length) (100+k0)=100+j:=tau_in (Nat.le_refl _) (by simp)
 have hn:Names 100 k0 [100+j] (100+objs.length) (va ++ .slice (some ⟨100+j,0,none⟩) k k::rest) objs (va ++ .slice (some ⟨100+k0,0,none⟩) k k::rest) (pre++[some (.cells vs e sz true true)]):=by
  refine⟨?_,by rw[List.length_append,hp];rfl,by simp,fun x hx=>?_,by omega,fun i o hi=>?_⟩
  ·rw[List.map_append,List.map_cons,←vrenL_map,←vrenL_map,vrenL_below hτ va hva,vrenL_below hτ rest hr]
   simp only[vren,hτ0]
  ·simp only[List.mem_singleton]at hx;omega
  ·rw[List.getElem?_append]at hi
   split at hi
   ·rename_i hlt2
    obtain⟨h1,h2⟩:=hpre i o hi
    rw[hτ _ (by omega),show 100+i-100=i by omega,oren_below hτ h2];exact h1
   ·rename_i hge
    have hi0:i=k0:=by
     have:=(List.getElem?_eq_some_iff.1 hi).1
     simp only[List.length_singleton]at this;omega
    subst hi0
    rw[hp,Nat.sub_self]at hi
    simp only[List.getElem?_cons_zero,Option.some.injEq]at hi;subst hi
    rw[hτ0,show 100+j-100=j by omega,ho]
    have:vrenL (tau (100+i) [100+j] (100+objs.length)) vs=vs:=vrenL_below (n0:=0) (fun n h=>by omega) vs hv
    simp only[oren,this]
 refine(wk_names hn).trans (wk_weak ?_ (WeakOs.refl _))
 have happ:∀l m m':List Value,WeakL m m'->WeakL (l++m) (l++m'):=by
  intro l m m' h
  induction l with
  |nil=>exact h
  |cons v l ih=>exact .cons (.refl v) ih
 exact happ _ _ _ (.cons (.mark hk) (WeakL.refl _))
theorem wk_nilG{n0 b:Nat}{va rest:List Value}{objs:List (Option AObj)}:Wk G n0 (va ++ .slice none 0 0::rest) objs (va++mkS b 0::rest) (objs++[none]):=by
 have happ:∀l m m':List Value,WeakL m m'->WeakL (l++m) (l++m'):=by
  intro l m m' h
  induction l with
  |nil=>exact h
  |cons v l ih=>exact .cons (.refl v) ih
 exact(wk_weak (happ _ _ _ (.cons .nilM (WeakL.refl _))) (WeakOs.refl _)).trans wk_pad
abbrev LK:=Exit->List Value->List (Option AObj)->Prop
abbrev LF:=Code->Nat->List Value->List (Option AObj)->LK->Prop
def lpS(live2:List Nat)(F:LF):LpS:=fun c n vals ds h Q=>match ds with
 | []=>match Nat.ble 100 h.next with
  |true=>F c n vals (objsOf 100 h) (fun e v o=>Q (.ex e (stOf 100 n live2 [] (v,o))))
  |false=>False
 |_=>False
theorem lp_mk(hP:okProg P 100=true){W:How}(hkn:KnOk P 100 W)(hlp:LpOk P 100 W){live live2:List Nat}{F:LF}
  (h:∀c n vals obs K,F c n vals obs K->∃(α:Type) (k0 fuel:Nat) (m:α->Nat) (I:α->List Value×List (Option AObj)) (R:α->LK) (a:α),obs.length=k0/\Wk 100 (100+k0) vals obs (I a).1 (I a).2/\(∀e v o,R a e v o->K e v o)/\
   ∀a,Is (wpe P (real P) W fuel (.code false c (stOf 100 n live [] (I a))) (roundQ 100 live live2 n []
   (fun vals objs=>∃a',m a' < m a/\Wk 100 (100+k0) vals objs (I a').1 (I a').2/\∀e v o,R a' e v o->R a e v o)
   (fun e vals objs=>∃v o,Wk 100 (100+k0) vals objs v o/\R a e v o)))):LoopOk P 100 live (lpS live2 F):=by
 intro c n vals ds hh Q hs
 unfold lpS at hs
 split at hs
 ·split at hs
  ·rename_i hle
   obtain⟨α,k0,fuel,m,I,R,a,h1,h2,h3,h4⟩:=h _ _ _ _ _ hs
   obtain⟨e,v,o,g1,g2⟩:=lp_rule hP hkn hlp (live:=live) (live2:=live2) (ds:=[]) rfl m I R h4 a h1 h2 (Nat.le_of_ble_eq_true hle)
   exact⟨_,g2,h3 _ _ _ g1⟩
  ·exact hs.elim
 ·exact hs.elim
theorem VRL.app{F:Nm}:∀ {l m l' m':List Value},VRL F l l'->VRL F m m'->VRL F (l++m) (l'++m')
 | [],m,l',m',h,h2=>by simp only[VRL]at h;subst h;exact h2
 |v::l,m,l',m',h,h2=>by
  simp only[VRL]at h
  obtain⟨v',r',g1,g2,e⟩:=h
  subst e
  simp only[List.cons_append,VRL]
  exact⟨v',r'++m',g1,VRL.app g2 h2,rfl⟩
end
end
end Go.Abs
