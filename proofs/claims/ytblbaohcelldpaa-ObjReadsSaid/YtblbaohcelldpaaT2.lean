/- Attributes as bytes: what the code asks. -/
import Derived.Test.YtblbaohcelldpaaS1
import Derived.Test.YtblbaohcelldpaaU6
set_option linter.all false
namespace Go.Proofs.Ytblbaohcelldpaa.Ob
open Go Go.Abs Go.Tlv
noncomputable section
set_option maxRecDepth 100000
end
end Go.Proofs.Ytblbaohcelldpaa.Ob
namespace Go.Proofs.Ytblbaohcelldpaa.Ob
open Go Go.Abs Go.Tlv
noncomputable section
structure Mw where
 t0:Int->ByteArray->Prop->(List Value->Prop)->Prop
 t1:Nat->List Value->Int->ByteArray->(Nat->List Value->Prop)->Prop
 n0:Int->Int->Prop->(List Value->Prop)->Prop
 n1:Nat->List Value->Int->Int->(Nat->List Value->Prop)->Prop
 bt:Nat->List Value->(ByteArray->Prop)->Prop
 en:Nat->List Value->(ByteArray->Int->Prop)->Prop
 nb:Int->(ByteArray->Prop)->Prop
def unit:Value := .tuple ⟨[]⟩
set_option maxRecDepth 100000
end
end Go.Proofs.Ytblbaohcelldpaa.Ob
namespace Go.Proofs.Ytblbaohcelldpaa.Ob
open Go Go.Abs Go.Tlv
noncomputable section
def isA(len:Nat)(vs:List Value)(l:List At):Prop:=vs=cellsA l/\len=l.length/\l.length<1000/\l≠[]
def MR:Mw where
 t0:=fun kind s A B=>∃k:Nat,kind=k/\k<256/\(s.data.toList=[]->A)/\(s.data.toList≠[]->B (cellsA [⟨k,s⟩]))
 t1:=fun len vs kind s K=>∃(l:List At) (k:Nat),kind=k/\k<256/\isA len vs l/\K (addT l k s).length (cellsA (addT l k s))
 n0:=fun kind n A B=>∃k m:Nat,kind=k/\n=m/\k<256/\m<18446744073709551616/\(m=0->A)/\(m≠0->B (cellsA [⟨k,bytesOf (numB m)⟩]))
 n1:=fun len vs kind n K=>∃(l:List At) (k m:Nat),kind=k/\n=m/\k<256/\m<18446744073709551616/\isA len vs l/\K (addN l k m).length (cellsA (addN l k m))
 bt:=fun len vs K=>∃l:List At,isA len vs l/\(∀a∈l,a.t<256)/\K (bytesOf (encS l))
 en:=fun len vs K=>∃l:List At,isA len vs l/\(∀a∈l,a.t<256)/\K (bytesOf (encS l)) (encE 0 l:Int)
 nb:=fun n K=>∃m:Nat,n=m/\m<18446744073709551616/\K (bytesOf (numB m))
end
end Go.Proofs.Ytblbaohcelldpaa.Ob
namespace Go.Proofs.Ytblbaohcelldpaa.Ob
open Go Go.Abs Go.Tlv
noncomputable section
set_option maxRecDepth 100000
set_option maxRecDepth 100000
set_option maxRecDepth 100000
set_option maxRecDepth 100000
set_option maxRecDepth 100000
end
end Go.Proofs.Ytblbaohcelldpaa.Ob
namespace Go.Proofs.Ytblbaohcelldpaa.Ob
open Go Go.Abs Go.Tlv
set_option maxRecDepth 100000
noncomputable section
def big:Nat:=1000000000
end
end Go.Proofs.Ytblbaohcelldpaa.Ob
namespace Go.Proofs.Ytblbaohcelldpaa.Ob
open Go Go.Abs Go.Tlv
noncomputable section
structure Mi where
 own:List Value->(Bool->Prop)->Prop
 deep:List Value->(Bool->Prop)->Prop
abbrev Sp0:Nat->Bool:=fun _=>false
set_option maxRecDepth 100000
set_option maxRecDepth 100000
set_option maxRecDepth 100000
set_option maxRecDepth 100000
set_option maxRecDepth 100000
set_option maxRecDepth 100000
set_option maxRecDepth 100000
set_option maxRecDepth 100000
set_option maxRecDepth 100000
set_option maxRecDepth 100000
set_option maxRecDepth 100000
set_option maxRecDepth 100000
set_option maxRecDepth 100000
set_option maxRecDepth 100000
set_option maxRecDepth 100000
set_option maxRecDepth 100000
set_option maxRecDepth 100000
set_option maxRecDepth 100000
end
end Go.Proofs.Ytblbaohcelldpaa.Ob
namespace Go.Proofs.Ytblbaohcelldpaa.Ob
open Go Go.Abs Go.Tlv
set_option maxRecDepth 100000
noncomputable section
def MI:Mi where
 own:=fun vs K=>∃ns:List Int,vs=ns.map (fun n => .int .i64 n)/\ns.length<big/\K (ns.all okI)
 deep:=fun rs K=>∃ns:List Int,rs=rowsOf cInt ns/\ns.length<big/\K (ns.all okI)
end
end Go.Proofs.Ytblbaohcelldpaa.Ob
namespace Go.Proofs.Ytblbaohcelldpaa.Ob
open Go Go.Abs Go.Tlv
set_option maxRecDepth 100000
noncomputable section
end
end Go.Proofs.Ytblbaohcelldpaa.Ob
namespace Go.Proofs.Ytblbaohcelldpaa.Ob
open Go Go.Abs Go.Tlv
noncomputable section
set_option maxRecDepth 100000
set_option maxRecDepth 100000
set_option maxRecDepth 100000
set_option maxRecDepth 100000
set_option maxRecDepth 100000
set_option maxRecDepth 100000
set_option maxRecDepth 100000
end
end Go.Proofs.Ytblbaohcelldpaa.Ob
namespace Go.Proofs.Ytblbaohcelldpaa.Ob
open Go Go.Abs Go.Tlv
set_option maxRecDepth 100000
noncomputable section
def strV(l:List ByteArray):List Value:=l.map fun s => .string s
end
end Go.Proofs.Ytblbaohcelldpaa.Ob
namespace Go.Proofs.Ytblbaohcelldpaa.Ob
open Go Go.Abs Go.Tlv
set_option maxRecDepth 100000
noncomputable section
theorem t2:Try.prog.underlying 2=some (.int .i64):=by kernel_rfl
structure isAb(b len:Nat)(vs:List Value)(l:List At):Prop where
 v:vs=cellsA l
 n:len=l.length
 b:l.length<=b
 ne:l≠[]
 t:∀a∈l,a.t<256
theorem isAb.a{b len:Nat}{vs:List Value}{l:List At}(h:isAb b len vs l)(hb:b<1000):isA len vs l:=⟨h.v,h.n,Nat.lt_of_le_of_lt h.b hb,h.ne⟩
theorem isAb.step{b len:Nat}{vs:List Value}{l:List At}(h:isAb b len vs l){k:Nat}(s:ByteArray)(hk:k<256):isAb (b+1) (addT l k s).length (cellsA (addT l k s)) (addT l k s):=by
 refine⟨rfl,rfl,?_,addT_ne h.ne,?_⟩
 ·have:=h.b
  unfold addT;split
  ·omega
  ·simp;omega
 ·unfold addT;split
  ·exact h.t
  ·intro a ha
   rcases List.mem_append.1 ha with ha|ha
   ·exact h.t a ha
   ·simp only[List.mem_singleton]at ha;subst ha;exact hk
end
end Go.Proofs.Ytblbaohcelldpaa.Ob
namespace Go.Proofs.Ytblbaohcelldpaa.Ob
open Go Go.Abs Go.Tlv
set_option maxRecDepth 100000
noncomputable section
theorem pu1{g:FuncId}{S:List Value->(Value->Prop)->Prop}(h:PuOk Try.prog 100 g S):∀x∈[(g,S)],PuOk Try.prog 100 x.1 x.2:=fun x hx=>by simp only[List.mem_singleton]at hx;subst hx;exact h
theorem lp1{sy:Sy}{kn:KnL}{pu:PuL}{cf:List (Nat×Nat)}{k n:Nat}{live:List Nat}{S:LpS}(h:LoopOk Try.prog 100 live S):LpOk Try.prog 100 (howOf sy Sp0 kn [(k,(n,(live,S)))] pu cf):=lp_ok (fun x hx=>by simp only[List.mem_singleton]at hx;subst hx;exact h)
end
end Go.Proofs.Ytblbaohcelldpaa.Ob
namespace Go.Tlv
theorem encE_at:∀ {l:List At} {last:Nat},encE last l=0->∀(i:Nat) a,l[i]?=some a->last<a.t/\a.len≠0/\a.len<=65535/\∀(j:Nat) b,j<i->l[j]?=some b->b.t<a.t
 | [],last,h,i,a,ha=>by simp at ha
 |c::l,last,h,i,a,ha=>by
  simp only[encE]at h
  split at h
  ·omega
  ·rename_i h1
   split at h
   ·omega
   ·rename_i h2
    cases i with
    |zero=>
     simp only[List.getElem?_cons_zero,Option.some.injEq]at ha;subst ha
     exact⟨by omega,by omega,by omega,fun j b hj=>by omega⟩
    |succ i=>
     obtain⟨g1,g2,g3,g4⟩:=encE_at h i a (by simpa using ha)
     refine⟨by omega,g2,g3,fun j b hj hb=>?_⟩
     cases j with
     |zero=>
      simp only[List.getElem?_cons_zero,Option.some.injEq]at hb;subst hb;exact g1
     |succ j=>exact g4 j b (by omega) (by simpa using hb)
end Go.Tlv
namespace Go.Proofs.Ytblbaohcelldpaa.Ob
open Go Go.Abs Go.Tlv
set_option maxRecDepth 100000
noncomputable section
theorem rel_objs{B:Base}{F:Nm}{w:World}{objs objs':List (Option AObj)}(R:Rel 100 F (hOf 100 [] objs) B w)(hl:objs'.length=objs.length)
  (key:∀(i:Nat) o',objs'[i]?=some (some o')->∃o,objs[i]?=some (some o)/\o.own=o'.own/\(objR F B w (100+i) o->objR F B w (100+i) o')):Rel 100 F (hOf 100 [] objs') B w:=by
 have key:∀n o',(hOf 100 [] objs').get n=some o'->∃o,(hOf 100 [] objs).get n=some o/\o.own=o'.own/\(objR F B w n o->objR F B w n o'):=by
  intro n o' h
  obtain⟨h1,h2,h3⟩:=hOf_at h
  obtain⟨o,g1,g2,g3⟩:=key _ _ h3
  have:=hOf_of (G:=100) g1
  rw[show 100+(n-100)=n by omega]at this g3
  exact⟨o,this,g2,g3⟩
 have hnx:(hOf 100 [] objs').next=(hOf 100 [] objs).next:=by show 100+objs'.length=100+objs.length;rw[hl]
 constructor
 ·intro n o' h
  obtain⟨o,g1,g2,g3⟩:=key n o' h
  exact g3 (R.obj n o g1)
 ·intro n m o o' h h' hne how
  obtain⟨x,g1,g2,_⟩:=key n o h
  obtain⟨y,k1,_,_⟩:=key m o' h'
  exact R.inj n m x y g1 k1 hne (by rw[g2];exact how)
 ·intro n h;exact R.fresh n (by rw[←hnx];exact h)
 ·exact R.glob
 ·exact R.base
 ·exact R.frame
 ·intro b i v hz
  refine⟨(R.froz b i v hz).1,fun n o h how=>?_⟩
  obtain⟨x,g1,g2,_⟩:=key n o h
  exact(R.froz b i v hz).2 n x g1 (by rw[g2];exact how)
 ·exact R.zprot
 ·exact R.os
 ·exact R.out
 ·exact R.tape
theorem weak_app{a m m':List Value}(h:WeakL m m'):WeakL (a++m) (a++m'):=by
 induction a with
 |nil=>exact h
 |cons v l ih=>exact .cons (.refl v) ih
abbrev MNt2:=ByteArray->Int->(Nat->Int->Prop)->Prop
def sRN2(M:MNt2):List Value->(Value->Prop)->Prop
 | [.string s,.int .u64 t],K=>M s t fun n e=>K (.tuple ⟨[.int .u64 (n:Int),.int .i64 e]⟩)
 |_,_=>False
def sRd{α:Type}(v:α->Value)(M:ByteArray->(α->Int->Prop)->Prop):List Value->(Value->Prop)->Prop
 | [.string s],K=>M s fun y e=>K (.tuple ⟨[v y,.int .i64 e]⟩)
 |_,_=>False
abbrev nilV:Value := .slice none 0 0
def MNr2:MNt2:=fun s m A=>∃t:Nat,m=t/\(∀n,rnum s.data.toList t=some n->A n 0)/\(rnum s.data.toList t=none->A 0 3)
def MRq{α:Type}(step:α->At->Option α)(z:α):ByteArray->(α->Int->Prop)->Prop:=fun s K=>K (rdE step z s.data.toList).2 ((rdE step z s.data.toList).1:Int)
theorem puRd{α:Type}{v:α->Value}{step:α->At->Option α}{z:α}{f:FuncId}(h:∀(s:ByteArray) B H,CallH Try.prog 100 B f [.string s] H (.returned (.tuple ⟨[v (rdE step z s.data.toList).2,.int .i64 ((rdE step z s.data.toList).1:Int)]⟩)) H):PuOk Try.prog 100 f (sRd v (MRq step z)):=by
 intro args K hh
 unfold sRd at hh
 split at hh<;>try exact hh.elim
 exact⟨_,h _,hh⟩
end
end Go.Proofs.Ytblbaohcelldpaa.Ob
namespace Go.Proofs.Ytblbaohcelldpaa.Ob
open Go Go.Abs Go.Tlv
set_option maxRecDepth 100000
noncomputable section
theorem n_ssl_mid{s:ByteArray}{K:ByteArray->Prop}(l h:Nat){i j:Int}(hi:i=l)(hj:j=h)(hl:l<=h)(hh:h<=s.data.toList.length)(hk:K (bytesOf ((s.data.toList.drop l).take (h-l)))):(real Try.prog).ssl s (some i) (some j) K:=by
 refine⟨l,h,s.size,?_,hk⟩
 subst hi;subst hj
 simp only[Option.map_some,Option.map_none,bnds,bnd]
 rw[show(decide (0<=(h:Int))&&Nat.ble (h:Int).toNat s.size)=true by rw[bytes_size];simp;exact hh]
 simp only[Int.toNat_natCast]
 rw[show(decide (0<=(l:Int))&&Nat.ble l h)=true by simp;exact hl]
 simp only
 rw[show Nat.ble h s.size=true from Nat.ble_eq_true_of_le (by rw[bytes_size];exact hh)]
abbrev LR6:=Code->Nat->List Value->List (Option AObj)->(Nat->Option AObj->Prop)->(Int->Prop)->Prop
def sLpR6(L:LR6):LpS:=lpS [2,3,4] fun c n vals obs K=>L c n vals obs (fun k ob=>K (.exit 0) [top,top,mkS 100 k] [ob]) (fun e=>K .ret [.slice none 0 0,.int .i64 e,top] [])
def gR6(N:Nd)(L:LR6)(s:ByteArray)(K:RK):Prop:=wpe Try.prog N (howOf (syB 100) Zp [] [(3,(45,([0,4,5],sLpR6 L)))] [] []) 300 (.call 63 [(.string s)] h0) (retQ 100 K)
theorem gR6_eq(N:Nd)(L:LR6)(s:ByteArray)(K:RK):gR6 N L s K=L (loopIn Try.prog 63 3) 45 [.string s,.slice none 0 0,.int .u8 0] [] (fun k ob=>K (.tuple ⟨[mkS 100 k,.int .i64 0]⟩) [ob]) (fun e=>K (.tuple ⟨[.slice none 0 0,.int .i64 e]⟩) []):=by kernel_rfl
def gR6R(N:Nd)(s:ByteArray)(k:Nat)(ob:Option AObj)(last:Int)(back:List Value->List (Option AObj)->Prop)(out:Exit->List Value->List (Option AObj)->Prop):Prop:=
 wpe Try.prog N (howOf (syB 100) Zp [] [] [] []) 300 (.code false (loopIn Try.prog 63 3) (stOf 100 45 [0,4,5] [] ([.string s,mkS 100 k,.int .u8 last],[ob]))) (roundQ 100 [0,4,5] [2,3,4] 45 [] back out)
def r6no(k:Nat)(ob:Option AObj)(out:Exit->List Value->List (Option AObj)->Prop)(e:Int):Prop:=([]:List Deferred)=[]/\out .ret [.slice none 0 0,.int .i64 e,mkS 100 k] [ob]
theorem gR6R_eq(N:Nd)(s:ByteArray)(k:Nat)(ob:Option AObj)(last:Int)(back:Bk)(out:Ot):gR6R N s k ob last back out=N.scmp .neq s (bytesOf []) (N.slen s fun n=>N.cmp .lss .i64 n .i64 3 (r6no k ob out 4) (N.ssl s (some 1) (some 3) fun s1=>N.sat s1 0 fun a=>N.conv 5 3 .u8 a .i64 fun a'=>N.ari .mul .i64 a' .i64 256 fun m=>N.sat s1 1 fun b=>N.conv 5 3 .u8 b .i64 fun b'=>N.ari .add .i64 m .i64 b' fun z=>N.sat s 0 fun t=>N.cmp .leq .u8 t .u8 last (r6no k ob out 3) (N.cmp .eql .i64 z .i64 0 (r6no k ob out 3) (N.slen s fun n=>N.ari .add .i64 3 .i64 z fun w=>N.cmp .lss .i64 n .i64 w (r6no k ob out 4) (N.sat s 0 fun t1=>N.sat s 0 fun t2=>N.ari .add .i64 3 .i64 z fun w=>N.ssl s (some 3) (some w) fun v=>N.base true k k ob 117 2 fun vs=>N.appX k vs 1 [.int .u8 t2,.string v] 2 24 fun vs' k'=>N.ari .add .i64 3 .i64 z fun w=>N.ssl s (some w) none fun s'=>([]:List Deferred)=[]/\back [.string s',.slice (some ⟨102,0,none⟩) k' k',.int .u8 t1] [none,some (.cells [.int .u8 t2,.string v] 117 2 false true),some (.cells vs' 117 2 true true)])))))
 (([]:List Deferred)=[]/\out (.exit 0) [top,top,mkS 100 k] [ob]):=by kernel_rfl
def IR6(s0:List UInt8)(p:StD s0):List Value×List (Option AObj):=([.string (bytesOf p.1.1),mkS 100 p.1.2.2.length,.int .u8 (p.1.2.1:Int)],[mo (cellsA p.1.2.2) 117 2])
def RR6(s0:List UInt8)(e:Exit)(v:List Value)(o:List (Option AObj)):Prop:=
 ((decE 0 s0).1=0/\e = .exit 0/\v=[top,top,mkS 100 (decE 0 s0).2.length]/\o=[mo (cellsA (decE 0 s0).2) 117 2])∨
 ((decE 0 s0).1≠0/\e = .ret/\v=[.slice none 0 0,.int .i64 ((decE 0 s0).1:Int),top]/\o=[])
theorem wk_r6{e:Int}{x:Value}{objs:List (Option AObj)}:Wk 100 (100+0) [.slice none 0 0,.int .i64 e,x] objs [.slice none 0 0,.int .i64 e,top] []:=
 (wk_weak (.cons (.refl _) (.cons (.refl _) (.cons (.top _) .nil))) (WeakOs.refl _)).trans (wk_pure rfl)
theorem roundR6(s0:List UInt8)(p:StD s0):
  Is (wpe Try.prog (real Try.prog) (howOf (syB 100) Zp [] [] [] []) 300 (.code false (loopIn Try.prog 63 3) (stOf 100 45 [0,4,5] [] (IR6 s0 p))) (roundQ 100 [0,4,5] [2,3,4] 45 []
   (fun vals objs=>∃a':StD s0,a'.1.1.length<p.1.1.length/\Wk 100 (100+0) vals objs (IR6 s0 a').1 (IR6 s0 a').2/\∀e v o,RR6 s0 e v o->RR6 s0 e v o)
   (fun e vals objs=>∃v o,Wk 100 (100+0) vals objs v o/\RR6 s0 e v o))):=by
 refine⟨?_⟩
 obtain⟨⟨s,last,acc⟩,inv⟩:=p
 have heq:=inv.eq
 have hla:=inv.la
 have hil:=inv.il
 dsimp only at heq hla hil
 show gR6R (real Try.prog) (bytesOf s) acc.length (mo (cellsA acc) 117 2) (last:Int) _ _
 rw[gR6R_eq]
 have bad:∀(e:Nat),(decE last s)=(e,[])->e≠0->r6no acc.length (mo (cellsA acc) 117 2) (fun e vals objs=>∃v o,Wk 100 (100+0) vals objs v o/\RR6 s0 e v o) (e:Int):=fun e h1 h2=>by
  have hp:=pan_eq heq h1 h2
  have he:(decE 0 s0).1=e:=by
   have:=heq
   rw[h1]at this
   rw[this];unfold app2;simp[h2]
  exact⟨rfl,_,_,wk_r6,.inr ⟨hp.1,rfl,by rw[he],rfl⟩⟩
 rcases s with _|⟨t,_|⟨a,_|⟨b,r⟩⟩⟩
 ·refine n_scmp_ne (fun h=>absurd rfl h) (fun _=>⟨rfl,_,_,Wk.refl _ _ _ _,.inl ?_⟩)
  have h0:decE 0 s0=(0,acc):=by rw[heq,decE_nil];unfold app2;simp
  rw[h0];exact⟨rfl,rfl,rfl,rfl⟩
 ·exact n_scmp_ne (fun _=>n_slen (n_ltN (d:=3) (fun _=>bad 4 (decE_short (by simp) (by simp)) (by omega)) (fun h=>absurd h (by simp[bytes_toList])))) (fun h=>absurd h (List.cons_ne_nil _ _))
 ·exact n_scmp_ne (fun _=>n_slen (n_ltN (d:=3) (fun _=>bad 4 (decE_short (by simp) (by simp)) (by omega)) (fun h=>absurd h (by simp[bytes_toList])))) (fun h=>absurd h (List.cons_ne_nil _ _))
 refine n_scmp_ne (fun _=>n_slen (n_ltN (d:=3) (fun h=>absurd h (by simp[bytes_toList])) (fun _=>?_))) (fun h=>absurd h (List.cons_ne_nil _ _))
 have ht:t.toNat<256:=t.toNat_lt
 have ha:a.toNat<256:=a.toNat_lt
 have hb:b.toNat<256:=b.toNat_lt
 have hn:=num2_lt a b
 have hz:(a.toNat:Int)*256+(b.toNat:Int)=((num2 a b:Nat):Int):=by unfold num2;omega
 refine n_ssl_mid 1 3 rfl rfl (by omega) (by simp[bytes_toList]) ?_
 refine n_sat 0 rfl (b:=a) rfl (n_fit uU8 uI64 (fit_i64 (by omega)) (n_mul (by omega) (by omega) ?_))
 refine n_sat 1 rfl (b:=b) rfl (n_fit uU8 uI64 (fit_i64 (by omega)) (n_add (by omega) (by omega) ?_))
 rw[hz]
 refine n_sat 0 rfl (b:=t) rfl (n_leN (fun h1=>bad 3 (decE_form (.inl h1)) (by omega)) (fun h1=>?_))
 refine n_eqN (m:=num2 a b) (d:=0) (fun h2=>bad 3 (decE_form (.inr h2)) (by omega)) (fun h2=>?_)
 have hc:¬(t.toNat<=last∨num2 a b=0):=by omega
 have h3:(3:Int)+((num2 a b:Nat):Int)=((3+num2 a b:Nat):Int):=by omega
 refine n_slen (n_add (by omega) (by omega) ?_)
 rw[h3]
 refine n_ltN (d:=3+num2 a b) (fun h4=>bad 4 (decE_cut hc (by simp[bytes_toList]at h4;omega)) (by omega)) (fun h4=>?_)
 have h5:num2 a b<=r.length:=by simp[bytes_toList]at h4;omega
 have hT:tops=140737488355328:=rfl
 rw[decE_step hc (by omega),app2_cons]at heq
 have hacc:(acc++[(⟨t.toNat,bytesOf (r.take (num2 a b))⟩:At)]).length=acc.length+1:=by simp
 refine n_sat 0 rfl (b:=t) rfl (n_sat 0 rfl (b:=t) rfl (n_add (by omega) (by omega) ?_))
 rw[h3]
 refine n_ssl_mid 3 (3+num2 a b) rfl rfl (by omega) (by simp[bytes_toList];omega) ?_
 refine n_base_mo (cellsA_len _) (by omega) (n_appX (by omega) rfl rfl (by omega) (by omega) (n_add (by omega) (by omega) ?_))
 rw[h3]
 refine n_ssl_from (3+num2 a b) rfl (by simp[bytes_toList];omega) ?_
 have e1:((bytesOf (t::a::b::r)).data.toList.drop 3).take (3+num2 a b-3)=r.take (num2 a b):=by
  rw[bytes_toList,show 3+num2 a b-3=num2 a b by omega];rfl
 have e2:(bytesOf (t::a::b::r)).data.toList.drop (3+num2 a b)=r.drop (num2 a b):=by
  rw[bytes_toList,Nat.add_comm];rfl
 rw[e1,e2]
 refine⟨rfl,⟨⟨r.drop (num2 a b),t.toNat,acc++[⟨t.toNat,bytesOf (r.take (num2 a b))⟩]⟩,⟨heq,by dsimp only;omega,by dsimp only;omega⟩⟩,?_,?_,fun _ _ _ h=>h⟩
 ·show(r.drop (num2 a b)).length<(t::a::b::r).length
  simp;omega
 ·have hcell:cellsA acc++[.int .u8 (t.toNat:Int),.string (bytesOf (r.take (num2 a b)))]=cellsA (acc++[⟨t.toNat,bytesOf (r.take (num2 a b))⟩]):=by
   rw[cellsA_app];rfl
  show Wk 100 (100+0) _ _ ([.string (bytesOf (r.drop (num2 a b)))]++mkS (100+0) (acc++[(⟨t.toNat,bytesOf (r.take (num2 a b))⟩:At)]).length::[.int .u8 (t.toNat:Int)]) ([]++[mo (cellsA (acc++[⟨t.toNat,bytesOf (r.take (num2 a b))⟩])) 117 2])
  rw[←hcell,mo_ne (by simp),hacc]
  exact wk_outG (k0:=0) (j:=2) (va:=[.string (bytesOf (r.drop (num2 a b)))]) (by omega) rfl (by rw[hcell];exact cellsA_below _) rfl rfl (by omega) rfl (fun i o h=>by simp at h)
def LR6r(s0:List UInt8):LR6:=fun c n vals obs A E=>c=loopIn Try.prog 63 3/\n=45/\vals=[.string (bytesOf s0),.slice none 0 0,.int .u8 (0:Int)]/\obs=[]/\
 ((decE 0 s0).1=0->A (decE 0 s0).2.length (mo (cellsA (decE 0 s0).2) 117 2))/\((decE 0 s0).1≠0->E ((decE 0 s0).1:Int))
theorem lpR6(s0:List UInt8):LoopOk Try.prog 100 [0,4,5] (sLpR6 (LR6r s0)):=by
 show LoopOk Try.prog 100 [0,4,5] (lpS [2,3,4] _)
 refine lp_mk okp (W:=howOf (syB 100) Zp [] [] [] []) kn_none lp_none ?_
 rintro c n vals obs K ⟨hc,hn,hv,ho,hA,hE⟩
 subst hc;subst hn;subst hv;subst ho
 refine⟨StD s0,0,300,fun p=>p.1.1.length,IR6 s0,fun _ e v o=>RR6 s0 e v o,⟨⟨s0,0,[]⟩,⟨(app2_nil _ (decE_err _ _)).symm,by dsimp only;omega,by simp⟩⟩,rfl,?_,?_,roundR6 s0⟩
 ·exact wk_nilG (va:=[.string (bytesOf s0)])
 intro e v o hR
 rcases hR with⟨h1,rfl,rfl,rfl⟩ | ⟨h1,rfl,rfl,rfl⟩
 ·exact hA h1
 ·exact hE h1
theorem r6C(s0:List UInt8):Is (gR6 (real Try.prog) (LR6r s0) (bytesOf s0) (PQ (retD (decE 0 s0)))):=by
 refine⟨?_⟩
 rw[gR6_eq]
 refine⟨rfl,rfl,rfl,rfl,fun h=>?_,fun h=>?_⟩
 ·unfold retD;rw[h]
  exact(wk_tup (wk_set_frzM 0 0 rfl rfl (flatA _) (cellsA_below _) (by omega) (List.length_map _).symm)).trans (wk_pure rfl)
 ·exact(wk_weak (.cons (retD_err (decE_err _ _ h)) .nil) (WeakOs.refl _)).trans (wk_pure rfl)
def sDe2(M:ByteArray->(List Value->Int->Prop)->Prop):List Value->(Value->Prop)->Prop
 | [.string s],K=>M s fun rs e=>K (.tuple ⟨[dsl rs,.int .i64 e]⟩)
 |_,_=>False
def MR6:ByteArray->(List Value->Int->Prop)->Prop:=fun s K=>K (rowsT (decE 0 s.data.toList).2) ((decE 0 s.data.toList).1:Int)
theorem puR6:PuOk Try.prog 100 63 (sDe2 MR6):=by
 intro args K h
 unfold sDe2 at h
 split at h<;>try exact h.elim
 rename_i s
 have hc:∀B H,CallH Try.prog 100 B 63 [.string s] H (.returned (retD (decE 0 s.data.toList))) H:=fun B H=>by
  have:=pu_mk okp kn_none (lp1 (lpR6 s.data.toList)) rfl (retD_below _) (r6C s.data.toList) B H
  rw[bytes_eta]at this;exact this
 exact⟨_,hc,h⟩
end
end Go.Proofs.Ytblbaohcelldpaa.Ob
namespace Go.Proofs.Ytblbaohcelldpaa.Ob
open Go Go.Abs Go.Tlv
set_option maxRecDepth 100000
noncomputable section
abbrev LN9:=Code->Nat->List Value->List (Option AObj)->(Int->Prop)->Prop
def sLpN9(L:LN9):LpS:=lpS [1,6] fun c n vals obs K=>match vals with
 | [_,t,_,_]=>L c n vals obs fun z=>K (.exit 0) [t,.int .u64 z] []
 |_=>False
def n9no(K:Value->Prop):Prop:=K (.tuple ⟨[.int .u64 0,.int .i64 3]⟩)
def n9go(N:Nd)(L:LN9)(s:ByteArray)(t:Int)(K:Value->Prop):Prop:=L (loopIn Try.prog 97 5) 37 [.string s,.int .u64 t,.int .u64 0,.int .i64 0] [] fun z=>N.cmp .gtr .u64 z .u64 t (n9no K) (K (.tuple ⟨[.int .u64 z,.int .i64 0]⟩))
def gN9(N:Nd)(L:LN9)(s:ByteArray)(t:Int)(K:Value->Prop):Prop:=wpe Try.prog N (howOf Z0 Zp [] [(5,(37,([0,1,6,7],sLpN9 L)))] [] []) 300 (.call 97 [(.string s),(.int .u64 t)] h0) (retV K)
theorem gN9_eq(N:Nd)(L:LN9)(s:ByteArray)(t:Int)(K:Value->Prop):gN9 N L s t K=N.slen s fun n=>N.cmp .gtr .i64 n .i64 8 (n9no K) (N.scmp .neq s (bytesOf []) (N.sat s 0 fun b=>N.cmp .eql .u8 b .u8 0 (n9no K) (n9go N L s t K)) (n9go N L s t K)):=by kernel_rfl
def gN9R(N:Nd)(s:ByteArray)(t z i:Int)(back:List Value->List (Option AObj)->Prop)(out:Exit->List Value->List (Option AObj)->Prop):Prop:=
 wpe Try.prog N (howOf Z0 Zp [] [] [] []) 300 (.code false (loopIn Try.prog 97 5) (stOf 100 37 [0,1,6,7] [] ([.string s,.int .u64 t,.int .u64 z,.int .i64 i],[]))) (roundQ 100 [0,1,6,7] [1,6] 37 [] back out)
theorem gN9R_eq(N:Nd)(s:ByteArray)(t z i:Int)(back:Bk)(out:Ot):gN9R N s t z i back out=N.slen s fun n=>N.cmp .lss .i64 i .i64 n (N.ari .mul .u64 z .u64 256 fun z1=>N.sat s i fun b=>N.conv 5 23 .u8 b .u64 fun b1=>N.ari .add .u64 z1 .u64 b1 fun z2=>N.ari .add .i64 i .i64 1 fun j=>([]:List Deferred)=[]/\back [.string s,.int .u64 t,.int .u64 z2,.int .i64 j] [])
 (([]:List Deferred)=[]/\out (.exit 0) [.int .u64 t,.int .u64 z] []):=by kernel_rfl
theorem n_mulU{m d:Nat}{K:Int->Prop}(h:m*d<18446744073709551616)(hk:K ((m*d:Nat):Int)):(real Try.prog).ari .mul .u64 (m:Int) .u64 (d:Int) K:=by
 refine⟨((m*d:Nat):Int),?_,hk⟩
 have e:IntKind.u64.wrap ((m:Int)*(d:Int))=((m*d:Nat):Int):=by rw[←Int.natCast_mul];exact fit_u64 h
 simp[intBin,wrapA_eq,e]
theorem n_addU{m d:Nat}{K:Int->Prop}(h:m+d<18446744073709551616)(hk:K ((m+d:Nat):Int)):(real Try.prog).ari .add .u64 (m:Int) .u64 (d:Int) K:=by
 refine⟨((m+d:Nat):Int),?_,hk⟩
 have e:IntKind.u64.wrap ((m:Int)+(d:Int))=((m+d:Nat):Int):=by rw[←Int.natCast_add];exact fit_u64 h
 simp[intBin,wrapA_eq,e]
def IN9(s:ByteArray)(t:Nat)(i:{i:Nat // i<=s.data.toList.length}):List Value×List (Option AObj):=([.string s,.int .u64 (t:Int),.int .u64 (valB (s.data.toList.take i.1):Int),.int .i64 (i.1:Int)],[])
theorem rndN9(s:ByteArray)(t:Nat)(h8:s.data.toList.length<=8)(i:{i:Nat // i<=s.data.toList.length}):
  Is (wpe Try.prog (real Try.prog) (howOf Z0 Zp [] [] [] []) 300 (.code false (loopIn Try.prog 97 5) (stOf 100 37 [0,1,6,7] [] (IN9 s t i))) (roundQ 100 [0,1,6,7] [1,6] 37 []
   (fun vals objs=>∃a':{i:Nat // i<=s.data.toList.length},s.data.toList.length-a'.1<s.data.toList.length-i.1/\Wk 100 (100+0) vals objs (IN9 s t a').1 (IN9 s t a').2/\∀e v o,RN s t e v o->RN s t e v o)
   (fun e vals objs=>∃v o,Wk 100 (100+0) vals objs v o/\RN s t e v o))):=by
 refine⟨?_⟩
 obtain⟨i,hi⟩:=i
 show gN9R (real Try.prog) s (t:Int) (valB (s.data.toList.take i):Int) (i:Int) _ _
 rw[gN9R_eq]
 refine n_slen (n_ltN (fun hlt=>?_) (fun hge=>?_))
 ·have hx:s.data.toList[i]?=some s.data.toList[i]:=List.getElem?_eq_getElem hlt
  have hms:s.data.toList.length-(i+1)<s.data.toList.length-i:=by omega
  generalize s.data.toList[i]=b at hx
  have hb:b.toNat<256:=b.toNat_lt
  have h7:=pow7 (l:=s.data.toList.take i) (by rw[List.length_take];omega)
  refine n_mulU (d:=256) (by omega) (n_sat i rfl hx (n_fit uU8 uU64 (fit_u64 (by omega)) (n_addU (by omega) (n_inc (by omega) ⟨rfl,⟨i+1,hlt⟩,hms,?_,fun _ _ _ h=>h⟩))))
  have:valB (s.data.toList.take (i+1))=valB (s.data.toList.take i)*256+b.toNat:=by rw[List.take_add_one,hx];exact valB_snoc _ _
  show Wk 100 (100+0) _ _ [.string s,.int .u64 (t:Int),.int .u64 (valB (s.data.toList.take (i+1)):Int),_] []
  rw[this]
  exact Wk.refl _ _ _ _
 ·have e:i=s.data.toList.length:=by omega
  subst e
  rw[List.take_length]
  exact⟨rfl,_,_,Wk.refl _ _ _ _,rfl,rfl,rfl⟩
def LN9r(s:ByteArray)(t:Nat):LN9:=fun c n vals obs A=>c=loopIn Try.prog 97 5/\n=37/\vals=[.string s,.int .u64 (t:Int),.int .u64 (0:Int),.int .i64 (0:Int)]/\obs=[]/\s.data.toList.length<=8/\A (valB s.data.toList:Int)
theorem lpN9(s:ByteArray)(t:Nat):LoopOk Try.prog 100 [0,1,6,7] (sLpN9 (LN9r s t)):=by
 show LoopOk Try.prog 100 [0,1,6,7] (lpS [1,6] _)
 refine lp_mk okp (W:=howOf Z0 Zp [] [] [] []) kn_none lp_none ?_
 intro c n vals obs K h
 split at h<;>try exact h.elim
 obtain⟨hc,hn,hv,ho,h8,hA⟩:=h
 subst hc;subst hn;subst ho
 simp only[List.cons.injEq,and_true]at hv
 obtain⟨rfl,rfl,rfl,rfl⟩:=hv
 refine⟨{i:Nat // i<=s.data.toList.length},0,300,fun i=>s.data.toList.length-i.1,IN9 s t,fun _ e v o=>RN s t e v o,⟨0,Nat.zero_le _⟩,rfl,Wk.refl _ _ _ _,?_,rndN9 s t h8⟩
 intro e v o hR
 obtain⟨rfl,rfl,rfl⟩:=hR
 exact hA
theorem n9C(s:ByteArray)(t:Nat):Is (gN9 (real Try.prog) (LN9r s t) s (t:Int) (fun v=>v=retN (rnum s.data.toList t))):=by
 refine⟨?_⟩
 rw[gN9_eq]
 refine n_slen (n_gtN (d:=8) (fun h=>by unfold n9no;rw[rnum_bad (.inl h)];rfl) (fun h8=>n_scmp_ne (fun hne=>?_) (fun he=>?_)))
 ·have hx:∃b,s.data.toList[0]?=some b:=by
   cases h:s.data.toList with
   |nil=>exact absurd h hne
   |cons b l=>exact⟨b,rfl⟩
  obtain⟨b,hb⟩:=hx
  refine n_sat 0 rfl hb (n_eqN (d:=0) (fun h0=>?_) (fun h0=>?_))
  ·have:b=0:=by apply UInt8.toNat_inj.1;exact h0
   subst this
   unfold n9no;rw[rnum_bad (.inr hb)];rfl
  ·have h2:s.data.toList[0]?≠some 0:=by
    rw[hb];intro e
    simp only[Option.some.injEq]at e
    subst e;exact h0 rfl
   exact⟨rfl,rfl,rfl,rfl,h8,n_gtN (fun h=>by unfold n9no;rw[rnum_top h];rfl) (fun h=>by rw[rnum_is (by omega) h2 (by omega)];rfl)⟩
 ·have he':s.data.toList=[]:=he
  have h2:s.data.toList[0]?≠some 0:=by rw[he'];simp
  exact⟨rfl,rfl,rfl,rfl,h8,n_gtN (fun h=>by unfold n9no;rw[rnum_top h];rfl) (fun h=>by rw[rnum_is (by omega) h2 (by omega)];rfl)⟩
theorem puN9:PuOk Try.prog 100 97 (sRN2 MNr2):=by
 intro args K h
 unfold sRN2 at h
 split at h<;>try exact h.elim
 rename_i s m
 obtain⟨t,rfl,h1,h2⟩:=h
 refine⟨_,fun B H=>pu_mkV okp kn_none (lp1 (lpN9 s t)) rfl (n9C s t) B H,?_⟩
 cases hr:rnum s.data.toList t with
 |none=>exact h2 hr
 |some n=>exact h1 n hr
abbrev LR9:=Code->Nat->List Value->List (Option AObj)->(Nat->Option AObj->Prop)->(Int->Prop)->Prop
def sLpR9(L:LR9):LpS:=lpS [4,5,6] fun c n vals obs K=>L c n vals obs (fun k ob=>K (.exit 0) [top,top,mkS 100 k] [ob]) (fun e=>K .ret [.slice none 0 0,.int .i64 e,top] [])
def gR9(N:Nd)(L:LR9)(s:ByteArray)(t:Int)(K:RK):Prop:=wpe Try.prog N (howOf (syB 100) Zp [] [(2,(36,([0,1,6],sLpR9 L)))] [] []) 300 (.call 98 [(.string s),(.int .i64 t)] h0) (retQ 100 K)
theorem gR9_eq(N:Nd)(L:LR9)(s:ByteArray)(t:Int)(K:RK):gR9 N L s t K=L (loopIn Try.prog 98 2) 36 [.string s,.int .i64 t,.slice none 0 0] [] (fun k ob=>K (.tuple ⟨[mkS 100 k,.int .i64 0]⟩) [ob]) (fun e=>K (.tuple ⟨[.slice none 0 0,.int .i64 e]⟩) []):=by kernel_rfl
def gR9R(N:Nd)(s:ByteArray)(t:Int)(k:Nat)(ob:Option AObj)(back:List Value->List (Option AObj)->Prop)(out:Exit->List Value->List (Option AObj)->Prop):Prop:=
 wpe Try.prog N (howOf (syB 100) Zp [] [] [] []) 300 (.code false (loopIn Try.prog 98 2) (stOf 100 36 [0,1,6] [] ([.string s,.int .i64 t,mkS 100 k],[ob]))) (roundQ 100 [0,1,6] [4,5,6] 36 [] back out)
theorem gR9R_eq(N:Nd)(s:ByteArray)(t:Int)(k:Nat)(ob:Option AObj)(back:Bk)(out:Ot):gR9R N s t k ob back out=N.scmp .neq s (bytesOf []) (N.slen s fun n=>N.cmp .lss .i64 n .i64 2 (r6no k ob out 4) (N.cmp .geq .i64 (k:Int) .i64 t (r6no k ob out 3) (N.sat s 0 fun a=>N.conv 5 3 .u8 a .i64 fun a'=>N.ari .mul .i64 a' .i64 256 fun m=>N.sat s 1 fun b=>N.conv 5 3 .u8 b .i64 fun b'=>N.ari .add .i64 m .i64 b' fun z=>N.slen s fun n=>N.ari .add .i64 2 .i64 z fun w=>N.cmp .lss .i64 n .i64 w (r6no k ob out 4) (N.ari .add .i64 2 .i64 z fun w=>N.ssl s (some 2) (some w) fun v=>N.base true k k ob 9 1 fun vs=>N.appX k vs 1 [.string v] 1 16 fun vs' k'=>N.ari .add .i64 2 .i64 z fun w=>N.ssl s (some w) none fun s'=>([]:List Deferred)=[]/\back [.string s',.int .i64 t,.slice (some ⟨102,0,none⟩) k' k'] [none,some (.cells [.string v] 9 1 false true),some (.cells vs' 9 1 true true)]))))
 (([]:List Deferred)=[]/\out (.exit 0) [top,top,mkS 100 k] [ob]):=by kernel_rfl
def IR9(t:Nat)(s0:List UInt8)(p:StL t s0):List Value×List (Option AObj):=([.string (bytesOf p.1.1),.int .i64 (t:Int),mkS 100 p.1.2.length],[mo (strC p.1.2) 9 1])
def RR9(t:Nat)(s0:List UInt8)(e:Exit)(v:List Value)(o:List (Option AObj)):Prop:=
 ((lstE t 0 s0).1=0/\e = .exit 0/\v=[top,top,mkS 100 (lstE t 0 s0).2.length]/\o=[mo (strC (lstE t 0 s0).2) 9 1])∨
 ((lstE t 0 s0).1≠0/\e = .ret/\v=[.slice none 0 0,.int .i64 ((lstE t 0 s0).1:Int),top]/\o=[])
theorem roundR9(t:Nat)(hm:t<=1000)(s0:List UInt8)(p:StL t s0):
  Is (wpe Try.prog (real Try.prog) (howOf (syB 100) Zp [] [] [] []) 300 (.code false (loopIn Try.prog 98 2) (stOf 100 36 [0,1,6] [] (IR9 t s0 p))) (roundQ 100 [0,1,6] [4,5,6] 36 []
   (fun vals objs=>∃a':StL t s0,a'.1.1.length<p.1.1.length/\Wk 100 (100+0) vals objs (IR9 t s0 a').1 (IR9 t s0 a').2/\∀e v o,RR9 t s0 e v o->RR9 t s0 e v o)
   (fun e vals objs=>∃v o,Wk 100 (100+0) vals objs v o/\RR9 t s0 e v o))):=by
 refine⟨?_⟩
 obtain⟨⟨s,acc⟩,inv⟩:=p
 have heq:=inv.eq
 have hil:=inv.il
 dsimp only at heq hil
 show gR9R (real Try.prog) (bytesOf s) (t:Int) acc.length (mo (strC acc) 9 1) _ _
 rw[gR9R_eq]
 have bad:∀(e:Nat),(lstE t acc.length s)=(e,[])->e≠0->r6no acc.length (mo (strC acc) 9 1) (fun e vals objs=>∃v o,Wk 100 (100+0) vals objs v o/\RR9 t s0 e v o) (e:Int):=fun e h1 h2=>by
  have hp:=panL_eq heq h1 h2
  have he:(lstE t 0 s0).1=e:=by
   have:=heq
   rw[h1]at this
   rw[this];unfold app2;simp[h2]
  exact⟨rfl,_,_,wk_r6,.inr ⟨hp.1,rfl,by rw[he],rfl⟩⟩
 rcases s with _|⟨a,_|⟨b,r⟩⟩
 ·refine n_scmp_ne (fun h=>absurd rfl h) (fun _=>⟨rfl,_,_,Wk.refl _ _ _ _,.inl ?_⟩)
  have h0:lstE t 0 s0=(0,acc):=by rw[heq,lstE_nil];unfold app2;simp
  rw[h0];exact⟨rfl,rfl,rfl,rfl⟩
 ·exact n_scmp_ne (fun _=>n_slen (n_ltN (d:=2) (fun _=>bad 4 (lstE_short (by simp) (by simp)) (by omega)) (fun h=>absurd h (by simp[bytes_toList])))) (fun h=>absurd h (List.cons_ne_nil _ _))
 refine n_scmp_ne (fun _=>n_slen (n_ltN (d:=2) (fun h=>absurd h (by simp[bytes_toList])) (fun _=>?_))) (fun h=>absurd h (List.cons_ne_nil _ _))
 have ha:a.toNat<256:=a.toNat_lt
 have hb:b.toNat<256:=b.toNat_lt
 have hn:=num2_lt a b
 have hz:(a.toNat:Int)*256+(b.toNat:Int)=((num2 a b:Nat):Int):=by unfold num2;omega
 refine n_geq (fun h1=>bad 3 (lstE_full (by omega)) (by omega)) (fun h1=>?_)
 refine n_sat 0 rfl (b:=a) rfl (n_fit uU8 uI64 (fit_i64 (by omega)) (n_mul (by omega) (by omega) ?_))
 refine n_sat 1 rfl (b:=b) rfl (n_fit uU8 uI64 (fit_i64 (by omega)) (n_add (by omega) (by omega) ?_))
 rw[hz]
 have h3:(2:Int)+((num2 a b:Nat):Int)=((2+num2 a b:Nat):Int):=by omega
 refine n_slen (n_add (by omega) (by omega) ?_)
 rw[h3]
 refine n_ltN (d:=2+num2 a b) (fun h4=>bad 4 (lstE_cut (by omega) (by simp[bytes_toList]at h4;omega)) (by omega)) (fun h4=>?_)
 have h5:num2 a b<=r.length:=by simp[bytes_toList]at h4;omega
 have hT:tops=140737488355328:=rfl
 rw[lstE_step (by omega) (by omega),app2_cons]at heq
 have hacc:(acc++[bytesOf (r.take (num2 a b))]).length=acc.length+1:=by simp
 rw[←hacc]at heq
 refine n_add (by omega) (by omega) ?_
 rw[h3]
 refine n_ssl_mid 2 (2+num2 a b) rfl rfl (by omega) (by simp[bytes_toList];omega) ?_
 refine n_base_mo (by rw[strC_len,Nat.mul_one]) (by omega) (n_appX (by omega) rfl rfl (by omega) (by omega) (n_add (by omega) (by omega) ?_))
 rw[h3]
 refine n_ssl_from (2+num2 a b) rfl (by simp[bytes_toList];omega) ?_
 have e1:((bytesOf (a::b::r)).data.toList.drop 2).take (2+num2 a b-2)=r.take (num2 a b):=by
  rw[bytes_toList,show 2+num2 a b-2=num2 a b by omega];rfl
 have e2:(bytesOf (a::b::r)).data.toList.drop (2+num2 a b)=r.drop (num2 a b):=by
  rw[bytes_toList,Nat.add_comm];rfl
 rw[e1,e2]
 refine⟨rfl,⟨⟨r.drop (num2 a b),acc++[bytesOf (r.take (num2 a b))]⟩,⟨heq,by dsimp only;omega⟩⟩,?_,?_,fun _ _ _ h=>h⟩
 ·show(r.drop (num2 a b)).length<(a::b::r).length
  simp;omega
 ·have hcell:strC acc++[.string (bytesOf (r.take (num2 a b)))]=strC (acc++[bytesOf (r.take (num2 a b))]):=by simp[strC]
  show Wk 100 (100+0) _ _ ([.string (bytesOf (r.drop (num2 a b))),.int .i64 (t:Int)]++mkS (100+0) (acc++[bytesOf (r.take (num2 a b))]).length::[]) ([]++[mo (strC (acc++[bytesOf (r.take (num2 a b))])) 9 1])
  rw[←hcell,mo_ne (by simp),hacc]
  exact wk_outG (k0:=0) (j:=2) (va:=[.string (bytesOf (r.drop (num2 a b))),.int .i64 (t:Int)]) (by omega) rfl (by rw[hcell];exact strC_below _ _) rfl rfl (by omega) rfl (fun i o h=>by simp at h)
def LR9r(t:Nat)(s0:List UInt8):LR9:=fun c n vals obs A E=>c=loopIn Try.prog 98 2/\n=36/\vals=[.string (bytesOf s0),.int .i64 (t:Int),.slice none 0 0]/\obs=[]/\
 ((lstE t 0 s0).1=0->A (lstE t 0 s0).2.length (mo (strC (lstE t 0 s0).2) 9 1))/\((lstE t 0 s0).1≠0->E ((lstE t 0 s0).1:Int))
theorem lpR9(t:Nat)(hm:t<=1000)(s0:List UInt8):LoopOk Try.prog 100 [0,1,6] (sLpR9 (LR9r t s0)):=by
 show LoopOk Try.prog 100 [0,1,6] (lpS [4,5,6] _)
 refine lp_mk okp (W:=howOf (syB 100) Zp [] [] [] []) kn_none lp_none ?_
 rintro c n vals obs K ⟨hc,hn,hv,ho,hA,hE⟩
 subst hc;subst hn;subst hv;subst ho
 refine⟨StL t s0,0,300,fun p=>p.1.1.length,IR9 t s0,fun _ e v o=>RR9 t s0 e v o,⟨⟨s0,[]⟩,⟨(app2_nil _ (lstE_err _ _ _)).symm,by simp⟩⟩,rfl,?_,?_,roundR9 t hm s0⟩
 ·exact wk_nilG (va:=[.string (bytesOf s0),.int .i64 (t:Int)])
 intro e v o hR
 rcases hR with⟨h1,rfl,rfl,rfl⟩ | ⟨h1,rfl,rfl,rfl⟩
 ·exact hA h1
 ·exact hE h1
theorem r9C(t:Nat)(s0:List UInt8):Is (gR9 (real Try.prog) (LR9r t s0) (bytesOf s0) (t:Int) (PQ (retL2 (lstE t 0 s0)))):=by
 refine⟨?_⟩
 rw[gR9_eq]
 refine⟨rfl,rfl,rfl,rfl,fun h=>?_,fun h=>?_⟩
 ·unfold retL2;rw[h]
  exact(wk_tup (wk_set_frzM 0 0 rfl rfl (strC_flat _) (strC_below _ _) (by omega) (rowsOf_len _ _).symm)).trans (wk_pure rfl)
 ·exact(wk_weak (.cons (retL2_err (lstE_err _ _ _ h)) .nil) (WeakOs.refl _)).trans (wk_pure rfl)
def sRL2(M:ByteArray->Int->(List Value->Int->Prop)->Prop):List Value->(Value->Prop)->Prop
 | [.string s,.int .i64 t],K=>M s t fun rs e=>K (.tuple ⟨[dsl rs,.int .i64 e]⟩)
 |_,_=>False
def MR9:ByteArray->Int->(List Value->Int->Prop)->Prop:=fun s m K=>∃t:Nat,m=t/\t<=1000/\K (rowsOf cSt (lstE t 0 s.data.toList).2) ((lstE t 0 s.data.toList).1:Int)
theorem puR9:PuOk Try.prog 100 98 (sRL2 MR9):=by
 intro args K h
 unfold sRL2 at h
 split at h<;>try exact h.elim
 rename_i s m
 obtain⟨t,rfl,ht,hK⟩:=h
 have hc:∀B H,CallH Try.prog 100 B 98 [.string s,.int .i64 (t:Int)] H (.returned (retL2 (lstE t 0 s.data.toList))) H:=fun B H=>by
  have:=pu_mk okp kn_none (lp1 (lpR9 t ht s.data.toList)) rfl (retL2_below _) (r9C t s.data.toList) B H
  rw[bytes_eta]at this;exact this
 exact⟨_,hc,hK⟩
end
end Go.Proofs.Ytblbaohcelldpaa.Ob
namespace Go.Proofs.Ytblbaohcelldpaa.Ob
open Go Go.Abs Go.Tlv
set_option maxRecDepth 100000
noncomputable section
def gRb(N:Nd)(M:MNt2)(s:ByteArray)(t:Int)(K:Value->Prop):Prop:=wpe Try.prog N (howOf Z0 Zp [] [] [(97,sRN2 M)] []) 300 (.call 64 [(.string s),(.int .u64 t)] h0) (retV K)
theorem gRb_eq(N:Nd)(M:MNt2)(s:ByteArray)(t:Int)(K:Value->Prop):gRb N M s t K=M s t fun n e=>N.cmp .eql .i64 e .i64 0 (K (.tuple ⟨[.int .u64 (n:Int),.bool true]⟩)) (K (.tuple ⟨[.int .u64 (n:Int),.bool false]⟩)):=by kernel_rfl
def sRb(M:MNt):List Value->(Value->Prop)->Prop
 | [.string s,.int .u64 t],K=>M s t (fun n=>K (.tuple ⟨[.int .u64 n,.bool true]⟩)) (K (.tuple ⟨[.int .u64 0,.bool false]⟩))
 |_,_=>False
def rbV(o:Option Nat):Value:=match o with
 |some n => .tuple ⟨[.int .u64 (n:Int),.bool true]⟩
 |none => .tuple ⟨[.int .u64 0,.bool false]⟩
theorem rbC(s:ByteArray)(t:Nat):Is (gRb (real Try.prog) MNr2 s (t:Int) (fun v=>v=rbV (rnum s.data.toList t))):=by
 refine⟨?_⟩
 rw[gRb_eq]
 exact⟨t,rfl,fun n hn=>n_eqN (m:=0) (d:=0) (fun _=>by rw[hn];rfl) (fun h=>absurd rfl h),fun hn=>n_eqN (m:=3) (d:=0) (fun h=>absurd h (by decide)) (fun _=>by rw[hn];rfl)⟩
theorem puRb:PuOk Try.prog 100 64 (sRb MRN):=by
 intro args K h
 unfold sRb at h
 split at h<;>try exact h.elim
 rename_i s m
 obtain⟨t,rfl,h1,h2⟩:=h
 refine⟨_,fun B H=>pu_mkV okp (kn_pu (pu1 puN9)) lp_none rfl (rbC s t) B H,?_⟩
 cases hr:rnum s.data.toList t with
 |none=>exact h2 hr
 |some n=>exact h1 n hr
def gIb(N:Nd)(M:ByteArray->Int->(List Value->Int->Prop)->Prop)(s:ByteArray)(t:Int)(K:Value->Prop):Prop:=wpe Try.prog N (howOf Z0 Zp [] [] [(98,sRL2 M)] []) 300 (.call 65 [(.string s),(.int .i64 t)] h0) (retV K)
theorem gIb_eq(N:Nd)(M:ByteArray->Int->(List Value->Int->Prop)->Prop)(s:ByteArray)(t:Int)(K:Value->Prop):gIb N M s t K=M s t fun rs e=>N.cmp .eql .i64 e .i64 0 (K (.tuple ⟨[dsl rs,.bool true]⟩)) (K (.tuple ⟨[dsl rs,.bool false]⟩)):=by kernel_rfl
def sIb(M:ByteArray->Int->(List Value->Bool->Prop)->Prop):List Value->(Value->Prop)->Prop
 | [.string s,.int .i64 t],K=>M s t fun rs b=>K (.tuple ⟨[dsl rs,.bool b]⟩)
 |_,_=>False
def MIb:ByteArray->Int->(List Value->Bool->Prop)->Prop:=fun s m K=>∃t:Nat,m=t/\t<=1000/\K (rowsOf cSt (lstE t 0 s.data.toList).2) (decide ((lstE t 0 s.data.toList).1=0))
theorem ibC(s:ByteArray)(t:Nat)(ht:t<=1000):Is (gIb (real Try.prog) MR9 s (t:Int) (fun v=>v = .tuple ⟨[dsl (rowsOf cSt (lstE t 0 s.data.toList).2),.bool (decide ((lstE t 0 s.data.toList).1=0))]⟩)):=by
 refine⟨?_⟩
 rw[gIb_eq]
 exact⟨t,rfl,ht,n_eqN (d:=0) (fun h=>by rw[decide_eq_true h]) (fun h=>by rw[decide_eq_false h])⟩
theorem puIb:PuOk Try.prog 100 65 (sIb MIb):=by
 intro args K h
 unfold sIb at h
 split at h<;>try exact h.elim
 rename_i s m
 obtain⟨t,rfl,ht,hK⟩:=h
 exact⟨_,fun B H=>pu_mkV okp (kn_pu (pu1 puR9)) lp_none rfl (ibC s t ht) B H,hK⟩
end
end Go.Proofs.Ytblbaohcelldpaa.Ob
