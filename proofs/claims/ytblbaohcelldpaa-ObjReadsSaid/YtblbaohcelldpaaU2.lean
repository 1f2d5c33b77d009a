/- Bytes read as attributes, lists, numbers: what the code comes to. -/
import Derived.Test.YtblbaohcelldpaaWD
set_option linter.all false
namespace Go.Proofs.Ytblbaohcelldpaa.Ob
open Go Go.Abs Go.Tlv
set_option maxRecDepth 100000
noncomputable section
theorem uU8:Try.prog.underlying 5=some (.int .u8):=by kernel_rfl
theorem uI64:Try.prog.underlying 3=some (.int .i64):=by kernel_rfl
theorem uU64:Try.prog.underlying 23=some (.int .u64):=by kernel_rfl
theorem uU32:Try.prog.underlying 22=some (.int .u32):=by kernel_rfl
def rowsT(l:List At):List Value:=l.map rowA
def cSt(s:ByteArray):List Value:=[.string s]
def strC(l:List ByteArray):List Value:=l.map fun s => .string s
theorem strC_flat(l:List ByteArray):flatRows 1 (rowsOf cSt l)=some (strC l):=by
 induction l with
 |nil=>rfl
 |cons a l ih=>
  show flatRows 1 (.agg ⟨[.string a]⟩::rowsOf cSt l)=_
  simp only[flatRows,ih];rfl
theorem strC_below(n:Nat)(l:List ByteArray):belowL n (strC l)=true:=by
 induction l with
 |nil=>rfl
 |cons a l ih=>show(true&&belowL n (strC l))=true;rw[ih];rfl
theorem strC_len(l:List ByteArray):(strC l).length=l.length:=by simp[strC]
theorem pre2{a b:AObj}(ha:belowO 102 (some a)=true)(hb:belowO 102 (some b)=true){objs:List (Option AObj)}(h0:objs[0]?=some (some a))(h1:objs[1]?=some (some b)):
  ∀(i:Nat) o,([some a,some b]:List (Option AObj))[i]?=some (some o)->objs[i]?=some (some o)/\belowO (100+2) (some o)=true:=by
 intro i o h
 rcases i with _|_|i
 ·simp only[List.getElem?_cons_zero,Option.some.injEq]at h;subst h;exact⟨h0,ha⟩
 ·simp only[List.getElem?_cons_succ,List.getElem?_cons_zero,Option.some.injEq]at h;subst h;exact⟨h1,hb⟩
 ·simp at h
structure InvD(s0 s:List UInt8)(last:Nat)(acc:List At):Prop where
 eq:decE 0 s0=app2 acc (decE last s)
 la:last<=255
 il:acc.length<=last
def StD(s0:List UInt8):Type:={p:List UInt8×Nat×List At // InvD s0 p.1 p.2.1 p.2.2}
def ID(s0:List UInt8)(p:StD s0):List Value×List (Option AObj):=
 ([pA 100,mkS 102 p.1.2.2.length,pA 101,.int .u8 (p.1.2.1:Int)],[some (tRd (bytesOf p.1.1)),some eC,mo (cellsA p.1.2.2) 152 2])
def RD(s0:List UInt8)(e:Exit)(v:List Value)(o:List (Option AObj)):Prop:=
 ((decE 0 s0).1=0/\e = .exit 0/\v=[mkS 102 (decE 0 s0).2.length,pA 101]/\o=[none,some eC,mo (cellsA (decE 0 s0).2) 152 2])∨
 ((decE 0 s0).1≠0/\e=pan ((decE 0 s0).1:Int)/\v=[top,pA 101]/\o=[none,some eC])
theorem wk_p{s:ByteArray}{x:Value}{ob:Option AObj}:Wk 100 102 [x,pA 101] [some (tRd s),some eC,ob] [top,pA 101] [none,some eC]:=
 (wk_weak (.cons (.top _) (WeakL.refl _)) (.cons (.none _) (WeakOs.refl _))).trans (wk_drop (k0:=2) (pre:=[none,some eC]) (extra:=[ob]) rfl rfl (fun i o h=>by
  rcases i with _|_|i
  ·simp at h
  ·simp only[List.getElem?_cons_succ,List.getElem?_cons_zero,Option.some.injEq]at h;subst h;rfl
  ·simp at h))
theorem pan_eq{s0:List UInt8}{acc:List At}{e:Nat}{q:Nat×List At}(h:decE 0 s0=app2 acc q)(hq:q=(e,[]))(he:e≠0):(decE 0 s0).1≠0/\pan (e:Int)=pan ((decE 0 s0).1:Int):=by
 subst hq
 have:(decE 0 s0).1=e:=by rw[h];unfold app2;simp[he]
 rw[this];exact⟨he,rfl⟩
theorem roundD(s0:List UInt8)(p:StD s0):
  Is (wpe Try.prog (real Try.prog) WS2 300 (.code false (loopIn Try.prog 110 3) (stOf 100 37 [0,2,3,4] dsC (ID s0 p))) (roundQ 100 [0,2,3,4] [2,3] 37 dsC
   (fun vals objs=>∃a':StD s0,a'.1.1.length<p.1.1.length/\Wk 100 (100+2) vals objs (ID s0 a').1 (ID s0 a').2/\∀e v o,RD s0 e v o->RD s0 e v o)
   (fun e vals objs=>∃v o,Wk 100 (100+2) vals objs v o/\RD s0 e v o))):=by
 refine⟨?_⟩
 obtain⟨⟨s,last,acc⟩,inv⟩:=p
 have heq:=inv.eq
 have hla:=inv.la
 have hil:=inv.il
 dsimp only at heq hla hil
 show gDecR (real Try.prog) (bytesOf s) acc.length (mo (cellsA acc) 152 2) (last:Int) _ _
 rw[gDecR_eq]
 rcases s with _|⟨t,_|⟨a,_|⟨b,r⟩⟩⟩
 ·refine n_scmp_ne (fun h=>absurd rfl h) (fun _=>⟨rfl,_,_,wk_weak (WeakL.refl _) (.cons (.none _) (WeakOs.refl _)),.inl ?_⟩)
  have h0:decE 0 s0=(0,acc):=by rw[heq,decE_nil];unfold app2;simp
  rw[h0];exact⟨rfl,rfl,rfl,rfl⟩
 ·have hp:=pan_eq heq (decE_short (by simp) (by simp)) (by omega)
  exact n_scmp_ne (fun _=>n_slen (n_ltN (d:=3) (fun _=>⟨rfl,rfl,_,_,wk_p,.inr ⟨hp.1,hp.2,rfl,rfl⟩⟩) (fun h=>absurd h (by simp[bytes_toList])))) (fun h=>absurd h (List.cons_ne_nil _ _))
 ·have hp:=pan_eq heq (decE_short (by simp) (by simp)) (by omega)
  exact n_scmp_ne (fun _=>n_slen (n_ltN (d:=3) (fun _=>⟨rfl,rfl,_,_,wk_p,.inr ⟨hp.1,hp.2,rfl,rfl⟩⟩) (fun h=>absurd h (by simp[bytes_toList])))) (fun h=>absurd h (List.cons_ne_nil _ _))
 refine n_scmp_ne (fun _=>n_slen (n_ltN (d:=3) (fun h=>absurd h (by simp[bytes_toList])) (fun _=>?_))) (fun h=>absurd h (List.cons_ne_nil _ _))
 have ht:=t.toNat_lt
 have ha:=a.toNat_lt
 have hb:=b.toNat_lt
 have hn:=num2_lt a b
 refine n_ssl_to 3 rfl (by simp[bytes_toList]) (n_ssl_from 3 rfl (by simp[bytes_toList]) (n_ssl_from 1 rfl (by simp[bytes_toList]) ?_))
 refine n_sat 0 rfl (b:=a) rfl (n_fit uU8 uI64 (fit_i64 (by omega)) (n_shl8I (by omega) ?_))
 refine n_sat 1 rfl (b:=b) rfl (n_fit uU8 uI64 (fit_i64 (by omega)) (n_or8I (by omega) hb ?_))
 show(real Try.prog).sat _ _ _
 refine n_sat 0 rfl (b:=t) rfl (n_gtN (fun h1=>?_) (fun h1=>?_))
 ·refine n_gtN (m:=num2 a b) (d:=0) (fun h2=>?_) (fun h2=>?_)
  ·have hc:¬(t.toNat<=last∨num2 a b=0):=by omega
   refine n_sat 0 rfl (b:=t) rfl (n_slen (n_ltN (d:=num2 a b) (fun h3=>?_) (fun h3=>?_)))
   ·have hp:=pan_eq heq (decE_cut hc h3) (by omega)
    exact⟨rfl,rfl,_,_,wk_p,.inr ⟨hp.1,hp.2,rfl,rfl⟩⟩
   ·have h3':num2 a b<=r.length:=h3
    have hT:tops=140737488355328:=rfl
    rw[decE_step hc (by omega),app2_cons]at heq
    have hacc:(acc++[(⟨t.toNat,bytesOf (r.take (num2 a b))⟩:At)]).length=acc.length+1:=by simp
    refine n_ssl_to (num2 a b) rfl h3 (n_ssl_from (num2 a b) rfl h3 ?_)
    refine n_base_mo (cellsA_len _) (by omega) (n_appX (by omega) rfl rfl (by omega) (by omega) ⟨rfl,⟨⟨r.drop (num2 a b),t.toNat,acc++[⟨t.toNat,bytesOf (r.take (num2 a b))⟩]⟩,⟨heq,by dsimp only;omega,by dsimp only;omega⟩⟩,?_,?_,fun _ _ _ h=>h⟩)
    ·show(r.drop (num2 a b)).length<(t::a::b::r).length
     simp;omega
    ·have hcell:cellsA acc++[.int .u8 (t.toNat:Int),.string (bytesOf (r.take (num2 a b)))]=cellsA (acc++[⟨t.toNat,bytesOf (r.take (num2 a b))⟩]):=by
      rw[cellsA_app];rfl
     show Wk 100 (100+2) _ _ ([pA 100]++mkS (100+2) (acc++[(⟨t.toNat,bytesOf (r.take (num2 a b))⟩:At)]).length::[pA 101,.int .u8 (t.toNat:Int)]) ([some (tRd (bytesOf (r.drop (num2 a b)))),some eC]++[mo (cellsA (acc++[⟨t.toNat,bytesOf (r.take (num2 a b))⟩])) 152 2])
     rw[←hcell,mo_ne (by simp),hacc]
     exact wk_outG (k0:=2) (j:=4) (va:=[pA 100]) (by omega) rfl (by rw[hcell];exact cellsA_below _) rfl rfl (by omega) rfl (pre2 rfl rfl rfl rfl)
  ·have hp:=pan_eq heq (decE_form (.inr (by omega))) (by omega)
   exact⟨rfl,rfl,_,_,wk_p,.inr ⟨hp.1,hp.2,rfl,rfl⟩⟩
 ·have hp:=pan_eq heq (decE_form (.inl h1)) (by omega)
  exact⟨rfl,rfl,_,_,wk_p,.inr ⟨hp.1,hp.2,rfl,rfl⟩⟩
def LD(s0:List UInt8):LAt:=fun c n vals ds obs A E=>c=loopIn Try.prog 110 3/\n=37/\vals=[pA 100,.slice none 0 0,pA 101,.int .u8 (0:Int)]/\ds=dsC/\obs=[some (tRd (bytesOf s0)),some eC]/\
 ((decE 0 s0).1=0->A (decE 0 s0).2.length (mo (cellsA (decE 0 s0).2) 152 2))/\((decE 0 s0).1≠0->E ((decE 0 s0).1:Int))
theorem lpD(s0:List UInt8):LoopOk Try.prog 100 [0,2,3,4] (sLoopD (LD s0)):=by
 show LoopOk Try.prog 100 [0,2,3,4] (lpSD [2,3] _)
 refine lp_mkD okp (W:=WS2) kn_none lp_none ?_
 rintro c n vals ds obs K ⟨hc,hn,hv,hd,ho,hA,hE⟩
 subst hc;subst hn;subst hv;subst hd;subst ho
 refine⟨StD s0,2,300,fun p=>p.1.1.length,ID s0,fun _ e v o=>RD s0 e v o,⟨⟨s0,0,[]⟩,⟨(app2_nil _ (decE_err _ _)).symm,by dsimp only;omega,by simp⟩⟩,rfl,rfl,?_,?_,roundD s0⟩
 ·exact wk_nilG (va:=[pA 100])
 intro e v o hR
 rcases hR with⟨h1,rfl,rfl,rfl⟩ | ⟨h1,rfl,rfl,rfl⟩
 ·exact hA h1
 ·exact hE h1
def retD(q:Nat×List At):Value := .tuple ⟨[dsl (rowsT q.2),.int .i64 (q.1:Int)]⟩
theorem retD_err{q:Nat×List At}(h:q.2=[]):Weak (.tuple ⟨[.slice none 0 0,.int .i64 (q.1:Int)]⟩) (retD q):=by
 unfold retD;rw[h];exact .tup (.cons .nilD (WeakL.refl _))
theorem decC(s0:List UInt8):Is (gDec (real Try.prog) (LD s0) (bytesOf s0) (PQ (retD (decE 0 s0)))):=by
 refine⟨?_⟩
 rw[gDec_eq]
 refine⟨rfl,rfl,rfl,rfl,rfl,fun h=>n_neq (fun h=>absurd rfl h) (fun _=>?_),fun h=>n_neq (fun _=>?_) (fun h2=>absurd h2 (by omega))⟩
 ·unfold retD;rw[h]
  exact(wk_tup (wk_set_frzM 0 2 rfl rfl (flatA _) (cellsA_below _) (by omega) (List.length_map _).symm)).trans (wk_pure rfl)
 ·exact(wk_weak (.cons (retD_err (decE_err _ _ h)) .nil) (WeakOs.refl _)).trans (wk_pure rfl)
abbrev MDt:=ByteArray->(List Value->Prop)->Prop->Prop->Prop
def sDec(M:MDt):List Value->(Value->Prop)->Prop
 | [.string s],K=>M s (fun rs=>K (.tuple ⟨[dsl rs,.int .i64 0]⟩)) (K (.tuple ⟨[dsl [],.int .i64 3]⟩)) (K (.tuple ⟨[dsl [],.int .i64 4]⟩))
 |_,_=>False
def MD:MDt:=fun s A E3 E4=>((decE 0 s.data.toList).1=0->A (rowsT (decE 0 s.data.toList).2))/\((decE 0 s.data.toList).1=3->E3)/\((decE 0 s.data.toList).1=4->E4)
theorem retD_below(q:Nat×List At):below 100 (retD q)=true:=rfl
theorem puDec:PuOk Try.prog 100 95 (sDec MD):=by
 intro args K h
 unfold sDec at h
 split at h<;>try exact h.elim
 rename_i s
 have hc:∀B H,CallH Try.prog 100 B 95 [.string s] H (.returned (retD (decE 0 s.data.toList))) H:=fun B H=>by
  have:=pu_mk okp kn_none (lp_ok (fun x hx=>by simp only[List.mem_singleton]at hx;subst hx;exact lpD s.data.toList)) rfl (retD_below _) (decC s.data.toList) B H
  rw[bytes_eta]at this;exact this
 refine⟨_,hc,?_⟩
 rcases decE_errs _ 0 s.data.toList (Nat.le_refl _)with h0|h0|h0
 ·have:=h.1 h0
  unfold retD;rw[h0];exact this
 ·have:=h.2.1 h0
  unfold retD;rw[decE_err _ _ (by omega),h0];exact this
 ·have:=h.2.2 h0
  unfold retD;rw[decE_err _ _ (by omega),h0];exact this
structure InvL2(t:Nat)(s0 s:List UInt8)(acc:List ByteArray):Prop where
 eq:lstE t 0 s0=app2 acc (lstE t acc.length s)
 il:acc.length<=t
def StL(t:Nat)(s0:List UInt8):Type:={p:List UInt8×List ByteArray // InvL2 t s0 p.1 p.2}
def IL2(t:Nat)(s0:List UInt8)(p:StL t s0):List Value×List (Option AObj):=
 ([pA 100,.int .i64 (t:Int),mkS 102 p.1.2.length,pA 101],[some (tRd (bytesOf p.1.1)),some eC,mo (strC p.1.2) 9 1])
def RL2(t:Nat)(s0:List UInt8)(e:Exit)(v:List Value)(o:List (Option AObj)):Prop:=
 ((lstE t 0 s0).1=0/\e = .exit 0/\v=[mkS 102 (lstE t 0 s0).2.length,pA 101]/\o=[none,some eC,mo (strC (lstE t 0 s0).2) 9 1])∨
 ((lstE t 0 s0).1≠0/\e=pan ((lstE t 0 s0).1:Int)/\v=[top,pA 101]/\o=[none,some eC])
theorem panL_eq{t:Nat}{s0:List UInt8}{acc:List ByteArray}{e:Nat}{q:Nat×List ByteArray}(h:lstE t 0 s0=app2 acc q)(hq:q=(e,[]))(he:e≠0):(lstE t 0 s0).1≠0/\pan (e:Int)=pan ((lstE t 0 s0).1:Int):=by
 subst hq
 have:(lstE t 0 s0).1=e:=by rw[h];unfold app2;simp[he]
 rw[this];exact⟨he,rfl⟩
theorem roundL2(t:Nat)(hm:t<=1000)(s0:List UInt8)(p:StL t s0):
  Is (wpe Try.prog (real Try.prog) WS2 300 (.code false (loopIn Try.prog 111 2) (stOf 100 27 [0,1,4,5] dsC (IL2 t s0 p))) (roundQ 100 [0,1,4,5] [4,5] 27 dsC
   (fun vals objs=>∃a':StL t s0,a'.1.1.length<p.1.1.length/\Wk 100 (100+2) vals objs (IL2 t s0 a').1 (IL2 t s0 a').2/\∀e v o,RL2 t s0 e v o->RL2 t s0 e v o)
   (fun e vals objs=>∃v o,Wk 100 (100+2) vals objs v o/\RL2 t s0 e v o))):=by
 refine⟨?_⟩
 obtain⟨⟨s,acc⟩,inv⟩:=p
 have heq:=inv.eq
 have hil:=inv.il
 dsimp only at heq hil
 show gRLR (real Try.prog) (bytesOf s) (t:Int) acc.length (mo (strC acc) 9 1) _ _
 rw[gRLR_eq]
 rcases s with _|⟨a,_|⟨b,r⟩⟩
 ·refine n_scmp_ne (fun h=>absurd rfl h) (fun _=>⟨rfl,_,_,wk_weak (WeakL.refl _) (.cons (.none _) (WeakOs.refl _)),.inl ?_⟩)
  have h0:lstE t 0 s0=(0,acc):=by rw[heq,lstE_nil];unfold app2;simp
  rw[h0];exact⟨rfl,rfl,rfl,rfl⟩
 ·have hp:=panL_eq heq (lstE_short (by simp) (by simp)) (by omega)
  exact n_scmp_ne (fun _=>n_slen (n_ltN (d:=2) (fun _=>⟨rfl,rfl,_,_,wk_p,.inr ⟨hp.1,hp.2,rfl,rfl⟩⟩) (fun h=>absurd h (by simp[bytes_toList])))) (fun h=>absurd h (List.cons_ne_nil _ _))
 refine n_scmp_ne (fun _=>n_slen (n_ltN (d:=2) (fun h=>absurd h (by simp[bytes_toList])) (fun _=>?_))) (fun h=>absurd h (List.cons_ne_nil _ _))
 have ha:=a.toNat_lt
 have hb:=b.toNat_lt
 have hn:=num2_lt a b
 refine n_ssl_to 2 rfl (by simp[bytes_toList]) (n_ssl_from 2 rfl (by simp[bytes_toList]) ?_)
 refine n_sat 0 rfl (b:=a) rfl (n_fit uU8 uI64 (fit_i64 (by omega)) (n_shl8I (by omega) ?_))
 refine n_sat 1 rfl (b:=b) rfl (n_fit uU8 uI64 (fit_i64 (by omega)) (n_or8I (by omega) hb ?_))
 refine n_ltN (m:=acc.length) (d:=t) (fun h1=>?_) (fun h1=>?_)
 ·refine n_slen (n_ltN (d:=num2 a b) (fun h3=>?_) (fun h3=>?_))
  ·have hp:=panL_eq heq (lstE_cut (by omega) h3) (by omega)
   exact⟨rfl,rfl,_,_,wk_p,.inr ⟨hp.1,hp.2,rfl,rfl⟩⟩
  ·have h3':num2 a b<=r.length:=h3
   have hT:tops=140737488355328:=rfl
   rw[lstE_step (by omega) (by omega),app2_cons]at heq
   have hacc:(acc++[bytesOf (r.take (num2 a b))]).length=acc.length+1:=by simp
   rw[←hacc]at heq
   refine n_ssl_to (num2 a b) rfl h3 (n_ssl_from (num2 a b) rfl h3 ?_)
   refine n_base_mo (by rw[strC_len,Nat.mul_one]) (by omega) (n_appX (by omega) rfl rfl (by omega) (by omega) ⟨rfl,⟨⟨r.drop (num2 a b),acc++[bytesOf (r.take (num2 a b))]⟩,⟨heq,by dsimp only;omega⟩⟩,?_,?_,fun _ _ _ h=>h⟩)
   ·show(r.drop (num2 a b)).length<(a::b::r).length
    simp;omega
   ·have hcell:strC acc++[.string (bytesOf (r.take (num2 a b)))]=strC (acc++[bytesOf (r.take (num2 a b))]):=by simp[strC]
    show Wk 100 (100+2) _ _ ([pA 100,.int .i64 (t:Int)]++mkS (100+2) (acc++[bytesOf (r.take (num2 a b))]).length::[pA 101]) ([some (tRd (bytesOf (r.drop (num2 a b)))),some eC]++[mo (strC (acc++[bytesOf (r.take (num2 a b))])) 9 1])
    rw[←hcell,mo_ne (by simp),hacc]
    exact wk_outG (k0:=2) (j:=4) (va:=[pA 100,.int .i64 (t:Int)]) (by omega) rfl (by rw[hcell];exact strC_below _ _) rfl rfl (by omega) rfl (pre2 rfl rfl rfl rfl)
 ·have hp:=panL_eq heq (lstE_full h1) (by omega)
  exact⟨rfl,rfl,_,_,wk_p,.inr ⟨hp.1,hp.2,rfl,rfl⟩⟩
def LL2(t:Nat)(s0:List UInt8):LAt:=fun c n vals ds obs A E=>c=loopIn Try.prog 111 2/\n=27/\vals=[pA 100,.int .i64 (t:Int),.slice none 0 0,pA 101]/\ds=dsC/\obs=[some (tRd (bytesOf s0)),some eC]/\
 ((lstE t 0 s0).1=0->A (lstE t 0 s0).2.length (mo (strC (lstE t 0 s0).2) 9 1))/\((lstE t 0 s0).1≠0->E ((lstE t 0 s0).1:Int))
theorem lpL2(t:Nat)(hm:t<=1000)(s0:List UInt8):LoopOk Try.prog 100 [0,1,4,5] (sLoopI2 (LL2 t s0)):=by
 show LoopOk Try.prog 100 [0,1,4,5] (lpSD [4,5] _)
 refine lp_mkD okp (W:=WS2) kn_none lp_none ?_
 rintro c n vals ds obs K ⟨hc,hn,hv,hd,ho,hA,hE⟩
 subst hc;subst hn;subst hv;subst hd;subst ho
 refine⟨StL t s0,2,300,fun p=>p.1.1.length,IL2 t s0,fun _ e v o=>RL2 t s0 e v o,⟨⟨s0,[]⟩,⟨(app2_nil _ (lstE_err _ _ _)).symm,by simp⟩⟩,rfl,rfl,?_,?_,roundL2 t hm s0⟩
 ·exact wk_nilG (va:=[pA 100,.int .i64 (t:Int)])
 intro e v o hR
 rcases hR with⟨h1,rfl,rfl,rfl⟩ | ⟨h1,rfl,rfl,rfl⟩
 ·exact hA h1
 ·exact hE h1
def retL2(q:Nat×List ByteArray):Value := .tuple ⟨[dsl (rowsOf cSt q.2),.int .i64 (q.1:Int)]⟩
theorem retL2_err{q:Nat×List ByteArray}(h:q.2=[]):Weak (.tuple ⟨[.slice none 0 0,.int .i64 (q.1:Int)]⟩) (retL2 q):=by
 unfold retL2;rw[h];exact .tup (.cons .nilD (WeakL.refl _))
theorem rlC(t:Nat)(s0:List UInt8):Is (gRL (real Try.prog) (LL2 t s0) (bytesOf s0) (t:Int) (PQ (retL2 (lstE t 0 s0)))):=by
 refine⟨?_⟩
 rw[gRL_eq]
 refine⟨rfl,rfl,rfl,rfl,rfl,fun h=>n_neq (fun h=>absurd rfl h) (fun _=>?_),fun h=>n_neq (fun _=>?_) (fun h2=>absurd h2 (by omega))⟩
 ·unfold retL2;rw[h]
  exact(wk_tup (wk_set_frzM 0 2 rfl rfl (strC_flat _) (strC_below _ _) (by omega) (rowsOf_len _ _).symm)).trans (wk_pure rfl)
 ·exact(wk_weak (.cons (retL2_err (lstE_err _ _ _ h)) .nil) (WeakOs.refl _)).trans (wk_pure rfl)
abbrev MLt2:=ByteArray->Int->(List Value->Prop)->Prop->Prop->Prop
def sRL(M:MLt2):List Value->(Value->Prop)->Prop
 | [.string s,.int .i64 t],K=>M s t (fun rs=>K (.tuple ⟨[dsl rs,.int .i64 0]⟩)) (K (.tuple ⟨[dsl [],.int .i64 3]⟩)) (K (.tuple ⟨[dsl [],.int .i64 4]⟩))
 |_,_=>False
def MRL:MLt2:=fun s m A E3 E4=>∃t:Nat,m=t/\t<=1000/\((lstE t 0 s.data.toList).1=0->A (rowsOf cSt (lstE t 0 s.data.toList).2))/\((lstE t 0 s.data.toList).1=3->E3)/\((lstE t 0 s.data.toList).1=4->E4)
theorem retL2_below(q:Nat×List ByteArray):below 100 (retL2 q)=true:=rfl
theorem puRL:PuOk Try.prog 100 99 (sRL MRL):=by
 intro args K h
 unfold sRL at h
 split at h<;>try exact h.elim
 rename_i s m
 obtain⟨t,rfl,ht,hA,hE3,hE4⟩:=h
 have hc:∀B H,CallH Try.prog 100 B 99 [.string s,.int .i64 (t:Int)] H (.returned (retL2 (lstE t 0 s.data.toList))) H:=fun B H=>by
  have:=pu_mk okp kn_none (lp_ok (fun x hx=>by simp only[List.mem_singleton]at hx;subst hx;exact lpL2 t ht s.data.toList)) rfl (retL2_below _) (rlC t s.data.toList) B H
  rw[bytes_eta]at this;exact this
 refine⟨_,hc,?_⟩
 rcases lstE_errs _ t 0 s.data.toList (Nat.le_refl _)with h0|h0|h0
 ·have:=hA h0
  unfold retL2;rw[h0];exact this
 ·have:=hE3 h0
  unfold retL2;rw[lstE_err _ _ _ (by omega),h0];exact this
 ·have:=hE4 h0
  unfold retL2;rw[lstE_err _ _ _ (by omega),h0];exact this
def IN(s:ByteArray)(t:Nat)(i:{i:Nat // i<=s.data.toList.length}):List Value×List (Option AObj):=
 ([.string s,.int .u64 (t:Int),.int .u64 (valB (s.data.toList.take i.1):Int),.int .i64 (s.data.toList.length:Int),.int .i64 (i.1:Int)],[])
def RN(s:ByteArray)(t:Nat)(e:Exit)(v:List Value)(o:List (Option AObj)):Prop:=e = .exit 0/\v=[.int .u64 (t:Int),.int .u64 (valB s.data.toList:Int)]/\o=[]
theorem pow7{l:List UInt8}(h:l.length<=7):valB l<72057594037927936:=by
 have h1:=valB_bound l
 have h2:256 ^ l.length<=256 ^ 7:=Nat.pow_le_pow_right (by omega) h
 have h3:(256:Nat) ^ 7=72057594037927936:=by decide
 omega
theorem roundN(s:ByteArray)(t:Nat)(h8:s.data.toList.length<=8)(i:{i:Nat // i<=s.data.toList.length}):
  Is (wpe Try.prog (real Try.prog) (howOf (fun _=>none) (fun _=>false) [] [] [] []) 300 (.code false (loopIn Try.prog 103 5) (stOf 100 37 [0,1,6,21,22] [] (IN s t i))) (roundQ 100 [0,1,6,21,22] [1,6] 37 []
   (fun vals objs=>∃a':{i:Nat // i<=s.data.toList.length},s.data.toList.length-a'.1<s.data.toList.length-i.1/\Wk 100 (100+0) vals objs (IN s t a').1 (IN s t a').2/\∀e v o,RN s t e v o->RN s t e v o)
   (fun e vals objs=>∃v o,Wk 100 (100+0) vals objs v o/\RN s t e v o))):=by
 refine⟨?_⟩
 obtain⟨i,hi⟩:=i
 show gRNR (real Try.prog) s (t:Int) (valB (s.data.toList.take i):Int) (s.data.toList.length:Int) (i:Int) _ _
 rw[gRNR_eq]
 refine n_ltN (fun hlt=>?_) (fun hge=>?_)
 ·have hx:s.data.toList[i]?=some s.data.toList[i]:=List.getElem?_eq_getElem hlt
  generalize s.data.toList[i]=b at hx
  have hb:=b.toNat_lt
  have h7:=pow7 (l:=s.data.toList.take i) (by rw[List.length_take];omega)
  refine n_shl8U h7 (n_sat i rfl hx (n_fit uU8 uU64 (fit_u64 (by omega)) (n_or8U h7 hb (n_inc (by omega) ⟨rfl,⟨i+1,hlt⟩,?_,?_,fun _ _ _ h=>h⟩))))
  ·show s.data.toList.length-(i+1)<s.data.toList.length-i
   omega
  ·have:valB (s.data.toList.take (i+1))=valB (s.data.toList.take i)*256+b.toNat:=by rw[List.take_add_one,hx];exact valB_snoc _ _
   show Wk 100 (100+0) _ _ [.string s,.int .u64 (t:Int),.int .u64 (valB (s.data.toList.take (i+1)):Int),_,_] []
   rw[this]
   exact Wk.refl _ _ _ _
 ·have e:i=s.data.toList.length:=by omega
  subst e
  rw[List.take_length]
  exact⟨rfl,_,_,Wk.refl _ _ _ _,rfl,rfl,rfl⟩
def LN(s:ByteArray)(t:Nat):LNt:=fun c n vals obs A=>c=loopIn Try.prog 103 5/\n=37/\vals=[.string s,.int .u64 (t:Int),.int .u64 (0:Int),.int .i64 (s.data.toList.length:Int),.int .i64 (0:Int)]/\obs=[]/\s.data.toList.length<=8/\A (valB s.data.toList:Int)
theorem lpN(s:ByteArray)(t:Nat):LoopOk Try.prog 100 [0,1,6,21,22] (sLoopN (LN s t)):=by
 show LoopOk Try.prog 100 [0,1,6,21,22] (lpS [1,6] _)
 refine lp_mk okp (W:=howOf (fun _=>none) (fun _=>false) [] [] [] []) kn_none lp_none ?_
 intro c n vals obs K h
 split at h<;>try exact h.elim
 obtain⟨hc,hn,hv,ho,h8,hA⟩:=h
 subst hc;subst hn;subst ho
 simp only[List.cons.injEq]at hv
 obtain⟨rfl,rfl,rfl⟩:=hv
 refine⟨{i:Nat // i<=s.data.toList.length},0,300,fun i=>s.data.toList.length-i.1,IN s t,fun _ e v o=>RN s t e v o,⟨0,Nat.zero_le _⟩,rfl,Wk.refl _ _ _ _,?_,roundN s t h8⟩
 intro e v o hR
 obtain⟨rfl,rfl,rfl⟩:=hR
 exact hA
def retN(o:Option Nat):Value:=match o with
 |some n => .tuple ⟨[.int .u64 (n:Int),.int .i64 0]⟩
 |none => .tuple ⟨[.int .u64 0,.int .i64 3]⟩
theorem rnum_bad{s:List UInt8}{t:Nat}(h:8<s.length∨s[0]?=some 0):rnum s t=none:=by unfold rnum;rw[if_pos h]
theorem rnum_top{s:List UInt8}{t:Nat}(h:t<valB s):rnum s t=none:=by
 unfold rnum;rw[if_pos h];split<;>rfl
theorem rnum_is{s:List UInt8}{t:Nat}(h1:¬8<s.length)(h2:s[0]?≠some 0)(h:¬t<valB s):rnum s t=some (valB s):=by
 unfold rnum
 rw[if_neg (fun h=>h.elim h1 h2),if_neg h]
theorem rnmC(s:ByteArray)(t:Nat):Is (gRNm (real Try.prog) (LN s t) s (t:Int) (fun v=>v=retN (rnum s.data.toList t))):=by
 refine⟨?_⟩
 rw[gRNm_eq]
 refine n_slen (n_gtN (d:=8) (fun h=>by rw[rnum_bad (.inl h)];rfl) (fun h8=>n_scmp_ne (fun hne=>?_) (fun he=>?_)))
 ·have hx:∃b,s.data.toList[0]?=some b:=by
   cases h:s.data.toList with
   |nil=>exact absurd h hne
   |cons b l=>exact⟨b,rfl⟩
  obtain⟨b,hb⟩:=hx
  refine n_sat 0 rfl hb (n_eqN (d:=0) (fun h0=>?_) (fun h0=>?_))
  ·have:b=0:=by apply UInt8.toNat_inj.1;exact h0
   subst this
   rw[rnum_bad (.inr hb)];rfl
  ·have h2:s.data.toList[0]?≠some 0:=by
    rw[hb];intro e
    simp only[Option.some.injEq]at e
    subst e;exact h0 rfl
   exact n_slen ⟨rfl,rfl,rfl,rfl,h8,n_gtN (fun h=>by rw[rnum_top h];rfl) (fun h=>by rw[rnum_is (by omega) h2 (by omega)];rfl)⟩
 ·have he':s.data.toList=[]:=he
  have h2:s.data.toList[0]?≠some 0:=by rw[he'];simp
  exact n_slen ⟨rfl,rfl,rfl,rfl,h8,n_gtN (fun h=>by rw[rnum_top h];rfl) (fun h=>by rw[rnum_is (by omega) h2 (by omega)];rfl)⟩
abbrev MNt:=ByteArray->Int->(Int->Prop)->Prop->Prop
def sRN(M:MNt):List Value->(Value->Prop)->Prop
 | [.string s,.int .u64 t],K=>M s t (fun n=>K (.tuple ⟨[.int .u64 n,.int .i64 0]⟩)) (K (.tuple ⟨[.int .u64 0,.int .i64 3]⟩))
 |_,_=>False
def MRN:MNt:=fun s m A E=>∃t:Nat,m=t/\(∀n:Nat,rnum s.data.toList t=some n->A (n:Int))/\(rnum s.data.toList t=none->E)
theorem puRN:PuOk Try.prog 100 103 (sRN MRN):=by
 intro args K h
 unfold sRN at h
 split at h<;>try exact h.elim
 rename_i s m
 obtain⟨t,rfl,hA,hE⟩:=h
 refine⟨_,fun B H=>pu_mkV okp kn_none (lp_ok (fun x hx=>by simp only[List.mem_singleton]at hx;subst hx;exact lpN s t)) rfl (rnmC s t) B H,?_⟩
 cases h0:rnum s.data.toList t with
 |none=>exact hE h0
 |some n=>exact hA n h0
end
end Go.Proofs.Ytblbaohcelldpaa.Ob
