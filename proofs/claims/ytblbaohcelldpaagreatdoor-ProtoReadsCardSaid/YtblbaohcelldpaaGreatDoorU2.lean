/- . -/
import Derived.Test.YtblbaohcelldpaaGreatDoorWH
set_option linter.all false
set_option maxRecDepth 100000
namespace Go.Proofs.Ob
open Go Go.Abs Go.Tlv
noncomputable section
theorem uU8:Tryz.prog.underlying 5=some (.int .u8):=by kernel_rfl
theorem DU:Tryz.prog.underlying 3=some (.int .i64):=by kernel_rfl
theorem CW:Tryz.prog.underlying 28=some (.int .u64):=by kernel_rfl
theorem tY:Tryz.prog.underlying 27=some (.int .u32):=by kernel_rfl
def CZ(l:List At):Lv:=l.map AH6
def cSt(s:ByteArray):Lv:=[.string s]
def OU(l:List ByteArray):Lv:=l.map fun s => .string s
theorem kD(l:List ByteArray):BU 1 (rowsOf cSt l)=some (OU l):=by
 induction l with
 |nil=>rfl
 |cons a l ih=>
  show BU 1 (.agg ⟨[.string a]⟩::rowsOf cSt l)=_
  simp only[BU,ih];rfl
theorem RU(n:Nat)(l:List ByteArray):A8 n (OU l)=true:=by
 induction l with
 |nil=>rfl
 |cons a l ih=>show(true&&A8 n (OU l))=true;rw[ih];rfl
theorem tO(l:List ByteArray):(OU l).length=l.length:=by simp[OU]
theorem AJP{a b:AJ}(ha:C8 102 (some a)=true)(hb:C8 102 (some b)=true){AL:Lo}(h0:AL[0]?=some (some a))(h1:AL[1]?=some (some b)):
  ∀(i:Nat) o,([some a,some b]:Lo)[i]?=some (some o)->AL[i]?=some (some o)/\C8 (100+2) (some o)=true:=by
 intro i o h
 rcases i with _|_|i
 ·simp only[List.getElem?_cons_zero,Option.some.injEq]at h;subst h;exact⟨h0,ha⟩
 ·simp only[List.getElem?_cons_succ,List.getElem?_cons_zero,Option.some.injEq]at h;subst h;exact⟨h1,hb⟩
 ·simp at h
structure AKl(s0 s:List UInt8)(last:Nat)(acc:List At):Prop where
 eq:CP 0 s0=QU acc (CP last s)
 la:last<=255
 il:acc.length<=last
def StD(s0:List UInt8):Type:={p:List UInt8×Nat×List At // AKl s0 p.1 p.2.1 p.2.2}
def ID(s0:List UInt8)(p:StD s0):Lv×Lo:=
 ([pA 100,mkS 102 p.1.2.2.length,pA 101,.int .u8 (p.1.2.1:Int)],[some (tRd (bytesOf p.1.1)),some eC,mo (DD p.1.2.2) 94 2])
def RD(s0:List UInt8)(e:Exit)(v:Lv)(o:Lo):Prop:=
 ((CP 0 s0).1=0/\e = .exit 0/\v=[mkS 102 (CP 0 s0).2.length,pA 101]/\o=[none,some eC,mo (DD (CP 0 s0).2) 94 2])∨
 ((CP 0 s0).1≠0/\e=pan ((CP 0 s0).1:Int)/\v=[top,pA 101]/\o=[none,some eC])
theorem uD{s:ByteArray}{x:Value}{ob:Option AJ}:Wk 100 102 [x,pA 101] [some (tRd s),some eC,ob] [top,pA 101] [none,some eC]:=
 (CQ (.cons (.top _) (BR.refl _)) (.cons (.none _) (D7.refl _))).trans (I8 (k0:=2) (pre:=[none,some eC]) (extra:=[ob]) rfl rfl (fun i o h=>by
  rcases i with _|_|i
  ·simp at h
  ·simp only[List.getElem?_cons_succ,List.getElem?_cons_zero,Option.some.injEq]at h;subst h;rfl
  ·simp at h))
theorem YY{s0:List UInt8}{acc:List At}{e:Nat}{q:Nat×List At}(h:CP 0 s0=QU acc q)(hq:q=(e,[]))(he:e≠0):(CP 0 s0).1≠0/\pan (e:Int)=pan ((CP 0 s0).1:Int):=by
 subst hq
 have:(CP 0 s0).1=e:=by rw[h];unfold QU;simp[he]
 rw[this];exact⟨he,rfl⟩
theorem AH4(s0:List UInt8)(p:StD s0):
  Is (wpe Tryz.prog (real Tryz.prog) WS2 300 (.code false (AO Tryz.prog 73 3) (C9 100 37 [0,2,3,4] dsC (ID s0 p))) (BM 100 [0,2,3,4] [2,3] 37 dsC
   (fun AB AL=>∃a':StD s0,a'.1.1.length<p.1.1.length/\Wk 100 (100+2) AB AL (ID s0 a').1 (ID s0 a').2/\∀e v o,RD s0 e v o->RD s0 e v o)
   (fun e AB AL=>∃v o,Wk 100 (100+2) AB AL v o/\RD s0 e v o))):=by
 refine⟨?_⟩
 obtain⟨⟨s,last,acc⟩,inv⟩:=p
 have heq:=inv.eq
 have hla:=inv.la
 have hil:=inv.il
 dsimp only at heq hla hil
 show AGq (real Tryz.prog) (bytesOf s) acc.length (mo (DD acc) 94 2) (last:Int) _ _
 rw[ACj]
 rcases s with _|⟨t,_|⟨a,_|⟨b,r⟩⟩⟩
 ·refine EH (fun h=>absurd rfl h) (fun _=>⟨rfl,_,_,CQ (BR.refl _) (.cons (.none _) (D7.refl _)),.inl ?_⟩)
  have h0:CP 0 s0=(0,acc):=by rw[heq,NY];unfold QU;simp
  rw[h0];exact⟨rfl,rfl,rfl,rfl⟩
 ·have hp:=YY heq (G8 (by simp) (by simp)) (by omega)
  exact EH (fun _=>FQ (DW (d:=3) (fun _=>⟨rfl,rfl,_,_,uD,.inr ⟨hp.1,hp.2,rfl,rfl⟩⟩) (fun h=>absurd h (by simp[AZ])))) (fun h=>absurd h (List.cons_ne_nil _ _))
 ·have hp:=YY heq (G8 (by simp) (by simp)) (by omega)
  exact EH (fun _=>FQ (DW (d:=3) (fun _=>⟨rfl,rfl,_,_,uD,.inr ⟨hp.1,hp.2,rfl,rfl⟩⟩) (fun h=>absurd h (by simp[AZ])))) (fun h=>absurd h (List.cons_ne_nil _ _))
 refine EH (fun _=>FQ (DW (d:=3) (fun h=>absurd h (by simp[AZ])) (fun _=>?_))) (fun h=>absurd h (List.cons_ne_nil _ _))
 have ht:=t.toNat_lt
 have ha:=a.toNat_lt
 have hb:=b.toNat_lt
 have hn:=UT a b
 refine XT 3 rfl (by simp[AZ]) (IP 3 rfl (by simp[AZ]) (IP 1 rfl (by simp[AZ]) ?_))
 refine IW 0 rfl (b:=a) rfl (BI uU8 DU (AX (by omega)) (zI (by omega) ?_))
 refine IW 1 rfl (b:=b) rfl (BI uU8 DU (AX (by omega)) (AC1 (by omega) hb ?_))
 show(real Tryz.prog).sat _ _ _
 refine IW 0 rfl (b:=t) rfl (U6 (fun h1=>?_) (fun h1=>?_))
 ·refine U6 (m:=BX a b) (d:=0) (fun h2=>?_) (fun h2=>?_)
  ·have hc:¬(t.toNat<=last∨BX a b=0):=by omega
   refine IW 0 rfl (b:=t) rfl (FQ (DW (d:=BX a b) (fun h3=>?_) (fun h3=>?_)))
   ·have hp:=YY heq (SX hc h3) (by omega)
    exact⟨rfl,rfl,_,_,uD,.inr ⟨hp.1,hp.2,rfl,rfl⟩⟩
   ·have h3':BX a b<=r.length:=h3
    have hT:JU=140737488355328:=rfl
    rw[J7 hc (by omega),UI]at heq
    have hacc:(acc++[(⟨t.toNat,bytesOf (r.take (BX a b))⟩:At)]).length=acc.length+1:=by simp
    refine XT (BX a b) rfl h3 (IP (BX a b) rfl h3 ?_)
    refine EM (VP _) (by omega) (I1 (by omega) rfl rfl (by omega) (by omega) ⟨rfl,⟨⟨r.drop (BX a b),t.toNat,acc++[⟨t.toNat,bytesOf (r.take (BX a b))⟩]⟩,⟨heq,by dsimp only;omega,by dsimp only;omega⟩⟩,?_,?_,fun _ _ _ h=>h⟩)
    ·show(r.drop (BX a b)).length<(t::a::b::r).length
     simp;omega
    ·have hcell:DD acc++[.int .u8 (t.toNat:Int),.string (bytesOf (r.take (BX a b)))]=DD (acc++[⟨t.toNat,bytesOf (r.take (BX a b))⟩]):=by
      rw[VO];rfl
     show Wk 100 (100+2) _ _ ([pA 100]++mkS (100+2) (acc++[(⟨t.toNat,bytesOf (r.take (BX a b))⟩:At)]).length::[pA 101,.int .u8 (t.toNat:Int)]) ([some (tRd (bytesOf (r.drop (BX a b)))),some eC]++[mo (DD (acc++[⟨t.toNat,bytesOf (r.take (BX a b))⟩])) 94 2])
     rw[←hcell,M9 (by simp),hacc]
     exact KN (k0:=2) (j:=4) (va:=[pA 100]) (by omega) rfl (by rw[hcell];exact KE _) rfl rfl (by omega) rfl (AJP rfl rfl rfl rfl)
  ·have hp:=YY heq (J6 (.inr (by omega))) (by omega)
   exact⟨rfl,rfl,_,_,uD,.inr ⟨hp.1,hp.2,rfl,rfl⟩⟩
 ·have hp:=YY heq (J6 (.inl h1)) (by omega)
  exact⟨rfl,rfl,_,_,uD,.inr ⟨hp.1,hp.2,rfl,rfl⟩⟩
def LD(s0:List UInt8):LAt:=fun c n AB ds obs A E=>c=AO Tryz.prog 73 3/\n=37/\AB=[pA 100,.slice none 0 0,pA 101,.int .u8 (0:Int)]/\ds=dsC/\obs=[some (tRd (bytesOf s0)),some eC]/\
 ((CP 0 s0).1=0->A (CP 0 s0).2.length (mo (DD (CP 0 s0).2) 94 2))/\((CP 0 s0).1≠0->E ((CP 0 s0).1:Int))
theorem lpD(s0:List UInt8):BH Tryz.prog 100 [0,2,3,4] (ADE (LD s0)):=by
 show BH Tryz.prog 100 [0,2,3,4] (AA0 [2,3] _)
 refine ACX okp (W:=WS2) DR BN ?_
 rintro c n AB ds obs K ⟨hc,hn,hv,hd,ho,hA,hE⟩
 subst hc;subst hn;subst hv;subst hd;subst ho
 refine⟨StD s0,2,300,fun p=>p.1.1.length,ID s0,fun _ e v o=>RD s0 e v o,⟨⟨s0,0,[]⟩,⟨(SI _ (MH _ _)).symm,by dsimp only;omega,by simp⟩⟩,rfl,rfl,?_,?_,AH4 s0⟩
 ·exact L6 (va:=[pA 100])
 intro e v o hR
 rcases hR with⟨h1,rfl,rfl,rfl⟩ | ⟨h1,rfl,rfl,rfl⟩
 ·exact hA h1
 ·exact hE h1
def ZQ(q:Nat×List At):Value := .tuple ⟨[dsl (CZ q.2),.int .i64 (q.1:Int)]⟩
theorem sV{q:Nat×List At}(h:q.2=[]):EI (.tuple ⟨[.slice none 0 0,.int .i64 (q.1:Int)]⟩) (ZQ q):=by
 unfold ZQ;rw[h];exact .tup (.cons .nilD (BR.refl _))
theorem AKB(s0:List UInt8):Is (AJa (real Tryz.prog) (LD s0) (bytesOf s0) (PQ (ZQ (CP 0 s0)))):=by
 refine⟨?_⟩
 rw[AEO]
 refine⟨rfl,rfl,rfl,rfl,rfl,fun h=>dY (fun h=>absurd rfl h) (fun _=>?_),fun h=>dY (fun _=>?_) (fun h2=>absurd h2 (by omega))⟩
 ·unfold ZQ;rw[h]
  exact(fJ (GG 0 2 rfl rfl (AGo _) (KE _) (by omega) (List.length_map _).symm)).trans (F5 rfl)
 ·exact(CQ (.cons (sV (MH _ _ h)) .nil) (D7.refl _)).trans (F5 rfl)
abbrev MDt:=ByteArray->(Lv->Prop)->Prop->Prop->Prop
def ZR(M:MDt):Lv->(Value->Prop)->Prop
 | [.string s],K=>M s (fun rs=>K (.tuple ⟨[dsl rs,.int .i64 0]⟩)) (K (.tuple ⟨[dsl [],.int .i64 3]⟩)) (K (.tuple ⟨[dsl [],.int .i64 4]⟩))
 |_,_=>False
def MD:MDt:=fun s A E3 E4=>((CP 0 s.data.toList).1=0->A (CZ (CP 0 s.data.toList).2))/\((CP 0 s.data.toList).1=3->E3)/\((CP 0 s.data.toList).1=4->E4)
theorem eX(q:Nat×List At):below 100 (ZQ q)=true:=rfl
theorem OE:EW Tryz.prog 100 37 (ZR MD):=by
 intro args K h
 unfold ZR at h
 split at h<;>try exact h.elim
 rename_i s
 have hc:∀B H,BP Tryz.prog 100 B 37 [.string s] H (.returned (ZQ (CP 0 s.data.toList))) H:=fun B H=>by
  have:=jW okp DR (E9 (fun x hx=>by simp only[List.mem_singleton]at hx;subst hx;exact lpD s.data.toList)) rfl (eX _) (AKB s.data.toList) B H
  rw[bytes_eta]at this;exact this
 refine⟨_,hc,?_⟩
 rcases iL _ 0 s.data.toList (Nat.le_refl _)with h0|h0|h0
 ·have:=h.1 h0
  unfold ZQ;rw[h0];exact this
 ·have:=h.2.1 h0
  unfold ZQ;rw[MH _ _ (by omega),h0];exact this
 ·have:=h.2.2 h0
  unfold ZQ;rw[MH _ _ (by omega),h0];exact this
structure AIv(t:Nat)(s0 s:List UInt8)(acc:List ByteArray):Prop where
 eq:DK t 0 s0=QU acc (DK t acc.length s)
 il:acc.length<=t
def StL(t:Nat)(s0:List UInt8):Type:={p:List UInt8×List ByteArray // AIv t s0 p.1 p.2}
def IL2(t:Nat)(s0:List UInt8)(p:StL t s0):Lv×Lo:=
 ([pA 100,.int .i64 (t:Int),mkS 102 p.1.2.length,pA 101],[some (tRd (bytesOf p.1.1)),some eC,mo (OU p.1.2) 9 1])
def RL2(t:Nat)(s0:List UInt8)(e:Exit)(v:Lv)(o:Lo):Prop:=
 ((DK t 0 s0).1=0/\e = .exit 0/\v=[mkS 102 (DK t 0 s0).2.length,pA 101]/\o=[none,some eC,mo (OU (DK t 0 s0).2) 9 1])∨
 ((DK t 0 s0).1≠0/\e=pan ((DK t 0 s0).1:Int)/\v=[top,pA 101]/\o=[none,some eC])
theorem bH{t:Nat}{s0:List UInt8}{acc:List ByteArray}{e:Nat}{q:Nat×List ByteArray}(h:DK t 0 s0=QU acc q)(hq:q=(e,[]))(he:e≠0):(DK t 0 s0).1≠0/\pan (e:Int)=pan ((DK t 0 s0).1:Int):=by
 subst hq
 have:(DK t 0 s0).1=e:=by rw[h];unfold QU;simp[he]
 rw[this];exact⟨he,rfl⟩
theorem AFS(t:Nat)(hm:t<=1000)(s0:List UInt8)(p:StL t s0):
  Is (wpe Tryz.prog (real Tryz.prog) WS2 300 (.code false (AO Tryz.prog 226 2) (C9 100 27 [0,1,4,5] dsC (IL2 t s0 p))) (BM 100 [0,1,4,5] [4,5] 27 dsC
   (fun AB AL=>∃a':StL t s0,a'.1.1.length<p.1.1.length/\Wk 100 (100+2) AB AL (IL2 t s0 a').1 (IL2 t s0 a').2/\∀e v o,RL2 t s0 e v o->RL2 t s0 e v o)
   (fun e AB AL=>∃v o,Wk 100 (100+2) AB AL v o/\RL2 t s0 e v o))):=by
 refine⟨?_⟩
 obtain⟨⟨s,acc⟩,inv⟩:=p
 have heq:=inv.eq
 have hil:=inv.il
 dsimp only at heq hil
 show AJg (real Tryz.prog) (bytesOf s) (t:Int) acc.length (mo (OU acc) 9 1) _ _
 rw[AE3]
 rcases s with _|⟨a,_|⟨b,r⟩⟩
 ·refine EH (fun h=>absurd rfl h) (fun _=>⟨rfl,_,_,CQ (BR.refl _) (.cons (.none _) (D7.refl _)),.inl ?_⟩)
  have h0:DK t 0 s0=(0,acc):=by rw[heq,QD];unfold QU;simp
  rw[h0];exact⟨rfl,rfl,rfl,rfl⟩
 ·have hp:=bH heq (N8 (by simp) (by simp)) (by omega)
  exact EH (fun _=>FQ (DW (d:=2) (fun _=>⟨rfl,rfl,_,_,uD,.inr ⟨hp.1,hp.2,rfl,rfl⟩⟩) (fun h=>absurd h (by simp[AZ])))) (fun h=>absurd h (List.cons_ne_nil _ _))
 refine EH (fun _=>FQ (DW (d:=2) (fun h=>absurd h (by simp[AZ])) (fun _=>?_))) (fun h=>absurd h (List.cons_ne_nil _ _))
 have ha:=a.toNat_lt
 have hb:=b.toNat_lt
 have hn:=UT a b
 refine XT 2 rfl (by simp[AZ]) (IP 2 rfl (by simp[AZ]) ?_)
 refine IW 0 rfl (b:=a) rfl (BI uU8 DU (AX (by omega)) (zI (by omega) ?_))
 refine IW 1 rfl (b:=b) rfl (BI uU8 DU (AX (by omega)) (AC1 (by omega) hb ?_))
 refine DW (m:=acc.length) (d:=t) (fun h1=>?_) (fun h1=>?_)
 ·refine FQ (DW (d:=BX a b) (fun h3=>?_) (fun h3=>?_))
  ·have hp:=bH heq (TB (by omega) h3) (by omega)
   exact⟨rfl,rfl,_,_,uD,.inr ⟨hp.1,hp.2,rfl,rfl⟩⟩
  ·have h3':BX a b<=r.length:=h3
   have hT:JU=140737488355328:=rfl
   rw[NP (by omega) (by omega),UI]at heq
   have hacc:(acc++[bytesOf (r.take (BX a b))]).length=acc.length+1:=by simp
   rw[←hacc]at heq
   refine XT (BX a b) rfl h3 (IP (BX a b) rfl h3 ?_)
   refine EM (by rw[tO,Nat.mul_one]) (by omega) (I1 (by omega) rfl rfl (by omega) (by omega) ⟨rfl,⟨⟨r.drop (BX a b),acc++[bytesOf (r.take (BX a b))]⟩,⟨heq,by dsimp only;omega⟩⟩,?_,?_,fun _ _ _ h=>h⟩)
   ·show(r.drop (BX a b)).length<(a::b::r).length
    simp;omega
   ·have hcell:OU acc++[.string (bytesOf (r.take (BX a b)))]=OU (acc++[bytesOf (r.take (BX a b))]):=by simp[OU]
    show Wk 100 (100+2) _ _ ([pA 100,.int .i64 (t:Int)]++mkS (100+2) (acc++[bytesOf (r.take (BX a b))]).length::[pA 101]) ([some (tRd (bytesOf (r.drop (BX a b)))),some eC]++[mo (OU (acc++[bytesOf (r.take (BX a b))])) 9 1])
    rw[←hcell,M9 (by simp),hacc]
    exact KN (k0:=2) (j:=4) (va:=[pA 100,.int .i64 (t:Int)]) (by omega) rfl (by rw[hcell];exact RU _ _) rfl rfl (by omega) rfl (AJP rfl rfl rfl rfl)
 ·have hp:=bH heq (QC h1) (by omega)
  exact⟨rfl,rfl,_,_,uD,.inr ⟨hp.1,hp.2,rfl,rfl⟩⟩
def LL2(t:Nat)(s0:List UInt8):LAt:=fun c n AB ds obs A E=>c=AO Tryz.prog 226 2/\n=27/\AB=[pA 100,.int .i64 (t:Int),.slice none 0 0,pA 101]/\ds=dsC/\obs=[some (tRd (bytesOf s0)),some eC]/\
 ((DK t 0 s0).1=0->A (DK t 0 s0).2.length (mo (OU (DK t 0 s0).2) 9 1))/\((DK t 0 s0).1≠0->E ((DK t 0 s0).1:Int))
theorem AKR(t:Nat)(hm:t<=1000)(s0:List UInt8):BH Tryz.prog 100 [0,1,4,5] (AAf (LL2 t s0)):=by
 show BH Tryz.prog 100 [0,1,4,5] (AA0 [4,5] _)
 refine ACX okp (W:=WS2) DR BN ?_
 rintro c n AB ds obs K ⟨hc,hn,hv,hd,ho,hA,hE⟩
 subst hc;subst hn;subst hv;subst hd;subst ho
 refine⟨StL t s0,2,300,fun p=>p.1.1.length,IL2 t s0,fun _ e v o=>RL2 t s0 e v o,⟨⟨s0,[]⟩,⟨(SI _ (MX _ _ _)).symm,by simp⟩⟩,rfl,rfl,?_,?_,AFS t hm s0⟩
 ·exact L6 (va:=[pA 100,.int .i64 (t:Int)])
 intro e v o hR
 rcases hR with⟨h1,rfl,rfl,rfl⟩ | ⟨h1,rfl,rfl,rfl⟩
 ·exact hA h1
 ·exact hE h1
def R6(q:Nat×List ByteArray):Value := .tuple ⟨[dsl (rowsOf cSt q.2),.int .i64 (q.1:Int)]⟩
theorem jY{q:Nat×List ByteArray}(h:q.2=[]):EI (.tuple ⟨[.slice none 0 0,.int .i64 (q.1:Int)]⟩) (R6 q):=by
 unfold R6;rw[h];exact .tup (.cons .nilD (BR.refl _))
theorem rlC(t:Nat)(s0:List UInt8):Is (gRL (real Tryz.prog) (LL2 t s0) (bytesOf s0) (t:Int) (PQ (R6 (DK t 0 s0)))):=by
 refine⟨?_⟩
 rw[AHq]
 refine⟨rfl,rfl,rfl,rfl,rfl,fun h=>dY (fun h=>absurd rfl h) (fun _=>?_),fun h=>dY (fun _=>?_) (fun h2=>absurd h2 (by omega))⟩
 ·unfold R6;rw[h]
  exact(fJ (GG 0 2 rfl rfl (kD _) (RU _ _) (by omega) (BJ _ _).symm)).trans (F5 rfl)
 ·exact(CQ (.cons (jY (MX _ _ _ h)) .nil) (D7.refl _)).trans (F5 rfl)
abbrev WE:=ByteArray->Int->(Lv->Prop)->Prop->Prop->Prop
def sRL(M:WE):Lv->(Value->Prop)->Prop
 | [.string s,.int .i64 t],K=>M s t (fun rs=>K (.tuple ⟨[dsl rs,.int .i64 0]⟩)) (K (.tuple ⟨[dsl [],.int .i64 3]⟩)) (K (.tuple ⟨[dsl [],.int .i64 4]⟩))
 |_,_=>False
def MRL:WE:=fun s m A E3 E4=>∃t:Nat,m=t/\t<=1000/\((DK t 0 s.data.toList).1=0->A (rowsOf cSt (DK t 0 s.data.toList).2))/\((DK t 0 s.data.toList).1=3->E3)/\((DK t 0 s.data.toList).1=4->E4)
theorem ZI(q:Nat×List ByteArray):below 100 (R6 q)=true:=rfl
theorem AA7:EW Tryz.prog 100 150 (sRL MRL):=by
 intro args K h
 unfold sRL at h
 split at h<;>try exact h.elim
 rename_i s m
 obtain⟨t,rfl,ht,hA,hE3,hE4⟩:=h
 have hc:∀B H,BP Tryz.prog 100 B 150 [.string s,.int .i64 (t:Int)] H (.returned (R6 (DK t 0 s.data.toList))) H:=fun B H=>by
  have:=jW okp DR (E9 (fun x hx=>by simp only[List.mem_singleton]at hx;subst hx;exact AKR t ht s.data.toList)) rfl (ZI _) (rlC t s.data.toList) B H
  rw[bytes_eta]at this;exact this
 refine⟨_,hc,?_⟩
 rcases jR _ t 0 s.data.toList (Nat.le_refl _)with h0|h0|h0
 ·have:=hA h0
  unfold R6;rw[h0];exact this
 ·have:=hE3 h0
  unfold R6;rw[MX _ _ _ (by omega),h0];exact this
 ·have:=hE4 h0
  unfold R6;rw[MX _ _ _ (by omega),h0];exact this
def IN(s:ByteArray)(t:Nat)(i:{i:Nat // i<=s.data.toList.length}):Lv×Lo:=
 ([.string s,.int .u64 (t:Int),.int .u64 (JV (s.data.toList.take i.1):Int),.int .i64 (s.data.toList.length:Int),.int .i64 (i.1:Int)],[])
def RN(s:ByteArray)(t:Nat)(e:Exit)(v:Lv)(o:Lo):Prop:=e = .exit 0/\v=[.int .u64 (t:Int),.int .u64 (JV s.data.toList:Int)]/\o=[]
theorem AJO{l:List UInt8}(h:l.length<=7):JV l<72057594037927936:=by
 have h1:=fC l
 have h2:256 ^ l.length<=256 ^ 7:=Nat.pow_le_pow_right (by omega) h
 have h3:(256:Nat) ^ 7=72057594037927936:=by decide
 omega
theorem AH5(s:ByteArray)(t:Nat)(h8:s.data.toList.length<=8)(i:{i:Nat // i<=s.data.toList.length}):
  Is (wpe Tryz.prog (real Tryz.prog) (AU (fun _=>none) (fun _=>false) [] [] [] []) 300 (.code false (AO Tryz.prog 142 5) (C9 100 37 [0,1,6,21,22] [] (IN s t i))) (BM 100 [0,1,6,21,22] [1,6] 37 []
   (fun AB AL=>∃a':{i:Nat // i<=s.data.toList.length},s.data.toList.length-a'.1<s.data.toList.length-i.1/\Wk 100 (100+0) AB AL (IN s t a').1 (IN s t a').2/\∀e v o,RN s t e v o->RN s t e v o)
   (fun e AB AL=>∃v o,Wk 100 (100+0) AB AL v o/\RN s t e v o))):=by
 refine⟨?_⟩
 obtain⟨i,hi⟩:=i
 show AJh (real Tryz.prog) s (t:Int) (JV (s.data.toList.take i):Int) (s.data.toList.length:Int) (i:Int) _ _
 rw[AE4]
 refine DW (fun hlt=>?_) (fun hge=>?_)
 ·have hx:s.data.toList[i]?=some s.data.toList[i]:=List.getElem?_eq_getElem hlt
  generalize s.data.toList[i]=b at hx
  have hb:=b.toNat_lt
  have h7:=AJO (l:=s.data.toList.take i) (by rw[List.length_take];omega)
  refine AFu h7 (IW i rfl hx (BI uU8 CW (bC (by omega)) (AHQ h7 hb (BS (by omega) ⟨rfl,⟨i+1,hlt⟩,?_,?_,fun _ _ _ h=>h⟩))))
  ·show s.data.toList.length-(i+1)<s.data.toList.length-i
   omega
  ·have:JV (s.data.toList.take (i+1))=JV (s.data.toList.take i)*256+b.toNat:=by rw[List.take_add_one,hx];exact UZ _ _
   show Wk 100 (100+0) _ _ [.string s,.int .u64 (t:Int),.int .u64 (JV (s.data.toList.take (i+1)):Int),_,_] []
   rw[this]
   exact Wk.refl _ _ _ _
 ·have e:i=s.data.toList.length:=by omega
  subst e
  rw[List.take_length]
  exact⟨rfl,_,_,Wk.refl _ _ _ _,rfl,rfl,rfl⟩
def LN(s:ByteArray)(t:Nat):LNt:=fun c n AB obs A=>c=AO Tryz.prog 142 5/\n=37/\AB=[.string s,.int .u64 (t:Int),.int .u64 (0:Int),.int .i64 (s.data.toList.length:Int),.int .i64 (0:Int)]/\obs=[]/\s.data.toList.length<=8/\A (JV s.data.toList:Int)
theorem lpN(s:ByteArray)(t:Nat):BH Tryz.prog 100 [0,1,6,21,22] (ADF (LN s t)):=by
 show BH Tryz.prog 100 [0,1,6,21,22] (lpS [1,6] _)
 refine FW okp (W:=AU (fun _=>none) (fun _=>false) [] [] [] []) DR BN ?_
 intro c n AB obs K h
 split at h<;>try exact h.elim
 obtain⟨hc,hn,hv,ho,h8,hA⟩:=h
 subst hc;subst hn;subst ho
 simp only[List.cons.injEq]at hv
 obtain⟨rfl,rfl,rfl⟩:=hv
 refine⟨{i:Nat // i<=s.data.toList.length},0,300,fun i=>s.data.toList.length-i.1,IN s t,fun _ e v o=>RN s t e v o,⟨0,Nat.zero_le _⟩,rfl,Wk.refl _ _ _ _,?_,AH5 s t h8⟩
 intro e v o hR
 obtain⟨rfl,rfl,rfl⟩:=hR
 exact hA
def AJX(o:Option Nat):Value:=match o with
 |some n => .tuple ⟨[.int .u64 (n:Int),.int .i64 0]⟩
 |none => .tuple ⟨[.int .u64 0,.int .i64 3]⟩
theorem X0{s:List UInt8}{t:Nat}(h:8<s.length∨s[0]?=some 0):GQ s t=none:=by unfold GQ;rw[if_pos h]
theorem X3{s:List UInt8}{t:Nat}(h:t<JV s):GQ s t=none:=by
 unfold GQ;rw[if_pos h];split<;>rfl
theorem bL{s:List UInt8}{t:Nat}(h1:¬8<s.length)(h2:s[0]?≠some 0)(h:¬t<JV s):GQ s t=some (JV s):=by
 unfold GQ
 rw[if_neg (fun h=>h.elim h1 h2),if_neg h]
theorem ALF(s:ByteArray)(t:Nat):Is (AJi (real Tryz.prog) (LN s t) s (t:Int) (fun v=>v=AJX (GQ s.data.toList t))):=by
 refine⟨?_⟩
 rw[AE5]
 refine FQ (U6 (d:=8) (fun h=>by rw[X0 (.inl h)];rfl) (fun h8=>EH (fun hne=>?_) (fun he=>?_)))
 ·have hx:∃b,s.data.toList[0]?=some b:=by
   cases h:s.data.toList with
   |nil=>exact absurd h hne
   |cons b l=>exact⟨b,rfl⟩
  obtain⟨b,hb⟩:=hx
  refine IW 0 rfl hb (CG (d:=0) (fun h0=>?_) (fun h0=>?_))
  ·have:b=0:=by apply UInt8.toNat_inj.1;exact h0
   subst this
   rw[X0 (.inr hb)];rfl
  ·have h2:s.data.toList[0]?≠some 0:=by
    rw[hb];intro e
    simp only[Option.some.injEq]at e
    subst e;exact h0 rfl
   exact FQ ⟨rfl,rfl,rfl,rfl,h8,U6 (fun h=>by rw[X3 h];rfl) (fun h=>by rw[bL (by omega) h2 (by omega)];rfl)⟩
 ·have he':s.data.toList=[]:=he
  have h2:s.data.toList[0]?≠some 0:=by rw[he'];simp
  exact FQ ⟨rfl,rfl,rfl,rfl,h8,U6 (fun h=>by rw[X3 h];rfl) (fun h=>by rw[bL (by omega) h2 (by omega)];rfl)⟩
abbrev MNt:=ByteArray->Int->(Int->Prop)->Prop->Prop
def sRN(M:MNt):Lv->(Value->Prop)->Prop
 | [.string s,.int .u64 t],K=>M s t (fun n=>K (.tuple ⟨[.int .u64 n,.int .i64 0]⟩)) (K (.tuple ⟨[.int .u64 0,.int .i64 3]⟩))
 |_,_=>False
def MRN:MNt:=fun s m A E=>∃t:Nat,m=t/\(∀n:Nat,GQ s.data.toList t=some n->A (n:Int))/\(GQ s.data.toList t=none->E)
theorem TJ:EW Tryz.prog 100 142 (sRN MRN):=by
 intro args K h
 unfold sRN at h
 split at h<;>try exact h.elim
 rename_i s m
 obtain⟨t,rfl,hA,hE⟩:=h
 refine⟨_,fun B H=>PS okp DR (E9 (fun x hx=>by simp only[List.mem_singleton]at hx;subst hx;exact lpN s t)) rfl (ALF s t) B H,?_⟩
 cases h0:GQ s.data.toList t with
 |none=>exact hE h0
 |some n=>exact hA n h0
end
end Go.Proofs.Ob
