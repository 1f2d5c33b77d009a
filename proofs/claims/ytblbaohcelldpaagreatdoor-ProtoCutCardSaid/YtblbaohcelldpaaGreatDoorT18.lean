/- . -/
import Derived.Test.YtblbaohcelldpaaGreatDoorQG
set_option linter.all false
set_option maxRecDepth 100000
namespace Go.Proofs.Ob
open Go Go.Abs Go.Tlv
noncomputable section
structure ALS(l:List At)(i:Nat):Prop where
 le:i<=l.length
 eq:JB 0 l=JB (lY l i) (l.drop i)
 il:i<=lY l i
 la:lY l i<=255
 bd:(EW (l.take i)).length<=lY l i*65538
def IS(l:List At)(p:{i:Nat // ALS l i}):Lv×Lo:=
 ([dsl (QD l),.string (bytesOf (EW (l.take p.1))),.int .i64 (p.1:Int)],[])
def RS(l:List At)(e:Exit)(v:Lv)(o:Lo):Prop:=
 (JB 0 l=0/\e = .exit 0/\v=[top,top,.string (bytesOf (EW l))]/\o=[])∨
 (JB 0 l≠0/\e = .ret/\v=[.string (bytesOf []),.int .i64 (JB 0 l:Int),top]/\o=[])
theorem ASL{AB:Lv}{extra:Lo}(h:BL (100+0) AB=true):Wk 100 (100+0) AB extra AB []:=I1 (pre:=[]) rfl h (fun i o h=>by simp at h)
theorem ASx(l:List At)(ht:∀a∈l,a.t<256)(p:{i:Nat // ALS l i}):
  Is (wpe Tryz.prog (real Tryz.prog) (AP S0 Sp0 [] [] [(51,AQf MRr)] []) 300 (.code false (AJ Tryz.prog 26 3) (CX 100 75 [0,4,5] [] (IS l p))) (A7 100 [0,4,5] [2,3,4] 75 []
   (fun AB AC=>∃a':{i:Nat // ALS l i},l.length-a'.1<l.length-p.1/\Wk 100 (100+0) AB AC (IS l a').1 (IS l a').2/\∀e v o,RS l e v o->RS l e v o)
   (fun e AB AC=>∃v o,Wk 100 (100+0) AB AC v o/\RS l e v o))):=by
 refine⟨?_⟩
 obtain⟨i,inv⟩:=p
 have hi:=inv.le
 have hbd:=inv.bd
 have heq:=inv.eq
 have hil:=inv.il
 have hla:=inv.la
 show AO7 (real Tryz.prog) MRr (QD l) (bytesOf (EW (l.take i))) (i:Int) _ _
 rw[ANV]
 have hr:(QD l).length=l.length:=by simp[QD]
 refine BI l.length hr (EL (fun hlt=>?_) (fun hge=>?_))
 ·have ha:l[i]?=some l[i]:=by simp[hlt]
  generalize l[i]=a at ha
  have hat:=ht a (List.mem_of_getElem? ha)
  have htake:=iT ha
  have hlast:lY l (i+1)=a.t:=by simp only[lY,ha]
  rw[AAO ha]at heq
  simp only[JB]at heq
  have hk:(EW (l.take i)).length<=255*65538:=Nat.le_trans hbd (Nat.mul_le_mul_right _ hla)
  have bad3:(a.t<=lY l i∨a.len=0)->∃v o,Wk 100 (100+0) [.string (bytesOf []),.int .i64 (3:Int),.string (bytesOf (EW (l.take i)))] [] v o/\RS l .ret v o:=fun h=>by
   rw[if_pos h]at heq
   exact⟨_,_,lS,.inr ⟨by omega,rfl,by rw[heq];rfl,rfl⟩⟩
  have rest:¬(a.t<=lY l i)->¬a.v.data.toList=(bytesOf []).data.toList->(65535<a.v.data.toList.length->∃v o,Wk 100 (100+0) [.string (bytesOf []),.int .i64 (5:Int),.string (bytesOf (EW (l.take i)))] [] v o/\RS l .ret v o)/\
    (¬65535<a.v.data.toList.length->ALS l (i+1)):=by
   intro h1 h2
   rw[XL]at h2
   rw[if_neg (fun h=>h.elim (fun h=>h1 h) (fun h=>h2 h))]at heq
   constructor
   ·intro h3
    rw[if_pos (show 65535<a.len from h3)]at heq
    exact⟨_,_,lS,.inr ⟨by omega,rfl,by rw[heq];rfl,rfl⟩⟩
   ·intro h3
    rw[if_neg (show ¬65535<a.len from h3)]at heq
    refine⟨hlt,by rw[hlast];exact heq,by rw[hlast];omega,by rw[hlast];omega,?_⟩
    rw[hlast,htake,Y2,List.length_append]
    have h4:(ZP a).length=3+a.len:=by simp[ZP,two,At.len];omega
    have h5:a.len<=65535:=by show a.v.data.toList.length<=65535;omega
    have h6:(lY l i+1)*65538<=a.t*65538:=Nat.mul_le_mul_right _ (by omega)
    omega
  have hd:=qQ ha
  have fin:∀h3:¬65535<a.v.data.toList.length,ALS l (i+1)->∃a':{i:Nat // ALS l i},l.length-a'.1<l.length-i/\Wk 100 (100+0) [dsl (QD l),.string (bytesOf (((EW (l.take i)++[UInt8.ofNat a.t])++two a.v.data.toList.length)++a.v.data.toList)),.int .i64 ((i+1:Nat):Int)] [some (.cells [.int .u8 (a.t:Int)] 5 1 false true)] (IS l a').1 (IS l a').2/\∀e v o,RS l e v o->RS l e v o:=by
   intro h3 hinv
   refine⟨⟨i+1,hinv⟩,show l.length-(i+1)<l.length-i by omega,?_,fun _ _ _ h=>h⟩
   have e:((EW (l.take i)++[UInt8.ofNat a.t])++two a.v.data.toList.length)++a.v.data.toList=EW (l.take (i+1)):=by
    rw[htake,Y2];simp[ZP,At.len]
   rw[e]
   exact ASL rfl
  have tl:(two a.v.data.toList.length).length=2:=rfl
  refine DK i rfl hd rfl (CG (z:=(a.t:Int)) rfl (KL (z:=a.v) rfl (DZ (d:=0) (fun h0=>⟨rfl,bad3 (.inl (by omega))⟩) (fun h0=>YD (d:=0) (fun hpos=>?_) (fun hz=>?_)))))
  ·obtain⟨i',rfl⟩:∃i',i=i'+1:=⟨i-1,by omega⟩
   have hb:l[i']?=some l[i']:=by simp[show i' < l.length by omega]
   generalize l[i']=b at hb
   have hlb:lY l (i'+1)=b.t:=by simp only[lY,hb]
   refine DK (i'+1) rfl hd rfl (CG (z:=(a.t:Int)) rfl (KL (z:=a.v) rfl (ASW (by omega) (by omega) (DK i' (by omega) (qQ hb) rfl (CG (z:=(b.t:Int)) rfl (KL (z:=b.v) rfl (SL (fun h1=>⟨rfl,bad3 (.inl (by omega))⟩) (fun h1=>?_))))))))
   refine DK (i'+1) rfl hd rfl (CG (z:=(a.t:Int)) rfl (KL (z:=a.v) rfl (OE (fun h2=>⟨rfl,bad3 (.inr (XL.1 h2))⟩) (fun h2=>?_))))
   obtain⟨r1,r2⟩:=rest (by omega) h2
   refine DK (i'+1) rfl hd rfl (CG (z:=(a.t:Int)) rfl (KL (z:=a.v) rfl (FC (YD (d:=65535) (fun h3=>⟨rfl,r1 h3⟩) (fun h3=>?_)))))
   have h3':¬65535<a.v.data.toList.length:=by omega
   refine DK (i'+1) rfl hd rfl (CG (z:=(a.t:Int)) rfl (KL (z:=a.v) rfl (VP (AAS ?_ (DK (i'+1) rfl hd rfl (CG (z:=(a.t:Int)) rfl (KL (z:=a.v) rfl (FC ⟨a.v.data.toList.length,rfl,by omega,AAS ?_ (DK (i'+1) rfl hd rfl (CG (z:=(a.t:Int)) rfl (KL (z:=a.v) rfl (AAS ?_ (BZ (by omega) ⟨rfl,fin h3' (r2 h3')⟩)))))⟩))))))))
   ·simp only[AV,List.length_map,List.length_cons,List.length_nil];omega
   ·simp only[AV,List.length_append,List.length_map,List.length_cons,List.length_nil,tl];omega
   ·simp only[AV,List.length_append,List.length_map,List.length_cons,List.length_nil,tl];omega
  ·have hi0:i=0:=by omega
   subst hi0
   have hl0:lY l 0=0:=rfl
   refine DK 0 rfl hd rfl (CG (z:=(a.t:Int)) rfl (KL (z:=a.v) rfl (OE (fun h2=>⟨rfl,bad3 (.inr (XL.1 h2))⟩) (fun h2=>?_))))
   obtain⟨r1,r2⟩:=rest (by omega) h2
   refine DK 0 rfl hd rfl (CG (z:=(a.t:Int)) rfl (KL (z:=a.v) rfl (FC (YD (d:=65535) (fun h3=>⟨rfl,r1 h3⟩) (fun h3=>?_)))))
   have h3':¬65535<a.v.data.toList.length:=by omega
   refine DK 0 rfl hd rfl (CG (z:=(a.t:Int)) rfl (KL (z:=a.v) rfl (VP (AAS ?_ (DK 0 rfl hd rfl (CG (z:=(a.t:Int)) rfl (KL (z:=a.v) rfl (FC ⟨a.v.data.toList.length,rfl,by omega,AAS ?_ (DK 0 rfl hd rfl (CG (z:=(a.t:Int)) rfl (KL (z:=a.v) rfl (AAS ?_ (BZ (by omega) ⟨rfl,fin h3' (r2 h3')⟩)))))⟩))))))))
   ·simp only[AV,List.length_map,List.length_cons,List.length_nil];omega
   ·simp only[AV,List.length_append,List.length_map,List.length_cons,List.length_nil,tl];omega
   ·simp only[AV,List.length_append,List.length_map,List.length_cons,List.length_nil,tl];omega
 ·have e:i=l.length:=by omega
  subst e
  rw[List.drop_length]at heq
  refine⟨rfl,[top,top,.string (bytesOf (EW l))],[],?_,.inl ⟨heq,rfl,rfl,rfl⟩⟩
  rw[List.take_length];exact Wk.refl _ _ _ _
def LSs:LSt:=fun c n AB obs A E=>∃l:List At,(∀a∈l,a.t<256)/\c=AJ Tryz.prog 26 3/\n=75/\AB=[dsl (QD l),.string (bytesOf []),.int .i64 (0:Int)]/\obs=[]/\
 (JB 0 l=0->A (bytesOf (EW l)))/\(JB 0 l≠0->E (JB 0 l:Int))
theorem ATl:BH Tryz.prog 100 [0,4,5] (AQa LSs):=by
 show BH Tryz.prog 100 [0,4,5] (lpS [2,3,4] _)
 refine FQ okp (W:=AP S0 Sp0 [] [] [(51,AQf MRr)] []) (EY (pu1 AS6)) AZ ?_
 rintro c n AB obs K ⟨l,ht,hc,hn,hv,ho,hA,hE⟩
 subst hc;subst hn;subst hv;subst ho
 refine⟨{i:Nat // ALS l i},0,300,fun p=>l.length-p.1,IS l,fun _ e v o=>RS l e v o,⟨0,⟨Nat.zero_le _,rfl,by simp[lY],by simp[lY],by simp[EW]⟩⟩,rfl,Wk.refl _ _ _ _,?_,ASx l ht⟩
 intro e v o hR
 rcases hR with⟨h1,rfl,rfl,rfl⟩ | ⟨h1,rfl,rfl,rfl⟩
 ·exact hA h1
 ·exact hE h1
theorem AS8(l:List At)(ht:∀a∈l,a.t<256):Is (AQ1 (real Tryz.prog) LSs (QD l) (PQ (ADL l))):=by
 refine⟨?_⟩
 rw[AO8]
 refine⟨l,ht,rfl,rfl,rfl,rfl,fun h=>?_,fun h=>?_⟩
 ·exact PQ.of (by unfold ADL encS;rw[if_pos h,h];rfl) rfl
 ·exact PQ.of (by unfold ADL encS;rw[if_neg h]) rfl
theorem AFi{s:ByteArray}{K:ByteArray->Prop}(l h:Nat){i j:Int}(hi:i=l)(hj:j=h)(hl:l<=h)(hh:h<=s.data.toList.length)(hk:K (bytesOf ((s.data.toList.drop l).take (h-l)))):(real Tryz.prog).ssl s (some i) (some j) K:=by
 refine⟨l,h,s.size,?_,hk⟩
 subst hi;subst hj
 simp only[Option.map_some,Option.map_none,YJ,bnd]
 rw[show(decide (0<=(h:Int))&&Nat.ble (h:Int).toNat s.size)=true by rw[QN];simp;exact hh]
 simp only[Int.toNat_natCast]
 rw[show(decide (0<=(l:Int))&&Nat.ble l h)=true by simp;exact hl]
 simp only
 rw[show Nat.ble h s.size=true from Nat.ble_eq_true_of_le (by rw[QN];exact hh)]
abbrev LR6:=Code->Nat->Lv->Lo->(Nat->Option AA->Prop)->(Int->Prop)->Prop
def AQ3(L:LR6):LpS:=lpS [2,3,4] fun c n AB obs K=>L c n AB obs (fun k ob=>K (.exit 0) [top,top,mkS 100 k] [ob]) (fun e=>K .ret [.slice none 0 0,.int .i64 e,top] [])
def gR6(N:Nd)(L:LR6)(s:ByteArray)(K:RK):Prop:=wpe Tryz.prog N (AP (syB 100) Zp [] [(3,(45,([0,4,5],AQ3 L)))] [] []) 300 (.call 25 [(.string s)] h0) (FD 100 K)
theorem ARK(N:Nd)(L:LR6)(s:ByteArray)(K:RK):gR6 N L s K=L (AJ Tryz.prog 25 3) 45 [.string s,.slice none 0 0,.int .u8 0] [] (fun k ob=>K (.tuple ⟨[mkS 100 k,.int .i64 0]⟩) [ob]) (fun e=>K (.tuple ⟨[.slice none 0 0,.int .i64 e]⟩) []):=by kernel_rfl
def ASP(N:Nd)(s:ByteArray)(k:Nat)(ob:Option AA)(last:Int)(back:Bk)(out:Ot):Prop:=
 wpe Tryz.prog N (AP (syB 100) Zp [] [] [] []) 300 (.code false (AJ Tryz.prog 25 3) (CX 100 45 [0,4,5] [] ([.string s,mkS 100 k,.int .u8 last],[ob]))) (A7 100 [0,4,5] [2,3,4] 45 [] back out)
def APV(k:Nat)(ob:Option AA)(out:Ot)(e:Int):Prop:=nD/\out .ret [.slice none 0 0,.int .i64 e,mkS 100 k] [ob]
theorem AQG(N:Nd)(s:ByteArray)(k:Nat)(ob:Option AA)(last:Int)(back:Bk)(out:Ot):ASP N s k ob last back out=N.scmp .neq s (bytesOf []) (N.slen s fun n=>N.cmp .lss .i64 n .i64 3 (APV k ob out 4) (N.ssl s (some 1) (some 3) fun s1=>N.sat s1 0 fun a=>N.conv 5 3 .u8 a .i64 fun a'=>N.ari .mul .i64 a' .i64 256 fun m=>N.sat s1 1 fun b=>N.conv 5 3 .u8 b .i64 fun b'=>N.ari .add .i64 m .i64 b' fun z=>N.sat s 0 fun t=>N.cmp .leq .u8 t .u8 last (APV k ob out 3) (N.cmp .eql .i64 z .i64 0 (APV k ob out 3) (N.slen s fun n=>N.ari .add .i64 3 .i64 z fun w=>N.cmp .lss .i64 n .i64 w (APV k ob out 4) (N.sat s 0 fun t1=>N.sat s 0 fun t2=>N.ari .add .i64 3 .i64 z fun w=>N.ssl s (some 3) (some w) fun v=>N.base true k k ob 75 2 fun vs=>N.appX k vs 1 [.int .u8 t2,.string v] 2 24 fun vs' k'=>N.ari .add .i64 3 .i64 z fun w=>N.ssl s (some w) none fun s'=>nD/\back [.string s',.slice (some ⟨102,0,none⟩) k' k',.int .u8 t1] [none,some (.cells [.int .u8 t2,.string v] 75 2 false true),some (.cells vs' 75 2 true true)])))))
 (nD/\out (.exit 0) [top,top,mkS 100 k] [ob]):=by kernel_rfl
def IR6(s0:List UInt8)(p:StD s0):Lv×Lo:=([.string (bytesOf p.1.1),mkS 100 p.1.2.2.length,.int .u8 (p.1.2.1:Int)],[mo (BS p.1.2.2) 75 2])
def RR6(s0:List UInt8)(e:Exit)(v:Lv)(o:Lo):Prop:=
 ((EG 0 s0).1=0/\e = .exit 0/\v=[top,top,mkS 100 (EG 0 s0).2.length]/\o=[mo (BS (EG 0 s0).2) 75 2])∨
 ((EG 0 s0).1≠0/\e = .ret/\v=[.slice none 0 0,.int .i64 ((EG 0 s0).1:Int),top]/\o=[])
theorem ATc{e:Int}{x:Value}{AC:Lo}:Wk 100 (100+0) [.slice none 0 0,.int .i64 e,x] AC [.slice none 0 0,.int .i64 e,top] []:=
 (EX (.cons (.refl _) (.cons (.refl _) (.cons (.top _) .nil))) (F5.refl _)).trans (LB rfl)
theorem AQV(s0:List UInt8)(p:StD s0):
  Is (wpe Tryz.prog (real Tryz.prog) (AP (syB 100) Zp [] [] [] []) 300 (.code false (AJ Tryz.prog 25 3) (CX 100 45 [0,4,5] [] (IR6 s0 p))) (A7 100 [0,4,5] [2,3,4] 45 []
   (fun AB AC=>∃a':StD s0,a'.1.1.length<p.1.1.length/\Wk 100 (100+0) AB AC (IR6 s0 a').1 (IR6 s0 a').2/\∀e v o,RR6 s0 e v o->RR6 s0 e v o)
   (fun e AB AC=>∃v o,Wk 100 (100+0) AB AC v o/\RR6 s0 e v o))):=by
 refine⟨?_⟩
 obtain⟨⟨s,last,acc⟩,inv⟩:=p
 have heq:=inv.eq
 have hla:=inv.la
 have hil:=inv.il
 dsimp only at heq hla hil
 show ASP (real Tryz.prog) (bytesOf s) acc.length (mo (BS acc) 75 2) (last:Int) _ _
 rw[AQG]
 have bad:∀(e:Nat),(EG last s)=(e,[])->e≠0->APV acc.length (mo (BS acc) 75 2) (fun e AB AC=>∃v o,Wk 100 (100+0) AB AC v o/\RR6 s0 e v o) (e:Int):=fun e h1 h2=>by
  have hp:=fK heq h1 h2
  have he:(EG 0 s0).1=e:=by
   have:=heq
   rw[h1]at this
   rw[this];unfold XR;simp[h2]
  exact⟨rfl,_,_,ATc,.inr ⟨hp.1,rfl,by rw[he],rfl⟩⟩
 rcases s with _|⟨t,_|⟨a,_|⟨b,r⟩⟩⟩
 ·refine FM (fun h=>absurd rfl h) (fun _=>⟨rfl,_,_,Wk.refl _ _ _ _,.inl ?_⟩)
  have h0:EG 0 s0=(0,acc):=by rw[heq,QP];unfold XR;simp
  rw[h0];exact⟨rfl,rfl,rfl,rfl⟩
 ·exact FM (fun _=>FC (EL (d:=3) (fun _=>bad 4 (KO (by simp) (by simp)) (by omega)) (fun h=>absurd h (by simp[AV])))) (fun h=>absurd h (List.cons_ne_nil _ _))
 ·exact FM (fun _=>FC (EL (d:=3) (fun _=>bad 4 (KO (by simp) (by simp)) (by omega)) (fun h=>absurd h (by simp[AV])))) (fun h=>absurd h (List.cons_ne_nil _ _))
 refine FM (fun _=>FC (EL (d:=3) (fun h=>absurd h (by simp[AV])) (fun _=>?_))) (fun h=>absurd h (List.cons_ne_nil _ _))
 have ht:t.toNat<256:=t.toNat_lt
 have ha:a.toNat<256:=a.toNat_lt
 have hb:b.toNat<256:=b.toNat_lt
 have hn:=eG a b
 have hz:(a.toNat:Int)*256+(b.toNat:Int)=((EN a b:Nat):Int):=by unfold EN;omega
 refine AFi 1 3 rfl rfl (by omega) (by simp[AV]) ?_
 refine PN 0 rfl (b:=a) rfl (BX uU8 EZ (BG (by omega)) (ASU (by omega) (by omega) ?_))
 refine PN 1 rfl (b:=b) rfl (BX uU8 EZ (BG (by omega)) (YN (by omega) (by omega) ?_))
 rw[hz]
 refine PN 0 rfl (b:=t) rfl (SL (fun h1=>bad 3 (OV (.inl h1)) (by omega)) (fun h1=>?_))
 refine DZ (m:=EN a b) (d:=0) (fun h2=>bad 3 (OV (.inr h2)) (by omega)) (fun h2=>?_)
 have hc:¬(t.toNat<=last∨EN a b=0):=by omega
 have h3:(3:Int)+((EN a b:Nat):Int)=((3+EN a b:Nat):Int):=by omega
 refine FC (YN (by omega) (by omega) ?_)
 rw[h3]
 refine EL (d:=3+EN a b) (fun h4=>bad 4 (YK hc (by simp[AV]at h4;omega)) (by omega)) (fun h4=>?_)
 have h5:EN a b<=r.length:=by simp[AV]at h4;omega
 have hT:J3=140737488355328:=rfl
 rw[OD hc (by omega),iQ]at heq
 have hacc:(acc++[(⟨t.toNat,bytesOf (r.take (EN a b))⟩:At)]).length=acc.length+1:=by simp
 refine PN 0 rfl (b:=t) rfl (PN 0 rfl (b:=t) rfl (YN (by omega) (by omega) ?_))
 rw[h3]
 refine AFi 3 (3+EN a b) rfl rfl (by omega) (by simp[AV];omega) ?_
 refine D6 (SF _) (by omega) (FV (by omega) rfl rfl (by omega) (by omega) (YN (by omega) (by omega) ?_))
 rw[h3]
 refine N8 (3+EN a b) rfl (by simp[AV];omega) ?_
 have e1:((bytesOf (t::a::b::r)).data.toList.drop 3).take (3+EN a b-3)=r.take (EN a b):=by
  rw[AV,show 3+EN a b-3=EN a b by omega];rfl
 have e2:(bytesOf (t::a::b::r)).data.toList.drop (3+EN a b)=r.drop (EN a b):=by
  rw[AV,Nat.add_comm];rfl
 rw[e1,e2]
 refine⟨rfl,⟨⟨r.drop (EN a b),t.toNat,acc++[⟨t.toNat,bytesOf (r.take (EN a b))⟩]⟩,⟨heq,by dsimp only;omega,by dsimp only;omega⟩⟩,?_,?_,fun _ _ _ h=>h⟩
 ·show(r.drop (EN a b)).length<(t::a::b::r).length
  simp;omega
 ·have hcell:BS acc++[.int .u8 (t.toNat:Int),.string (bytesOf (r.take (EN a b)))]=BS (acc++[⟨t.toNat,bytesOf (r.take (EN a b))⟩]):=by
   rw[V4];rfl
  show Wk 100 (100+0) _ _ ([.string (bytesOf (r.drop (EN a b)))]++mkS (100+0) (acc++[(⟨t.toNat,bytesOf (r.take (EN a b))⟩:At)]).length::[.int .u8 (t.toNat:Int)]) ([]++[mo (BS (acc++[⟨t.toNat,bytesOf (r.take (EN a b))⟩])) 75 2])
  rw[←hcell,J4 (by simp),hacc]
  exact IU (k0:=0) (j:=2) (va:=[.string (bytesOf (r.drop (EN a b)))]) (by omega) rfl (by rw[hcell];exact BJ _) rfl rfl (by omega) rfl (fun i o h=>by simp at h)
def ASF(s0:List UInt8):LR6:=fun c n AB obs A E=>c=AJ Tryz.prog 25 3/\n=45/\AB=[.string (bytesOf s0),.slice none 0 0,.int .u8 (0:Int)]/\obs=[]/\
 ((EG 0 s0).1=0->A (EG 0 s0).2.length (mo (BS (EG 0 s0).2) 75 2))/\((EG 0 s0).1≠0->E ((EG 0 s0).1:Int))
theorem ATk(s0:List UInt8):BH Tryz.prog 100 [0,4,5] (AQ3 (ASF s0)):=by
 show BH Tryz.prog 100 [0,4,5] (lpS [2,3,4] _)
 refine FQ okp (W:=AP (syB 100) Zp [] [] [] []) DC AZ ?_
 rintro c n AB obs K ⟨hc,hn,hv,ho,hA,hE⟩
 subst hc;subst hn;subst hv;subst ho
 refine⟨StD s0,0,300,fun p=>p.1.1.length,IR6 s0,fun _ e v o=>RR6 s0 e v o,⟨⟨s0,0,[]⟩,⟨(eH _ (QO _ _)).symm,by dsimp only;omega,by simp⟩⟩,rfl,?_,?_,AQV s0⟩
 ·exact IP (va:=[.string (bytesOf s0)])
 intro e v o hR
 rcases hR with⟨h1,rfl,rfl,rfl⟩ | ⟨h1,rfl,rfl,rfl⟩
 ·exact hA h1
 ·exact hE h1
theorem r6C(s0:List UInt8):Is (gR6 (real Tryz.prog) (ASF s0) (bytesOf s0) (PQ (lX (EG 0 s0)))):=by
 refine⟨?_⟩
 rw[ARK]
 refine⟨rfl,rfl,rfl,rfl,fun h=>?_,fun h=>?_⟩
 ·unfold lX;rw[h]
  exact(AAM (JY 0 0 rfl rfl (ACZ _) (BJ _) (by omega) (List.length_map _).symm)).trans (LB rfl)
 ·exact(EX (.cons (ADK (QO _ _ h)) .nil) (F5.refl _)).trans (LB rfl)
def AQW(M:ByteArray->(Lv->Int->Prop)->Prop):Lv->(Value->Prop)->Prop
 | [.string s],K=>M s fun rs e=>K (.tuple ⟨[dsl rs,.int .i64 e]⟩)
 |_,_=>False
def MR6:ByteArray->(Lv->Int->Prop)->Prop:=fun s K=>K (FX (EG 0 s.data.toList).2) ((EG 0 s.data.toList).1:Int)
theorem ATC:FY Tryz.prog 100 25 (AQW MR6):=by
 intro args K h
 unfold AQW at h
 split at h<;>try exact h.elim
 rename_i s
 have hc:∀B H,BM Tryz.prog 100 B 25 [.string s] H (.returned (lX (EG 0 s.data.toList))) H:=fun B H=>by
  have:=GL okp DC (lp1 (ATk s.data.toList)) rfl (vQ _) (r6C s.data.toList) B H
  rw[bytes_eta]at this;exact this
 exact⟨_,hc,h⟩
end
end Go.Proofs.Ob
namespace Go.Proofs.Ob
open Go Go.Abs Go.Tlv
theorem AGv(f:Nat->List UInt8):∀n j,(CR f n j).length<=n
 | 0,j=>Nat.le_refl 0
 |n+1,j=>by
  have:=AGv f n (j+1)
  have h1:(QW (j+1) (f (j+1))).length<=1:=by unfold QW;split<;>simp
  rw[CR,List.length_append];omega
theorem AL2{k z:Nat}{p:List UInt8}(hk:1<=k/\k<=46)(hz:z<4294967296)(hp:p.length<=16379):PY (hdB k z++p)=((rdE (JR k) (LC k z) p).1,if (rdE (JR k) (LC k z) p).1=0 then(rdE (JR k) (LC k z) p).2 else PZ):=by
 have hlen:(hdB k z).length=5:=rfl
 have hd:(hdB k z++p).drop 5=p:=List.drop_left' hlen
 unfold PY
 rw[APj (by omega),ANv hz,hd]
 rw[if_neg (by rw[List.length_append,hlen];omega),if_neg (by rw[List.length_append,hlen];omega),if_pos hk]
theorem AHm{x:A9}(he:P9 x=0):1<=x.a0/\x.a0<=46:=by
 obtain⟨h1,h2,h3⟩:=xD he
 have hk:aY x.a0=true:=by
  unfold QF at h1
  simp only[Bool.and_eq_true]at h1;exact h1.1
 unfold aY at hk
 simp only[Bool.and_eq_true,decide_eq_true_eq]at hk
 exact hk
theorem ANx{x:A9}(he:P9 x=0):J7 x=hdB x.a0 x.a1++encS (JV x):=by unfold J7;rw[if_pos he];rfl
theorem AEh{x:A9}(he:P9 x=0){k:Nat}(h5:5<=k):(J7 x).take k=hdB x.a0 x.a1++((J7 x).drop 5).take (k-5):=by
 have hlen:(hdB x.a0 x.a1).length=5:=rfl
 rw[ANx he,List.take_append,hlen,List.take_of_length_le (by rw[hlen];exact h5),List.drop_left' hlen]
theorem AQI{x:A9}(he:P9 x=0)(hr:rgP x):PY ((J7 x).take 5)=(0,LC x.a0 x.a1):=by
 rw[AEh he (Nat.le_refl 5),Nat.sub_self,List.take_zero,AL2 (AHm he) hr.a1 (by simp),show rdE (JR x.a0) (LC x.a0 x.a1) []=(0,LC x.a0 x.a1)by unfold rdE;rw[QP];rfl]
 rfl
theorem ARq{x:A9}(he:P9 x=0)(hr:rgP x){k:Nat}(h5:5<=k):
  ((EG 0 (((J7 x).drop 5).take (k-5))).1=0->(PY ((J7 x).take k)).1=0/\(EG 0 (((J7 x).drop 5).take (k-5))).2.length<=17)/\
  ((EG 0 (((J7 x).drop 5).take (k-5))).1≠0->(PY ((J7 x).take k)).1≠0):=by
 have hg:=AJ5 he hr
 obtain⟨_,h2,h3⟩:=xD he
 have hdr:(J7 x).drop 5=encS (JV x):=by rw[ANx he];exact List.drop_left' rfl
 have hE:encS (JV x)=EW (JV x):=by unfold encS;rw[if_pos h2]
 rw[AEh he h5,hdr]
 have hp:((encS (JV x)).take (k-5)).length<=16379:=by rw[List.length_take];omega
 rw[AL2 (AHm he) hr.a1 hp]
 generalize hpp:(encS (JV x)).take (k-5)=p at hp
 refine⟨fun h0=>?_,fun h0=>?_⟩
 ·have hde:EG 0 p=(0,(EG 0 p).2):=Prod.ext h0 rfl
  obtain⟨k1,k2,k3⟩:=eB _ _ 0 _ (Nat.le_refl _) hde
  generalize hl1:(EG 0 p).2=l1 at*
  obtain⟨last',g1,_⟩:=iR l1 0 ((encS (JV x)).drop (k-5)) k3 k1
  have hat:∀a∈JV x,a.t<256:=(AKS x.a0 x.a1).tA
  rw[k2,←hpp,List.take_append_drop,hE,Y6 _ 0 hat h2]at g1
  have g2:JV x=l1++(EG last' ((EW (JV x)).drop (k-5))).2:=by
   unfold XR at g1
   split at g1
   ·simpa using g1
   ·simp only[Prod.mk.injEq]at g1
    rename_i hne
    exact absurd g1.1.symm hne
  have hrun:=(AKS x.a0 x.a1).run_back hg
  have hrun:run (JR x.a0) (LC x.a0 x.a1) (JV x)=some x:=hrun
  rw[g2,AAQ]at hrun
  cases hy:run (JR x.a0) (LC x.a0 x.a1) l1 with
  |none=>rw[hy]at hrun;simp at hrun
  |some y=>
   refine⟨?_,?_⟩
   ·rw[TM h0 (by rw[hl1];exact hy)]
   ·have:=AGv (J5 x) 17 0
    have hle:l1.length<=(JV x).length:=by rw[g2,List.length_append];omega
    exact Nat.le_trans hle this
 ·rw[JA h0];exact h0
theorem AN4{s:List UInt8}(h:s.length<5):(PY s).1≠0:=by unfold PY;rw[if_pos h];simp
theorem AQJ{k z t:Nat}{v:ByteArray}(hk:1<=k/\k<=46)(hz:z<4294967296)(ht:t<256)(hv:v.data.toList.length<=3000)(hb:hasB k t=false)(hne:encS [(⟨t,v⟩:At)]≠[]):PY (hdB k z++encS [(⟨t,v⟩:At)])=(3,PZ):=by
 have h0:JB 0 [(⟨t,v⟩:At)]=0:=by
  refine Classical.byContradiction fun h=>hne ?_
  unfold encS;rw[if_neg h]
 have hE:encS [(⟨t,v⟩:At)]=EW [⟨t,v⟩]:=by unfold encS;rw[if_pos h0]
 have hln:(EW [(⟨t,v⟩:At)]).length=3+v.data.toList.length:=by
  show(UInt8.ofNat t::(two (At.len ⟨t,v⟩)++v.data.toList)++[]).length=_
  simp[two];omega
 have hd:=Y6 [(⟨t,v⟩:At)] 0 (fun a ha=>by simp only[List.mem_singleton]at ha;subst ha;exact ht) h0
 obtain⟨_,e2,_,_⟩:=AAP h0 0 ⟨t,v⟩ rfl
 have hs:run (JR k) (LC k z) [(⟨t,v⟩:At)]=none:=by
  have:JR k (LC k z) ⟨t,v⟩=none:=by
   unfold JR
   rw[if_pos (show v.data.toList.length<=65535 by omega),if_neg (by rw[hb];simp),if_neg (fun h=>e2 (by unfold At.len;rw[h.1];rfl))]
  rw[run,this]
 rw[hE,AL2 hk hz (by rw[hln];omega),TL (by rw[hd]) (by rw[hd];exact hs)]
 rfl
end Go.Proofs.Ob
