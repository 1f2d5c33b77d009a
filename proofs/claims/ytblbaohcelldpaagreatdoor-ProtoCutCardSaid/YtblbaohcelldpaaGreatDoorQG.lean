/- . -/
import Derived.Test.YtblbaohcelldpaaGreatDoorQE
import Derived.Test.YtblbaohcelldpaaGreatDoorT15
set_option linter.all false
set_option maxRecDepth 100000
namespace Go.Tlv
theorem AAP:∀ {l:List At} {last:Nat},JB last l=0->∀(i:Nat) a,l[i]?=some a->last<a.t/\a.len≠0/\a.len<=65535/\∀(j:Nat) b,j<i->l[j]?=some b->b.t<a.t
 | [],last,h,i,a,ha=>by simp at ha
 |c::l,last,h,i,a,ha=>by
  simp only[JB]at h
  split at h
  ·omega
  ·rename_i h1
   split at h
   ·omega
   ·rename_i h2
    cases i with
    |zero=>
     simp only[List.getElem?_cons_zero,Option.some.injEq]at ha;subst ha
     exact⟨by omega,by omega,by omega,fun j b hj=>by omega⟩
    |succ i=>
     obtain⟨g1,g2,g3,g4⟩:=AAP h i a (by simpa using ha)
     refine⟨by omega,g2,g3,fun j b hj hb=>?_⟩
     cases j with
     |zero=>
      simp only[List.getElem?_cons_zero,Option.some.injEq]at hb;subst hb;exact g1
     |succ j=>exact g4 j b (by omega) (by simpa using hb)
def kdB(s:List UInt8):Nat:=(s.getD 0 0).toNat
def VQ(s:List UInt8):Nat:=(((s.getD 1 0).toNat*256+(s.getD 2 0).toNat)*256+(s.getD 3 0).toNat)*256+(s.getD 4 0).toNat
def PY(s:List UInt8):Nat×A9:=
 if s.length<5 then(4,PZ)else if 16384<s.length then(5,PZ)else if 1<=kdB s/\kdB s<=46 then
  ((rdE (JR (kdB s)) (LC (kdB s) (VQ s)) (s.drop 5)).1,if (rdE (JR (kdB s)) (LC (kdB s) (VQ s)) (s.drop 5)).1=0 then(rdE (JR (kdB s)) (LC (kdB s) (VQ s)) (s.drop 5)).2 else PZ)else(15,PZ)
end Go.Tlv
namespace Go.Proofs.Ob
open Go Go.Abs Go.Tlv
noncomputable section
theorem AF6{k t:Nat}(h:17<t):hasB k t=false:=by
 unfold hasB
 by_cases hk:k<47
 ·have h2:∀k:Fin 47,∀t:Fin 33,17<t.val->Nat.beq ((aW.getD k.val 0) / 2 ^ t.val % 2) 1=false:=by decide
  have:=h2 ⟨k,hk⟩ ⟨min t 32,by omega⟩ (by show 17<min t 32;omega)
  rw[decide_eq_true hk];exact this
 ·rw[decide_eq_false hk];rfl
def MDr:MDe:=⟨MOr,AGd,AJt,MRq BQ L8,MRq CE JK,MRq CF JN,MRq BA JJ,MRq stepBlock JI,MRq CO JL,MRq DF JM,MRq ED L9⟩
theorem ASq:∀x∈puD MDr,FY Tryz.prog 100 x.1 x.2:=fun x hx=>by
 simp only[puD,List.mem_cons,List.not_mem_nil,or_false]at hx
 rcases hx with rfl|rfl|rfl|rfl|rfl|rfl|rfl|rfl|rfl|rfl
 ·exact AN0
 ·exact ALN
 ·exact zV AKH
 ·exact zV AIh
 ·exact zV AIn
 ·exact zV AIf
 ·exact zV AIc
 ·exact zV AIj
 ·exact zV AIl
 ·exact zV AKJ
def AAU(x:A9)(w:Value)(P:Prop):Prop:=(w=YE/\x.a10=[])∨(w=dsl (rowsOf DJ x.a10)/\P)
structure AD5(kd xid:Nat)(l:List At) where
 x:A9
 w:Value
 i:Nat
 inv:iU (JR kd) (LC kd xid) l x i
 k:x.a0=kd
 wd:AAU x w (∃(j:Nat) (b:At),j<i/\l[j]?=some b/\b.t=9)
theorem AAU.form{x:A9}{w:Value}{P:Prop}(h:AAU x w P):w=YE∨∃AY,w=dsl AY:=h.elim (fun h => .inl h.1) (fun h => .inr ⟨_,h.1⟩)
theorem wkD{x:A9}{w:Value}{AB:Lv}{ex:Lo}(hw:w=YE∨∃AY,w=dsl AY)(hv:BL 159 AB=true):Wk 100 (100+59) AB (rZ::cWo x w::(NH++ex)) AB (rZ::cWo x w::NH):=
 AJf (k0:=59) (by have h:NH.length=57:=rfl;simp only[List.length_cons,List.length_append,h];omega) hv (by rcases hw with rfl|⟨AY,rfl⟩<;>rfl)
theorem lK:∀l:Lo,F5 l (List.replicate l.length none)
 | [] => .nil
 |o::l => .cons (.none _) (lK l)
theorem AJe:F5 NH dH:=lK NH
theorem AGA(x:A9):lM x=(lM x).take 10++dsl (rowsOf DJ x.a10)::(lM x).drop 11:=rfl
theorem AQq{x:A9}{w:Value}{P:Prop}(h:AAU x w P):iV (cWo x w) (some (cM x)):=by
 refine .cells ?_
 rw[AGA,AGB]
 refine bY (.cons ?_ (DT.refl _))
 rcases h with⟨rfl,h⟩ | ⟨rfl,_⟩
 ·rw[h];exact .nilD
 ·exact .refl _
theorem ASD{x:A9}{w:Value}{P:Prop}(h:AAU x w P):Wk 100 (100+59) [pA 100,top,pA 101] (rZ::cWo x w::NH) [pA 100,top,pA 101] (rZ::some (cM x)::dH):=
 EX (DT.refl _) (.cons (.refl _) (.cons (AQq h) AJe))
theorem ASC{x:A9}{w:Value}{ex:Lo}(hw:w=YE∨∃AY,w=dsl AY):Wk 100 (100+59) [pA 100,.int .i64 3,pA 101] (rZ::cWo x w::(NH++ex)) [pA 100,.int .i64 3,top] (rZ::none::dH):=
 (wkD hw rfl).trans (EX (.cons (.refl _) (.cons (.refl _) (.cons (.top _) .nil))) (.cons (.refl _) (.cons (.none _) AJe)))
def IDe(kd xid:Nat)(l:List At)(p:AD5 kd xid l):Lv×Lo:=([pA 100,pA 101,pA 158,dsl (FX l),.int .i64 (l.length:Int),.int .i64 (p.i:Int)],rZ::cWo p.x p.w::NH)
def RDe(kd xid:Nat)(l:List At)(e:Exit)(v:Lv)(o:Lo):Prop:=
 (∃x,run (JR kd) (LC kd xid) l=some x/\e = .exit 1/\v=[pA 100,top,pA 101]/\o=rZ::some (cM x)::dH)∨
 (run (JR kd) (LC kd xid) l=none/\e = .ret/\v=[pA 100,.int .i64 3,top]/\o=rZ::none::dH)
theorem AP6(kd xid:Nat)(hkd:kd<256)(l:List At)(hl:l.length<=255)(hen:JB 0 l=0)(hat:∀a∈l,a.t<256)(p:AD5 kd xid l):
  Is (wpe Tryz.prog (real Tryz.prog) (AP Z0 spD [(149,sW2 AJt)] [] (puD MDr) []) 300 (.code false (AJ Tryz.prog 17 13) (CX 100 84 [2,6,7,58,59,60] [] (IDe kd xid l p))) (A7 100 [2,6,7,58,59,60] [2,3,6] 84 []
   (fun AB AC=>∃a':AD5 kd xid l,l.length-a'.i<l.length-p.i/\Wk 100 (100+59) AB AC (IDe kd xid l a').1 (IDe kd xid l a').2/\∀e v o,RDe kd xid l e v o->RDe kd xid l e v o)
   (fun e AB AC=>∃v o,Wk 100 (100+59) AB AC v o/\RDe kd xid l e v o))):=by
 refine⟨?_⟩
 obtain⟨x,w,i,inv,hk,wd⟩:=p
 have hle:i<=l.length:=inv.le
 show AOJ (real Tryz.prog) MDr x w (FX l) (l.length:Int) (i:Int) (fun AB AC=>∃a':AD5 kd xid l,l.length-a'.i<l.length-i/\Wk 100 (100+59) AB AC (IDe kd xid l a').1 (IDe kd xid l a').2/\∀e v o,RDe kd xid l e v o->RDe kd xid l e v o)
   (fun e AB AC=>∃v o,Wk 100 (100+59) AB AC v o/\RDe kd xid l e v o)
 rw[AJP]
 generalize hB:(fun(AB:Lv) (AC:Lo)=>∃a':AD5 kd xid l,l.length-a'.i<l.length-i/\Wk 100 (100+59) AB AC (IDe kd xid l a').1 (IDe kd xid l a').2/\∀e v o,RDe kd xid l e v o->RDe kd xid l e v o)=BK
 generalize hO:(fun(e:Exit) (AB:Lv) (AC:Lo)=>∃v o,Wk 100 (100+59) AB AC v o/\RDe kd xid l e v o)=OT
 refine EL (fun hlt=>?_) (fun hge=>?_)
 ·have ha:l[i]?=some l[i]:=List.getElem?_eq_getElem hlt
  have hmem:=List.getElem_mem hlt
  generalize l[i]=a at ha hmem
  obtain⟨e1,e2,e3,e4⟩:=AAP hen i a ha
  change a.v.data.toList.length<=65535 at e3
  have h256:=hat a hmem
  have hms:l.length-(i+1)<l.length-i:=by omega
  have hv0:a.v.data.toList≠[]:=fun h=>e2 (by unfold At.len;rw[h];rfl)
  have nx:∀(x':A9) (w':Value) (ex:Lo),JR kd x a=some x'->x'.a0=kd->AAU x' w' (∃(j:Nat) (b:At),j<i+1/\l[j]?=some b/\b.t=9)->nxD (real Tryz.prog) (FX l) (l.length:Int) (i:Int) (rZ::cWo x' w'::(NH++ex)) BK:=fun x' w' ex hs h0 hw=>by
   subst hB
   exact BZ (by omega) ⟨rfl,⟨x',w',i+1,inv.next ha hs,h0,hw⟩,hms,wkD hw.form rfl,fun _ _ _ h=>h⟩
  have no:∀(x':A9) (w':Value) (ex:Lo),JR kd x a=none->(w'=YE∨∃AY,w'=dsl AY)->noD (rZ::cWo x' w'::(NH++ex)) OT:=fun x' w' ex hs hw=>by
   subst hO
   exact⟨rfl,_,_,ASC hw,.inr ⟨inv.bad ha hs,rfl,rfl,rfl⟩⟩
  have wdn:∀x':A9,x'.a10=x.a10->AAU x' w (∃(j:Nat) (b:At),j<i+1/\l[j]?=some b/\b.t=9):=fun x' h=>wd.elim (fun g => .inl ⟨g.1,h.trans g.2⟩) (fun⟨g,j,b,g1,g2,g3⟩ => .inr ⟨by rw[h];exact g,j,b,by omega,g2,g3⟩)
  have go:∀(x':A9) (ex:Lo) (e:Nat),(e=0->JR kd x a=some x')->(e≠0->JR kd x a=none)->x'.a0=kd->x'.a10=x.a10->goD (real Tryz.prog) x' w (FX l) (l.length:Int) (i:Int) ex (e:Int) BK OT:=fun x' ex e h1 h2 h3 h4=>
   DZ (d:=0) (fun h=>nx x' w ex (h1 h) h3 (wdn x' h4)) (fun h=>no x' w ex (h2 h) wd.form)
  refine DK i rfl (JW ha) rfl (CG (z:=(a.t:Int)) rfl (KL (z:=a.v) rfl ⟨x.a0,a.t,rfl,rfl,by omega,h256,fun hb=>?_,fun hb=>?_⟩))
  ·rw[hk]at hb
   have fl:JR kd x a=fld x a.t a.v.data.toList:=by unfold JR;rw[if_pos e3,if_pos hb]
   have h17:a.t<=17:=by
    refine Nat.le_of_not_lt fun h=>?_
    have:=AF6 (k:=kd) h
    rw[this]at hb;cases hb
   have hc:a.t=1∨a.t=2∨a.t=3∨a.t=4∨a.t=5∨a.t=6∨a.t=7∨a.t=8∨a.t=9∨a.t=10∨a.t=11∨a.t=12∨a.t=13∨a.t=14∨a.t=15∨a.t=16∨a.t=17:=by omega
   rcases hc with h|h|h|h|h|h|h|h|h|h|h|h|h|h|h|h|h
   ·refine⟨1,_,by rw[h],rfl,?_⟩
    refine⟨2147483647,rfl,fun n hn=>?_,fun hn=>?_⟩
    ·exact BX EH EZ (BG (by have:=(C8 hn).2.1;omega)) (go {x with a2:=(n:Int)} _ 0 (fun _=>by rw[fl,h];show(BD 2147483647 a.v.data.toList).map _=_;unfold BD;rw[hn];rfl) (fun h=>absurd rfl h) hk rfl)
    ·exact BX (m:=0) EH EZ (BG (by omega)) (go {x with a2:=((0:Nat):Int)} _ 3 (fun h=>absurd h (by decide)) (fun _=>by rw[fl,h];show(BD 2147483647 a.v.data.toList).map _=_;unfold BD;rw[hn];rfl) hk rfl)
   ·refine⟨2,_,by rw[h],rfl,?_⟩
    refine⟨2147483647,rfl,fun n hn=>?_,fun hn=>?_⟩
    ·exact BX EH EZ (BG (by have:=(C8 hn).2.1;omega)) (go {x with a3:=(n:Int)} _ 0 (fun _=>by rw[fl,h];show(BD 2147483647 a.v.data.toList).map _=_;unfold BD;rw[hn];rfl) (fun h=>absurd rfl h) hk rfl)
    ·exact BX (m:=0) EH EZ (BG (by omega)) (go {x with a3:=((0:Nat):Int)} _ 3 (fun h=>absurd h (by decide)) (fun _=>by rw[fl,h];show(BD 2147483647 a.v.data.toList).map _=_;unfold BD;rw[hn];rfl) hk rfl)
   ·refine⟨3,_,by rw[h],rfl,?_⟩
    refine⟨2147483647,rfl,fun n hn=>?_,fun hn=>?_⟩
    ·exact BX EH EZ (BG (by have:=(C8 hn).2.1;omega)) (go {x with a4:=(n:Int)} _ 0 (fun _=>by rw[fl,h];show(BD 2147483647 a.v.data.toList).map _=_;unfold BD;rw[hn];rfl) (fun h=>absurd rfl h) hk rfl)
    ·exact BX (m:=0) EH EZ (BG (by omega)) (go {x with a4:=((0:Nat):Int)} _ 3 (fun h=>absurd h (by decide)) (fun _=>by rw[fl,h];show(BD 2147483647 a.v.data.toList).map _=_;unfold BD;rw[hn];rfl) hk rfl)
   ·refine⟨4,_,by rw[h],rfl,?_⟩
    refine⟨2147483647,rfl,fun n hn=>?_,fun hn=>?_⟩
    ·exact BX EH EZ (BG (by have:=(C8 hn).2.1;omega)) (go {x with a5:=(n:Int)} _ 0 (fun _=>by rw[fl,h];show(BD 2147483647 a.v.data.toList).map _=_;unfold BD;rw[hn];rfl) (fun h=>absurd rfl h) hk rfl)
    ·exact BX (m:=0) EH EZ (BG (by omega)) (go {x with a5:=((0:Nat):Int)} _ 3 (fun h=>absurd h (by decide)) (fun _=>by rw[fl,h];show(BD 2147483647 a.v.data.toList).map _=_;unfold BD;rw[hn];rfl) hk rfl)
   ·refine⟨5,_,by rw[h],rfl,?_⟩
    refine⟨2147483647,rfl,fun n hn=>?_,fun hn=>?_⟩
    ·exact BX EH EZ (BG (by have:=(C8 hn).2.1;omega)) (go {x with a6:=(n:Int)} _ 0 (fun _=>by rw[fl,h];show(BD 2147483647 a.v.data.toList).map _=_;unfold BD;rw[hn];rfl) (fun h=>absurd rfl h) hk rfl)
    ·exact BX (m:=0) EH EZ (BG (by omega)) (go {x with a6:=((0:Nat):Int)} _ 3 (fun h=>absurd h (by decide)) (fun _=>by rw[fl,h];show(BD 2147483647 a.v.data.toList).map _=_;unfold BD;rw[hn];rfl) hk rfl)
   ·refine⟨6,_,by rw[h],rfl,?_⟩
    refine⟨18446744073709551615,rfl,fun n hn=>?_,fun hn=>?_⟩
    ·exact go {x with a7:=n} _ 0 (fun _=>by rw[fl,h];show(ET 18446744073709551615 a.v.data.toList).map _=_;unfold ET;rw[hn];rfl) (fun h=>absurd rfl h) hk rfl
    ·exact go {x with a7:=0} _ 3 (fun h=>absurd h (by decide)) (fun _=>by rw[fl,h];show(ET 18446744073709551615 a.v.data.toList).map _=_;unfold ET;rw[hn];rfl) hk rfl
   ·refine⟨7,_,by rw[h],rfl,?_⟩
    refine⟨18446744073709551615,rfl,fun n hn=>?_,fun hn=>?_⟩
    ·exact go {x with a8:=n} _ 0 (fun _=>by rw[fl,h];show(ET 18446744073709551615 a.v.data.toList).map _=_;unfold ET;rw[hn];rfl) (fun h=>absurd rfl h) hk rfl
    ·exact go {x with a8:=0} _ 3 (fun h=>absurd h (by decide)) (fun _=>by rw[fl,h];show(ET 18446744073709551615 a.v.data.toList).map _=_;unfold ET;rw[hn];rfl) hk rfl
   ·refine⟨8,_,by rw[h],rfl,?_⟩
    have hs:JR kd x a=some {x with a9:=a.v}:=by rw[fl,h];show some {x with a9:=bytesOf a.v.data.toList}=_;rw[bytes_eta]
    exact nx {x with a9:=a.v} w _ hs hk (wdn _ rfl)
   ·refine⟨9,_,by rw[h],rfl,?_⟩
    have hw0:w=YE/\x.a10=[]:=wd.resolve_right fun⟨_,j,b,g1,g2,g3⟩=>by
     have:=e4 j b g1 g2;omega
    refine⟨x,by rw[hw0.1],fun ws hws=>?_,fun hws ws=>?_⟩
    ·have hs:JR kd x a=some {x with a10:=ws}:=by rw[fl,h];show(F9 JQ 128 a.v.data.toList).map _=_;rw[hws];rfl
     exact nx {x with a10:=ws} (dsl (rowsOf DJ ws)) _ hs hk (.inr ⟨rfl,i,a,by omega,ha,h⟩)
    ·exact no x (dsl (rowsOf DJ ws)) _ (by rw[fl,h];show(F9 JQ 128 a.v.data.toList).map _=_;rw[hws];rfl) (.inr ⟨_,rfl⟩)
   ·refine⟨10,_,by rw[h],rfl,?_⟩
    exact⟨rfl,go {x with n:=(rdE BQ L8 a.v.data.toList).2} _ _ (fun h0=>by rw[fl,h];show(rdO BQ L8 a.v.data.toList).map _=_;unfold rdO;rw[if_pos h0];rfl) (fun h0=>by rw[fl,h];show(rdO BQ L8 a.v.data.toList).map _=_;unfold rdO;rw[if_neg h0];rfl) hk rfl⟩
   ·refine⟨11,_,by rw[h],rfl,?_⟩
    exact⟨rfl,go {x with f:=(rdE CE JK a.v.data.toList).2} _ _ (fun h0=>by rw[fl,h];show(rdO CE JK a.v.data.toList).map _=_;unfold rdO;rw[if_pos h0];rfl) (fun h0=>by rw[fl,h];show(rdO CE JK a.v.data.toList).map _=_;unfold rdO;rw[if_neg h0];rfl) hk rfl⟩
   ·refine⟨12,_,by rw[h],rfl,?_⟩
    exact⟨rfl,go {x with t:=(rdE CF JN a.v.data.toList).2} _ _ (fun h0=>by rw[fl,h];show(rdO CF JN a.v.data.toList).map _=_;unfold rdO;rw[if_pos h0];rfl) (fun h0=>by rw[fl,h];show(rdO CF JN a.v.data.toList).map _=_;unfold rdO;rw[if_neg h0];rfl) hk rfl⟩
   ·refine⟨13,_,by rw[h],rfl,?_⟩
    exact⟨rfl,go {x with e:=(rdE BA JJ a.v.data.toList).2} _ _ (fun h0=>by rw[fl,h];show(rdO BA JJ a.v.data.toList).map _=_;unfold rdO;rw[if_pos h0];rfl) (fun h0=>by rw[fl,h];show(rdO BA JJ a.v.data.toList).map _=_;unfold rdO;rw[if_neg h0];rfl) hk rfl⟩
   ·refine⟨14,_,by rw[h],rfl,?_⟩
    exact⟨rfl,go {x with b:=(rdE stepBlock JI a.v.data.toList).2} _ _ (fun h0=>by rw[fl,h];show(rdO stepBlock JI a.v.data.toList).map _=_;unfold rdO;rw[if_pos h0];rfl) (fun h0=>by rw[fl,h];show(rdO stepBlock JI a.v.data.toList).map _=_;unfold rdO;rw[if_neg h0];rfl) hk rfl⟩
   ·refine⟨15,_,by rw[h],rfl,?_⟩
    exact⟨rfl,go {x with g:=(rdE CO JL a.v.data.toList).2} _ _ (fun h0=>by rw[fl,h];show(rdO CO JL a.v.data.toList).map _=_;unfold rdO;rw[if_pos h0];rfl) (fun h0=>by rw[fl,h];show(rdO CO JL a.v.data.toList).map _=_;unfold rdO;rw[if_neg h0];rfl) hk rfl⟩
   ·refine⟨16,_,by rw[h],rfl,?_⟩
    exact⟨rfl,go {x with m:=(rdE DF JM a.v.data.toList).2} _ _ (fun h0=>by rw[fl,h];show(rdO DF JM a.v.data.toList).map _=_;unfold rdO;rw[if_pos h0];rfl) (fun h0=>by rw[fl,h];show(rdO DF JM a.v.data.toList).map _=_;unfold rdO;rw[if_neg h0];rfl) hk rfl⟩
   ·refine⟨17,_,by rw[h],rfl,?_⟩
    exact⟨rfl,go {x with r:=(rdE ED L9 a.v.data.toList).2} _ _ (fun h0=>by rw[fl,h];show(rdO ED L9 a.v.data.toList).map _=_;unfold rdO;rw[if_pos h0];rfl) (fun h0=>by rw[fl,h];show(rdO ED L9 a.v.data.toList).map _=_;unfold rdO;rw[if_neg h0];rfl) hk rfl⟩
  ·rw[hk]at hb
   refine no x w _ ?_ wd.form
   unfold JR
   rw[if_pos e3,hb,if_neg (by simp),if_neg (fun h=>hv0 h.1)]
 ·subst hO
  exact⟨rfl,_,_,ASD wd,.inl ⟨x,inv.last (by omega),rfl,rfl,rfl⟩⟩
def AOa:LDe:=fun c n AB obs A E=>∃(kd xid:Nat) (l:List At),kd<256/\l.length<=255/\JB 0 l=0/\(∀a∈l,a.t<256)/\c=AJ Tryz.prog 17 13/\n=84/\AB=[pA 100,pA 101,pA 158,dsl (FX l),.int .i64 (Int.ofNat l.length),.int .i64 (0:Int)]/\obs=rZ::rZk (kd:Int) (xid:Int)::NH/\
 (∀x,run (JR kd) (LC kd xid) l=some x->A x)/\(run (JR kd) (LC kd xid) l=none->E)
theorem ANt(kd xid:Nat):iV (rZk (kd:Int) (xid:Int)) (cWo (LC kd xid) YE) := .cells (by repeat first|exact .nil|refine .cons (.refl _) ?_|refine .cons .nilD ?_)
theorem ANu:FZ rZv (F8 PZ):=FZ.agg (by repeat first|exact .nil|refine .cons (.refl _) ?_|refine .cons .nilD ?_)
theorem ARQ:BH Tryz.prog 100 [2,6,7,58,59,60] (ALO AOa):=by
 show BH Tryz.prog 100 [2,6,7,58,59,60] (lpS [2,3,6] _)
 refine FQ okp (W:=AP Z0 spD [(149,sW2 AJt)] [] (puD MDr) []) (M3 (fun x hx=>by simp only[List.mem_singleton]at hx;subst hx;exact AR7) ASq) (GH fun x hx=>by cases hx) ?_
 rintro c n AB obs K ⟨kd,xid,l,hkd,hl,hen,hat,hc,hn,hv,ho,hA,hE⟩
 subst hc;subst hn;subst hv;subst ho
 refine⟨AD5 kd xid l,59,300,fun p=>l.length-p.i,IDe kd xid l,fun _ e v o=>RDe kd xid l e v o,⟨LC kd xid,YE,0,⟨Nat.zero_le _,rfl⟩,rfl,.inl ⟨rfl,rfl⟩⟩,rfl,?_,?_,AP6 kd xid hkd l hl hen hat⟩
 ·exact EX (DT.refl _) (.cons (.refl _) (.cons (ANt kd xid) (F5.refl _)))
 intro e v o hR
 rcases hR with⟨x,h1,rfl,rfl,rfl⟩ | ⟨h1,rfl,rfl,rfl⟩
 ·exact hA x h1
 ·exact hE h1
theorem vK{m:Nat}{K:Int->Prop}(k p:Nat)(hp:(2:Int) ^ (min (k:Int).toNat 32)=(p:Int))(hm:m*p<4294967296)(hk:K ((m*p:Nat):Int)):(real Tryz.prog).ari .shl .u32 (m:Int) .u64 (k:Int) K:=by
 refine⟨((m*p:Nat):Int),?_,hk⟩
 have e:IntKind.u32.wrap ((m:Int)*2 ^ (min (k:Int).toNat IntKind.u32.bits))=((m*p:Nat):Int):=by
  rw[show(2:Int) ^ (min (k:Int).toNat IntKind.u32.bits)=(p:Int)from hp,←Int.natCast_mul];exact RY hm
 simp only[H8,e];rfl
theorem ABX{m b i:Nat}{K:Int->Prop}(hb:b<2 ^ i)(hm:m*2 ^ i+b<4294967296)(hk:K ((m*2 ^ i+b:Nat):Int)):(real Tryz.prog).ari .or .u32 ((m*2 ^ i:Nat):Int) .u32 (b:Int) K:=by
 refine⟨((m*2 ^ i+b:Nat):Int),?_,hk⟩
 have e:IntKind.u32.wrap ((BitVec.ofInt IntKind.u32.bits ((m*2 ^ i:Nat):Int)) ||| (BitVec.ofInt IntKind.u32.bits (b:Int))).toNat=((m*2 ^ i+b:Nat):Int):=by
  rw[BitVec.toNat_or]
  have h1:(BitVec.ofInt IntKind.u32.bits ((m*2 ^ i:Nat):Int)).toNat=m*2 ^ i:=by
   rw[BitVec.ofInt_natCast,BitVec.toNat_ofNat];exact Nat.mod_eq_of_lt (by show m*2 ^ i<2 ^ 32;omega)
  have h2:(BitVec.ofInt IntKind.u32.bits (b:Int)).toNat=b:=by
   rw[BitVec.ofInt_natCast,BitVec.toNat_ofNat];exact Nat.mod_eq_of_lt (by show b<2 ^ 32;omega)
  have h3:(m*2 ^ i) ||| b=m*2 ^ i+b:=by
   have:=Nat.shiftLeft_add_eq_or_of_lt (i:=i) (b:=b) hb m
   rw[Nat.shiftLeft_eq]at this
   exact this.symm
  rw[h1,h2,h3];exact RY hm
 simp only[H8,e];rfl
theorem p24:(2:Nat) ^ 24=16777216:=by decide +kernel
theorem p16:(2:Nat) ^ 16=65536:=by decide +kernel
theorem p8:(2:Nat) ^ 8=256:=by decide +kernel
theorem xi2(a b:Nat):a*2 ^ 24+b*65536=(a*256+b)*2 ^ 16:=by rw[p24,p16];omega
theorem xi3(a b c:Nat):(a*256+b)*2 ^ 16+c*256=((a*256+b)*256+c)*2 ^ 8:=by rw[p16,p8];omega
theorem xi4(a b c d:Nat):((a*256+b)*256+c)*2 ^ 8+d=((a*256+b)*256+c)*256+d:=by rw[p8]
theorem xiC{s:ByteArray}(h5:5<=s.data.toList.length){K:Int->Int->Prop}(hk:K (kdB s.data.toList:Int) (VQ s.data.toList:Int)):xiN (real Tryz.prog) s K:=by
 obtain⟨b0,b1,b2,b3,b4,r,hs⟩:∃b0 b1 b2 b3 b4 r,s.data.toList=b0::b1::b2::b3::b4::r:=by
  generalize s.data.toList=ll at h5
  rcases ll with _|⟨b0,_|⟨b1,_|⟨b2,_|⟨b3,_|⟨b4,r⟩⟩⟩⟩⟩
  ·simp at h5
  ·simp at h5
  ·simp at h5
  ·simp at h5
  ·simp at h5
  ·exact⟨b0,b1,b2,b3,b4,r,rfl⟩
 rw[hs]at hk
 have l1:b1.toNat<256:=b1.toNat_lt
 have l2:b2.toNat<256:=b2.toNat_lt
 have l3:b3.toNat<256:=b3.toNat_lt
 have l4:b4.toNat<256:=b4.toNat_lt
 have hx:VQ (b0::b1::b2::b3::b4::r)=((b1.toNat*256+b2.toNat)*256+b3.toNat)*256+b4.toNat:=by
  unfold VQ;simp only[List.getD_cons_succ,List.getD_cons_zero]
 have hz:kdB (b0::b1::b2::b3::b4::r)=b0.toNat:=by unfold kdB;rw[List.getD_cons_zero]
 rw[hx,hz]at hk
 have e2:=xi2 b1.toNat b2.toNat
 have e3:=xi3 b1.toNat b2.toNat b3.toNat
 have e4:=xi4 b1.toNat b2.toNat b3.toNat b4.toNat
 have hp24:(2:Int) ^ (min ((24:Nat):Int).toNat 32)=((16777216:Nat):Int):=by decide +kernel
 have hp16:(2:Int) ^ (min ((16:Nat):Int).toNat 32)=((65536:Nat):Int):=by decide +kernel
 have hp8:(2:Int) ^ (min ((8:Nat):Int).toNat 32)=((256:Nat):Int):=by decide +kernel
 unfold xiN
 refine PN 0 rfl (by rw[hs];rfl) (PN 1 rfl (by rw[hs];rfl) (BX uU8 AFW (RY (by omega)) (vK 24 16777216 hp24 (by omega) (PN 2 rfl (by rw[hs];rfl) (BX uU8 AFW (RY (by omega)) (vK 16 65536 hp16 (by omega) ?_))))))
 refine ABX (i:=24) (m:=b1.toNat) (by rw[p24];omega) (by rw[p24];omega) ?_
 rw[e2]
 refine PN 3 rfl (by rw[hs];rfl) (BX uU8 AFW (RY (by omega)) (vK 8 256 hp8 (by omega) ?_))
 refine ABX (i:=16) (m:=b1.toNat*256+b2.toNat) (by rw[p16];omega) (by rw[p16];omega) ?_
 rw[e3]
 refine PN 4 rfl (by rw[hs];rfl) (BX uU8 AFW (RY (by omega)) ?_)
 refine ABX (i:=8) (m:=(b1.toNat*256+b2.toNat)*256+b3.toNat) (by rw[p8];omega) (by rw[p8];omega) ?_
 rw[e4]
 exact hk
def rvM(q:Nat×A9):Value := .tuple ⟨[F8 q.2,.int .i64 (q.1:Int)]⟩
theorem erW{e:Nat}{q:Nat×A9}(h:q=(e,PZ)):FZ (erD (e:Int)) (rvM q):=by
 subst h;exact .tup (.cons ANu (DT.refl _))
theorem ASz{s:ByteArray}(h:5<=s.data.toList.length):∃b:UInt8,s.data.toList[0]?=some b/\b.toNat=kdB s.data.toList:=by
 unfold kdB
 generalize s.data.toList=l at h ⊢
 cases l with
 |nil=>simp at h
 |cons b l=>exact⟨b,rfl,rfl⟩
theorem deC(s:ByteArray):Is (AOI (real Tryz.prog) MD AOa s (fun v=>FZ v (rvM (PY s.data.toList)))):=by
 refine⟨?_⟩
 rw[AJO]
 refine FC (EL (d:=5) (fun h=>erW (e:=4) (by unfold PY;rw[if_pos h])) (fun h=>FC (dB (fun h2=>erW (e:=5) (by unfold PY;rw[if_neg (by omega),if_pos (by omega)])) (fun h2=>?_))))
 obtain⟨b,hb,hkd⟩:=ASz (s:=s) (by omega)
 have h256:b.toNat<256:=b.toNat_lt
 refine PN 0 rfl hb (N7 (fun h3=>SL (d:=46) (fun h4=>?_) (fun h4=>erW (e:=15) (by unfold PY;rw[if_neg (by omega),if_neg (by omega),if_neg (by omega)]))) (fun h3=>erW (e:=15) (by unfold PY;rw[if_neg (by omega),if_neg (by omega),if_neg (by omega)])))
 have hd:PY s.data.toList=((rdE (JR (kdB s.data.toList)) (LC (kdB s.data.toList) (VQ s.data.toList)) (s.data.toList.drop 5)).1,if (rdE (JR (kdB s.data.toList)) (LC (kdB s.data.toList) (VQ s.data.toList)) (s.data.toList.drop 5)).1=0 then(rdE (JR (kdB s.data.toList)) (LC (kdB s.data.toList) (VQ s.data.toList)) (s.data.toList.drop 5)).2 else PZ):=by
  unfold PY;rw[if_neg (by omega),if_neg (by omega),if_pos (by omega)]
 refine N8 5 rfl (by omega) ⟨fun h0=>xiC (by omega) ?_,fun h3=>?_,fun h4=>?_⟩
 ·rw[AV]at h0 ⊢
  have hde:EG 0 (s.data.toList.drop 5)=(0,(EG 0 (s.data.toList.drop 5)).2):=Prod.ext h0 rfl
  obtain⟨k1,k2,k3⟩:=eB _ _ 0 _ (Nat.le_refl _) hde
  refine BI _ (JP _) ⟨kdB s.data.toList,VQ s.data.toList,_,by omega,NA _,k1,k3,rfl,rfl,rfl,rfl,fun x hx=>?_,fun hx=>erW (e:=3) ?_⟩
  ·rw[hd,TM h0 hx];exact FZ.refl _
  ·rw[hd,TL h0 hx];rfl
 ·rw[AV]at h3
  exact erW (e:=3) (by rw[hd,JA (by omega),h3];rfl)
 ·rw[AV]at h4
  exact erW (e:=4) (by rw[hd,JA (by omega),h4];rfl)
theorem ARt(s:ByteArray)(B:Base)(H:Heap):BM Tryz.prog 100 B 17 [.string s] H (.returned (rvM (PY s.data.toList))) H:=
 UW (EY (F6 QZ)) (GH (fun x hx=>by simp only[List.mem_singleton]at hx;subst hx;exact ARQ)) rfl rfl (deC s) B H
abbrev MD1:=ByteArray->(A9->Int->Prop)->Prop
def sD1(M:MD1):Lv->(Value->Prop)->Prop
 | [.string s],K=>M s fun x e=>K (.tuple ⟨[F8 x,.int .i64 e]⟩)
 |_,_=>False
def AJs:MD1:=fun s K=>K (PY s.data.toList).2 ((PY s.data.toList).1:Int)
theorem ASp:FY Tryz.prog 100 17 (sD1 AJs):=by
 intro args K h
 unfold sD1 at h
 split at h<;>try exact h.elim
 exact⟨_,ARt _,h⟩
end
end Go.Proofs.Ob
namespace Go.Proofs.Ob
open Go Go.Abs Go.Tlv
theorem AHX{kd xid:Nat}{x:A9}(h:zF kd xid x)(hk:kd<256)(hx:xid<4294967296):okP x where
 a0:=by rw[h.k];exact hk
 a1:=by rw[h.q];exact hx
 a7:=by have:x.a7<=18446744073709551615:=h.f.a7;omega
 a8:=by have:x.a8<=18446744073709551615:=h.f.a8;omega
 w:=by have:=h.f.a10.1;omega
 wn:=fun y hy=>by have:y<=18446744073709551615:=h.f.a10.2 y hy;show y<18446744073709551616;omega
 n:=⟨(eX h.f.n).1,(eX h.f.n).2.1⟩
 f:=⟨(aS h.f.f).1,(aS h.f.f).2.1⟩
 t:=⟨(aV h.f.t).1,(aV h.f.t).2.1⟩
 e:=⟨(aR h.f.e).1,(aR h.f.e).2.1⟩
 b:=⟨(aQ h.f.b).1,(aQ h.f.b).2.1⟩
 g:=⟨(aT h.f.g).1,(aT h.f.g).2.1⟩
 m:=⟨(aU h.f.m).1,(aU h.f.m).2.1⟩
 r:=⟨(eY h.f.r).1,(eY h.f.r).2.1⟩
theorem ADy:okP PZ:=AHX (AKS 0 0).z (by omega) (by omega)
theorem ACX{s:List UInt8}(h:(PY s).1≠0):(PY s).2=PZ:=by
 unfold PY at h ⊢
 split
 ·rfl
 ·rename_i h1
  rw[if_neg h1]at h
  split
  ·rfl
  ·rename_i h2
   rw[if_neg h2]at h
   split
   ·rename_i h3
    rw[if_pos h3]at h
    exact if_neg h
   ·rfl
theorem five{s:List UInt8}(h5:5<=s.length):∃b0 b1 b2 b3 b4 r,s=b0::b1::b2::b3::b4::r:=by
 rcases s with _|⟨b0,_|⟨b1,_|⟨b2,_|⟨b3,_|⟨b4,r⟩⟩⟩⟩⟩
 ·simp at h5
 ·simp at h5
 ·simp at h5
 ·simp at h5
 ·simp at h5
 ·exact⟨b0,b1,b2,b3,b4,r,rfl⟩
theorem AJj(b0 b1 b2 b3 b4:UInt8)(r:List UInt8):VQ (b0::b1::b2::b3::b4::r)=((b1.toNat*256+b2.toNat)*256+b3.toNat)*256+b4.toNat:=by
 unfold VQ;simp only[List.getD_cons_succ,List.getD_cons_zero]
theorem ANE(b0:UInt8)(r:List UInt8):kdB (b0::r)=b0.toNat:=by unfold kdB;rw[List.getD_cons_zero]
theorem APj{k z:Nat}(hk:k<256)(r:List UInt8):kdB (hdB k z++r)=k:=by
 show kdB (UInt8.ofNat k::_)=k
 rw[ANE,UInt8.toNat_ofNat'];omega
theorem ANv{k z:Nat}(hz:z<4294967296)(r:List UInt8):VQ (hdB k z++r)=z:=by
 show VQ (UInt8.ofNat k::UInt8.ofNat (z / 16777216 % 256)::UInt8.ofNat (z / 65536 % 256)::UInt8.ofNat (z / 256 % 256)::UInt8.ofNat (z % 256)::r)=z
 rw[AJj]
 simp only[UInt8.toNat_ofNat']
 omega
end Go.Proofs.Ob
namespace Go.Proofs.Ob
open Go Go.Abs Go.Tlv
noncomputable section
structure Mr where
 tx:Lv->Int->ByteArray->(Lv->Prop)->Prop
 nu:Lv->Int->Int->(Lv->Prop)->Prop
 en:Lv->(ByteArray->Int->Prop)->Prop
 nb:Int->(ByteArray->Prop)->Prop
 tw:Int->(ByteArray->Prop)->Prop
def AQf(M:Mr):Lv->(Value->Prop)->Prop
 | [.int .i64 n],K=>M.tw n fun s=>K (.string s)
 |_,_=>False
def ASQ(N:Nd)(n:Int)(K:RK):Prop:=wpe Tryz.prog N (AP S0 Sp0 [] [] [] []) 300 (.call 51 [(.int .i64 n)] h0) (FD 100 K)
theorem AQH(N:Nd)(n:Int)(K:RK):ASQ N n K=(N.ari .quo .i64 n .i64 256 (fun z0=>N.conv 3 5 .i64 z0 .u8 (fun z1=>N.ari .rem .i64 n .i64 256 (fun z2=>N.conv 3 5 .i64 z2 .u8 (fun z3=>N.str [z1,z3] (fun s4=>K (.string s4) [APU z1 z3])))))):=by kernel_rfl
abbrev LSt:=Code->Nat->Lv->Lo->(ByteArray->Prop)->(Int->Prop)->Prop
def AQa(L:LSt):LpS:=lpS [2,3,4] fun c n AB obs K=>L c n AB obs (fun s=>K (.exit 0) [top,top,.string s] []) (fun e=>K .ret [.string (bytesOf []),.int .i64 e,top] [])
def AQ1(N:Nd)(L:LSt)(rs:Lv)(K:RK):Prop:=wpe Tryz.prog N (AP S0 Sp0 [] [(3,(75,([0,4,5],AQa L)))] [] []) 300 (.call 26 [(dsl rs)] h0) (FD 100 K)
def AO7(N:Nd)(M:Mr)(rs:Lv)(s:ByteArray)(i:Int)(back:Bk)(out:Ot):Prop:=
 wpe Tryz.prog N (AP S0 Sp0 [] [] [(51,AQf M)] []) 300 (.code false (AJ Tryz.prog 26 3) (CX 100 75 [0,4,5] [] ([dsl rs,.string s,.int .i64 i],[]))) (A7 100 [0,4,5] [2,3,4] 75 [] back out)
theorem AO8(N:Nd)(L:LSt)(rs:Lv)(K:RK):AQ1 N L rs K=(L (AJ Tryz.prog 26 3) 75 [dsl rs,.string (bytesOf []),.int .i64 0] [] (fun s0=>K (.tuple (Array.mk [.string s0,.int .i64 0])) []) (fun z0=>K (.tuple (Array.mk [.string (bytesOf []),.int .i64 z0])) [])):=by kernel_rfl
theorem ANV(N:Nd)(M:Mr)(rs:Lv)(s:ByteArray)(i:Int)(back:Bk)(out:Ot):AO7 N M rs s i back out=(N.dlen rs (fun o0=>N.cmp .lss .i64 i .i64 (Int.ofNat o0) (N.dget rs i 2 (fun l1=>N.rdI .u8 l1 0 (fun z2=>N.rdS l1 1 (fun s3=>N.cmp .eql .u8 z2 .u8 0 (nD/\(out Exit.ret [.string (bytesOf []),.int .i64 3,.string s] [])) (N.cmp .gtr .i64 i .i64 0 (N.dget rs i 2 (fun l4=>N.rdI .u8 l4 0 (fun z5=>N.rdS l4 1 (fun s6=>N.ari .sub .i64 i .i64 1 (fun z7=>N.dget rs z7 2 (fun l8=>N.rdI .u8 l8 0 (fun z9=>N.rdS l8 1 (fun s10=>N.cmp .leq .u8 z5 .u8 z9 (nD/\(out Exit.ret [.string (bytesOf []),.int .i64 3,.string s] [])) (N.dget rs i 2 (fun l11=>N.rdI .u8 l11 0 (fun z12=>N.rdS l11 1 (fun s13=>N.scmp .eql s13 (bytesOf []) (nD/\(out Exit.ret [.string (bytesOf []),.int .i64 3,.string s] [])) (N.dget rs i 2 (fun l14=>N.rdI .u8 l14 0 (fun z15=>N.rdS l14 1 (fun s16=>N.slen s16 (fun z17=>N.cmp .gtr .i64 z17 .i64 65535 (nD/\(out Exit.ret [.string (bytesOf []),.int .i64 5,.string s] [])) (N.dget rs i 2 (fun l18=>N.rdI .u8 l18 0 (fun z19=>N.rdS l18 1 (fun s20=>N.str [z19] (fun s21=>N.cat s s21 (fun s22=>N.dget rs i 2 (fun l23=>N.rdI .u8 l23 0 (fun z24=>N.rdS l23 1 (fun s25=>N.slen s25 (fun z26=>M.tw z26 (fun s27=>N.cat s22 s27 (fun s28=>N.dget rs i 2 (fun l29=>N.rdI .u8 l29 0 (fun z30=>N.rdS l29 1 (fun s31=>N.cat s28 s31 (fun s32=>N.ari .add .i64 i .i64 1 (fun z33=>nD/\(back [dsl rs,.string s32,.int .i64 z33] [(some (AA.cells [.int .u8 z19] 5 1 false true))]))))))))))))))))))))))))))))))))))) (N.dget rs i 2 (fun l4=>N.rdI .u8 l4 0 (fun z5=>N.rdS l4 1 (fun s6=>N.scmp .eql s6 (bytesOf []) (nD/\(out Exit.ret [.string (bytesOf []),.int .i64 3,.string s] [])) (N.dget rs i 2 (fun l7=>N.rdI .u8 l7 0 (fun z8=>N.rdS l7 1 (fun s9=>N.slen s9 (fun z10=>N.cmp .gtr .i64 z10 .i64 65535 (nD/\(out Exit.ret [.string (bytesOf []),.int .i64 5,.string s] [])) (N.dget rs i 2 (fun l11=>N.rdI .u8 l11 0 (fun z12=>N.rdS l11 1 (fun s13=>N.str [z12] (fun s14=>N.cat s s14 (fun s15=>N.dget rs i 2 (fun l16=>N.rdI .u8 l16 0 (fun z17=>N.rdS l16 1 (fun s18=>N.slen s18 (fun z19=>M.tw z19 (fun s20=>N.cat s15 s20 (fun s21=>N.dget rs i 2 (fun l22=>N.rdI .u8 l22 0 (fun z23=>N.rdS l22 1 (fun s24=>N.cat s21 s24 (fun s25=>N.ari .add .i64 i .i64 1 (fun z26=>nD/\(back [dsl rs,.string s25,.int .i64 z26] [(some (AA.cells [.int .u8 z12] 5 1 false true))])))))))))))))))))))))))))))))))) (nD/\(out (Exit.exit 0) [(.chan (some 0)),(.chan (some 0)),.string s] [])))):=by kernel_rfl
theorem ATG(m:Nat)(hm:m<=9223372036854775807):Is (ASQ (real Tryz.prog) (m:Int) (PQ (.string (bytesOf (two m))))):=by
 refine⟨?_⟩
 rw[AQH]
 refine AR1 (d:=256) (by omega) hm (UV t3 t5 (APs (d:=256) (by omega) (UV t3 t5 (VP (PQ.of ?_ rfl)))))
 have e:m % 256 % 256=m % 256:=by omega
 simp only[two,List.map_cons,List.map_nil,e,Int.toNat_natCast]
def MRr:Mr where
 tx:=fun rs kind s K=>∃(l:List At) (k:Nat),rs=QD l/\kind=k/\l.length<1000/\K (QD (IY l k s))
 nu:=fun rs kind n K=>∃(l:List At) (k m:Nat),rs=QD l/\kind=k/\n=m/\m<18446744073709551616/\l.length<1000/\K (QD (addN l k m))
 en:=fun rs K=>∃l:List At,rs=QD l/\(∀a∈l,a.t<256)/\K (bytesOf (encS l)) (JB 0 l:Int)
 nb:=fun n K=>∃m:Nat,n=m/\m<18446744073709551616/\K (bytesOf (EK m))
 tw:=fun n K=>∃m:Nat,n=m/\m<=9223372036854775807/\K (bytesOf (two m))
theorem AS6:FY Tryz.prog 100 51 (AQf MRr):=by
 intro args K h
 unfold AQf at h
 split at h<;>try exact h.elim
 obtain⟨m,rfl,hm,hK⟩:=h
 exact⟨_,fun B H=>GL okp DC AZ rfl rfl (ATG m hm) B H,hK⟩
end
end Go.Proofs.Ob
