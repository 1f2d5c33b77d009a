/- . -/
import Derived.Test.YtblbaohcelldpaaGreatDoorU5
set_option linter.all false
set_option maxRecDepth 100000
namespace Go.Tlv
open Go Go.Abs
section
variable {α:Type} {step:α->At->Option α} {z:α} {s:List UInt8}
theorem TM{x:α}(h0:(EG 0 s).1=0)(h:run step z (EG 0 s).2=some x):rdE step z s=(0,x):=by unfold rdE;rw[if_pos h0,h]
theorem TL(h0:(EG 0 s).1=0)(h:run step z (EG 0 s).2=none):rdE step z s=(3,z):=by unfold rdE;rw[if_pos h0,h]
theorem JA(h0:(EG 0 s).1≠0):rdE step z s=((EG 0 s).1,z):=by unfold rdE;rw[if_neg h0]
end
end Go.Tlv
namespace Go.Proofs.Ob
open Go Go.Abs Go.Tlv
noncomputable section
theorem UW{W:How}(hkn:OM Tryz.prog 100 W)(hlp:SN Tryz.prog 100 W){f:FuncId}{args:Lv}{v:Value}{n:Nat}(ha:BL 100 args=true)(hv:below 100 v=true)
  (h:Is (wpe Tryz.prog (real Tryz.prog) W n (.call f args h0) (J6 fun v'=>FZ v' v))) (B:Base) (H:Heap):BM Tryz.prog 100 B f args H (.returned v) H:=by
 obtain⟨r,h1,h2⟩:=ZN okp hkn hlp n _ _ h.out
 unfold J6 at h2
 split at h2
 ·rename_i v' u h'
  split at h2
  ·rename_i hc
   simp only[Bool.and_eq_true]at hc
   exact QG (fun B=>IM (ins:=[]) (TB (Nat.le_of_ble_eq_true hc.1) (h1 B)) ((EX (.cons h2 .nil) (F5.refl _)).trans (LB (by simp only[BL,hv];rfl)))) ha hv B H
  ·exact h2.elim
 ·exact h2.elim
def JS(x:EP):AA := .cells [.int .i64 x.id,.int .i64 x.size,.int .i64 x.lo,.int .i64 x.lw,.int .i64 x.lu,.int .i64 x.so,.int .i64 x.sw,dsl (rowsOf D7 x.arms),.int .i64 x.ot] 32 9 false true
def rF(r:AA)(l:List At)(p:StX BQ L8 l):Lv×Lo:=([.func (.func 159) ⟨[]⟩ ⟨[pA 101]⟩,dsl (FX l),.int .i64 (l.length:Int),.int .i64 (p.1.2:Int)],[some r,some (JS p.1.1)])
def rR(r:AA)(l:List At)(e:Exit)(v:Lv)(o:Lo):Prop:=
 (∃x,run BQ L8 l=some x/\e = .exit 0/\v=[top]/\o=[some r,some (JS x)])∨(run BQ L8 l=none/\e = .ret/\v=[.int .i64 3]/\o=[some r,none])
theorem AIz(r:AA)(hr:EC 102 (some r)=true)(l:List At)(hl:l.length<=255)(p:StX BQ L8 l):
  Is (wpe Tryz.prog (real Tryz.prog) (AP Z0 Zp [(161,IX 162 (SQ KH D7))] [] [(142,sRN MRN)] [(28,23),(37,16),(14,10)]) 300 (.code false (AJ Tryz.prog 158 5) (CX 100 37 [1,18,19,20] [] (rF r l p))) (A7 100 [1,18,19,20] [4] 37 []
   (fun AB AC=>∃a':StX BQ L8 l,l.length-a'.1.2<l.length-p.1.2/\Wk 100 (100+2) AB AC (rF r l a').1 (rF r l a').2/\∀e v o,rR r l e v o->rR r l e v o)
   (fun e AB AC=>∃v o,Wk 100 (100+2) AB AC v o/\rR r l e v o))):=by
 refine⟨?_⟩
 obtain⟨⟨x,i⟩,inv⟩:=p
 have hle:i<=l.length:=inv.le
 show yL (real Tryz.prog) (SQ KH D7) MRN (some r) x.id x.size x.lo x.lw x.lu x.so x.sw (rowsOf D7 x.arms) x.ot (FX l) (l.length:Int) (i:Int) _ _
 rw[yM]
 refine EL (fun hlt=>?_) (fun hge=>?_)
 ·have ha:l[i]?=some l[i]:=List.getElem?_eq_getElem hlt
  generalize l[i]=a at ha
  have hms:l.length-(i+1)<l.length-i:=by omega
  refine DK i rfl (JW ha) rfl (CG (z:=(a.t:Int)) rfl (KL (z:=a.v) rfl ?_))
  refine DZ (d:=1) (fun h=>?_) (fun hn1=>?_)
  ·refine⟨2147483647,rfl,fun n hn=>?_,fun hn=>?_⟩
   ·have hs:BQ x a=some {x with id:=(n:Int)}:=by unfold BQ;rw[h];show(BD 2147483647 a.v.data.toList).map _=_;unfold BD;rw[hn];rfl
    exact BX EH EZ (BG (by have:=(C8 hn).2.1;omega)) (BZ (by omega) ⟨rfl,⟨({x with id:=(n:Int)},i+1),inv.next ha hs⟩,hms,FT hr rfl,fun _ _ _ h=>h⟩)
   ·have hs:BQ x a=none:=by unfold BQ;rw[h];show(BD 2147483647 a.v.data.toList).map _=_;unfold BD;rw[hn];rfl
    exact BX (m:=0) EH EZ (BG (by omega)) ⟨rfl,_,_,I8 hr rfl,.inr ⟨inv.bad ha hs,rfl,rfl,rfl⟩⟩
  refine DZ (d:=2) (fun h=>?_) (fun hn2=>?_)
  ·refine⟨2147483647,rfl,fun n hn=>?_,fun hn=>?_⟩
   ·have hs:BQ x a=some {x with size:=(n:Int)}:=by unfold BQ;rw[h];show(BD 2147483647 a.v.data.toList).map _=_;unfold BD;rw[hn];rfl
    exact BX EH EZ (BG (by have:=(C8 hn).2.1;omega)) (BZ (by omega) ⟨rfl,⟨({x with size:=(n:Int)},i+1),inv.next ha hs⟩,hms,FT hr rfl,fun _ _ _ h=>h⟩)
   ·have hs:BQ x a=none:=by unfold BQ;rw[h];show(BD 2147483647 a.v.data.toList).map _=_;unfold BD;rw[hn];rfl
    exact BX (m:=0) EH EZ (BG (by omega)) ⟨rfl,_,_,I8 hr rfl,.inr ⟨inv.bad ha hs,rfl,rfl,rfl⟩⟩
  refine DZ (d:=3) (fun h=>?_) (fun hn3=>?_)
  ·refine⟨2147483647,rfl,fun n hn=>?_,fun hn=>?_⟩
   ·have hs:BQ x a=some {x with lo:=(n:Int)}:=by unfold BQ;rw[h];show(BD 2147483647 a.v.data.toList).map _=_;unfold BD;rw[hn];rfl
    exact BX EH EZ (BG (by have:=(C8 hn).2.1;omega)) (BZ (by omega) ⟨rfl,⟨({x with lo:=(n:Int)},i+1),inv.next ha hs⟩,hms,FT hr rfl,fun _ _ _ h=>h⟩)
   ·have hs:BQ x a=none:=by unfold BQ;rw[h];show(BD 2147483647 a.v.data.toList).map _=_;unfold BD;rw[hn];rfl
    exact BX (m:=0) EH EZ (BG (by omega)) ⟨rfl,_,_,I8 hr rfl,.inr ⟨inv.bad ha hs,rfl,rfl,rfl⟩⟩
  refine DZ (d:=4) (fun h=>?_) (fun hn4=>?_)
  ·refine⟨2147483647,rfl,fun n hn=>?_,fun hn=>?_⟩
   ·have hs:BQ x a=some {x with lw:=(n:Int)}:=by unfold BQ;rw[h];show(BD 2147483647 a.v.data.toList).map _=_;unfold BD;rw[hn];rfl
    exact BX EH EZ (BG (by have:=(C8 hn).2.1;omega)) (BZ (by omega) ⟨rfl,⟨({x with lw:=(n:Int)},i+1),inv.next ha hs⟩,hms,FT hr rfl,fun _ _ _ h=>h⟩)
   ·have hs:BQ x a=none:=by unfold BQ;rw[h];show(BD 2147483647 a.v.data.toList).map _=_;unfold BD;rw[hn];rfl
    exact BX (m:=0) EH EZ (BG (by omega)) ⟨rfl,_,_,I8 hr rfl,.inr ⟨inv.bad ha hs,rfl,rfl,rfl⟩⟩
  refine DZ (d:=5) (fun h=>?_) (fun hn5=>?_)
  ·refine⟨2147483647,rfl,fun n hn=>?_,fun hn=>?_⟩
   ·have hs:BQ x a=some {x with lu:=(n:Int)}:=by unfold BQ;rw[h];show(BD 2147483647 a.v.data.toList).map _=_;unfold BD;rw[hn];rfl
    exact BX EH EZ (BG (by have:=(C8 hn).2.1;omega)) (BZ (by omega) ⟨rfl,⟨({x with lu:=(n:Int)},i+1),inv.next ha hs⟩,hms,FT hr rfl,fun _ _ _ h=>h⟩)
   ·have hs:BQ x a=none:=by unfold BQ;rw[h];show(BD 2147483647 a.v.data.toList).map _=_;unfold BD;rw[hn];rfl
    exact BX (m:=0) EH EZ (BG (by omega)) ⟨rfl,_,_,I8 hr rfl,.inr ⟨inv.bad ha hs,rfl,rfl,rfl⟩⟩
  refine DZ (d:=6) (fun h=>?_) (fun hn6=>?_)
  ·refine⟨2147483647,rfl,fun n hn=>?_,fun hn=>?_⟩
   ·have hs:BQ x a=some {x with so:=(n:Int)}:=by unfold BQ;rw[h];show(BD 2147483647 a.v.data.toList).map _=_;unfold BD;rw[hn];rfl
    exact BX EH EZ (BG (by have:=(C8 hn).2.1;omega)) (BZ (by omega) ⟨rfl,⟨({x with so:=(n:Int)},i+1),inv.next ha hs⟩,hms,FT hr rfl,fun _ _ _ h=>h⟩)
   ·have hs:BQ x a=none:=by unfold BQ;rw[h];show(BD 2147483647 a.v.data.toList).map _=_;unfold BD;rw[hn];rfl
    exact BX (m:=0) EH EZ (BG (by omega)) ⟨rfl,_,_,I8 hr rfl,.inr ⟨inv.bad ha hs,rfl,rfl,rfl⟩⟩
  refine DZ (d:=7) (fun h=>?_) (fun hn7=>?_)
  ·refine⟨2147483647,rfl,fun n hn=>?_,fun hn=>?_⟩
   ·have hs:BQ x a=some {x with sw:=(n:Int)}:=by unfold BQ;rw[h];show(BD 2147483647 a.v.data.toList).map _=_;unfold BD;rw[hn];rfl
    exact BX EH EZ (BG (by have:=(C8 hn).2.1;omega)) (BZ (by omega) ⟨rfl,⟨({x with sw:=(n:Int)},i+1),inv.next ha hs⟩,hms,FT hr rfl,fun _ _ _ h=>h⟩)
   ·have hs:BQ x a=none:=by unfold BQ;rw[h];show(BD 2147483647 a.v.data.toList).map _=_;unfold BD;rw[hn];rfl
    exact BX (m:=0) EH EZ (BG (by omega)) ⟨rfl,_,_,I8 hr rfl,.inr ⟨inv.bad ha hs,rfl,rfl,rfl⟩⟩
  refine DZ (d:=8) (fun h=>?_) (fun hn8=>?_)
  ·refine⟨2147483647,rfl,fun n hn=>?_,fun hn=>?_⟩
   ·have hs:BQ x a=some {x with ot:=(n:Int)}:=by unfold BQ;rw[h];show(BD 2147483647 a.v.data.toList).map _=_;unfold BD;rw[hn];rfl
    exact BX EH EZ (BG (by have:=(C8 hn).2.1;omega)) (BZ (by omega) ⟨rfl,⟨({x with ot:=(n:Int)},i+1),inv.next ha hs⟩,hms,FT hr rfl,fun _ _ _ h=>h⟩)
   ·have hs:BQ x a=none:=by unfold BQ;rw[h];show(BD 2147483647 a.v.data.toList).map _=_;unfold BD;rw[hn];rfl
    exact BX (m:=0) EH EZ (BG (by omega)) ⟨rfl,_,_,I8 hr rfl,.inr ⟨inv.bad ha hs,rfl,rfl,rfl⟩⟩
  refine DZ (d:=9) (fun h=>?_) (fun hn9=>?_)
  ·refine⟨32,rfl,by omega,fun v hv=>?_,fun hv v=>?_⟩
   ·have hs:BQ x a=some {x with arms:=v}:=by unfold BQ;rw[h];show(F9 KH 32 a.v.data.toList).map _=_;rw[hv];rfl
    exact BZ (by omega) ⟨rfl,⟨({x with arms:=v},i+1),inv.next ha hs⟩,hms,FT hr rfl,fun _ _ _ h=>h⟩
   ·have hs:BQ x a=none:=by unfold BQ;rw[h];show(F9 KH 32 a.v.data.toList).map _=_;rw[hv];rfl
    exact⟨rfl,_,_,I8 hr rfl,.inr ⟨inv.bad ha hs,rfl,rfl,rfl⟩⟩
  have hs:BQ x a=none:=by
   unfold BQ
   split<;>first|rfl|contradiction
  exact⟨rfl,_,_,I8 hr rfl,.inr ⟨inv.bad ha hs,rfl,rfl,rfl⟩⟩
 ·exact⟨rfl,_,_,Wk.refl _ _ _ _,.inl ⟨x,inv.last (by omega),rfl,rfl,rfl⟩⟩
def ACB(r:AA):rH:=fun c n AB obs A E=>∃l:List At,l.length<=255/\c=AJ Tryz.prog 158 5/\n=37/\AB=[.func (.func 159) ⟨[]⟩ ⟨[pA 101]⟩,dsl (FX l),.int .i64 (Int.ofNat l.length),.int .i64 (0:Int)]/\obs=[some r,some (.cells [.int .i64 0,.int .i64 0,.int .i64 0,.int .i64 0,.int .i64 0,.int .i64 0,.int .i64 0,.slice none 0 0,.int .i64 0] 32 9 false true)]/\
 (∀x,run BQ L8 l=some x->A x.id x.size x.lo x.lw x.lu x.so x.sw (rowsOf D7 x.arms) x.ot)/\(run BQ L8 l=none->E)
theorem AKm(r:AA)(hr:EC 102 (some r)=true):BH Tryz.prog 100 [1,18,19,20] (ADX (ACB r)):=by
 show BH Tryz.prog 100 [1,18,19,20] (lpS [4] _)
 refine FQ okp (W:=(AP Z0 Zp [(161,IX 162 (SQ KH D7))] [] [(142,sRN MRN)] [(28,23),(37,16),(14,10)])) (M3 (fun x hx=>by simp only[List.mem_singleton]at hx;subst hx;exact AKw) (F6 WV)) AZ ?_
 intro c n AB obs K h
 split at h<;>try exact h.elim
 obtain⟨l,hl,hc,hn,hv,ho,hA,hE⟩:=h
 subst hc;subst hn;subst hv
 simp only[List.cons.injEq]at ho
 obtain⟨rfl,rfl⟩:=ho
 refine⟨StX BQ L8 l,2,300,fun p=>l.length-p.1.2,rF r l,fun _ e v o=>rR r l e v o,⟨(L8,0),⟨Nat.zero_le _,rfl⟩⟩,rfl,EX (DT.refl _) (.cons (.refl _) (.cons (.cells (.cons (.refl _) (.cons (.refl _) (.cons (.refl _) (.cons (.refl _) (.cons (.refl _) (.cons (.refl _) (.cons (.refl _) (.cons .nilD (.cons (.refl _) (.nil))))))))))) .nil)),?_,AIz r hr l hl⟩
 intro e v o hR
 rcases hR with⟨x,h1,rfl,rfl,rfl⟩ | ⟨h1,rfl,rfl,rfl⟩
 ·exact hA x h1
 ·exact hE h1
def AH9:AA := .cells [.int .i64 0,.int .i64 0,.int .i64 0,.int .i64 0,.int .i64 0,.int .i64 0,.int .i64 0,.slice none 0 0,.int .i64 0] 32 9 false true
def AIC(q:Nat×EP):Value := .tuple ⟨[OI q.2,.int .i64 (q.1:Int)]⟩
theorem AKG(s:ByteArray):Is (ADf (real Tryz.prog) MD (ACB AH9) s (fun v=>FZ v (AIC (rdE BQ L8 s.data.toList)))):=by
 refine⟨?_⟩
 rw[ABF]
 refine⟨fun h0=>BI _ (JP _) ⟨_,NA _,rfl,rfl,rfl,rfl,fun x hx=>?_,fun hx=>?_⟩,fun h3=>?_,fun h4=>?_⟩
 ·rw[TM h0 hx];exact FZ.refl _
 ·rw[TL h0 hx];exact(.tup (.cons (.agg (.cons (.refl _) (.cons (.refl _) (.cons (.refl _) (.cons (.refl _) (.cons (.refl _) (.cons (.refl _) (.cons (.refl _) (.cons .nilD (.cons (.refl _) (.nil))))))))))) (DT.refl _)))
 ·rw[JA (by omega),h3];exact(.tup (.cons (.agg (.cons (.refl _) (.cons (.refl _) (.cons (.refl _) (.cons (.refl _) (.cons (.refl _) (.cons (.refl _) (.cons (.refl _) (.cons .nilD (.cons (.refl _) (.nil))))))))))) (DT.refl _)))
 ·rw[JA (by omega),h4];exact(.tup (.cons (.agg (.cons (.refl _) (.cons (.refl _) (.cons (.refl _) (.cons (.refl _) (.cons (.refl _) (.cons (.refl _) (.cons (.refl _) (.cons .nilD (.cons (.refl _) (.nil))))))))))) (DT.refl _)))
theorem AKH(s:ByteArray)(B:Base)(H:Heap):BM Tryz.prog 100 B 88 [.string s] H (.returned (AIC (rdE BQ L8 s.data.toList))) H:=
 UW (EY (F6 QZ)) (GH (fun x hx=>by simp only[List.mem_singleton]at hx;subst hx;exact AKm AH9 rfl)) rfl rfl (AKG s) B H
def AD2(x:E9):AA := .cells [.int .i64 x.id,.int .u8 (x.base:Int),.int .i64 x.node,.int .i64 x.off,.int .i64 x.wid] 34 5 false true
def fV(r:AA)(l:List At)(p:StX CE JK l):Lv×Lo:=([.func (.func 166) ⟨[]⟩ ⟨[pA 101]⟩,dsl (FX l),.int .i64 (l.length:Int),.int .i64 (p.1.2:Int)],[some r,some (AD2 p.1.1)])
def gV(r:AA)(l:List At)(e:Exit)(v:Lv)(o:Lo):Prop:=
 (∃x,run CE JK l=some x/\e = .exit 0/\v=[top]/\o=[some r,some (AD2 x)])∨(run CE JK l=none/\e = .ret/\v=[.int .i64 3]/\o=[some r,none])
theorem AFL(r:AA)(hr:EC 102 (some r)=true)(l:List At)(hl:l.length<=255)(p:StX CE JK l):
  Is (wpe Tryz.prog (real Tryz.prog) (AP Z0 Zp [] [] [(142,sRN MRN)] [(28,23),(37,16),(14,10)]) 300 (.code false (AJ Tryz.prog 158 5) (CX 100 37 [1,18,19,20] [] (fV r l p))) (A7 100 [1,18,19,20] [4] 37 []
   (fun AB AC=>∃a':StX CE JK l,l.length-a'.1.2<l.length-p.1.2/\Wk 100 (100+2) AB AC (fV r l a').1 (fV r l a').2/\∀e v o,gV r l e v o->gV r l e v o)
   (fun e AB AC=>∃v o,Wk 100 (100+2) AB AC v o/\gV r l e v o))):=by
 refine⟨?_⟩
 obtain⟨⟨x,i⟩,inv⟩:=p
 have hle:i<=l.length:=inv.le
 show pK (real Tryz.prog) MRN (some r) x.id (x.base:Int) x.node x.off x.wid (FX l) (l.length:Int) (i:Int) _ _
 rw[uP]
 refine EL (fun hlt=>?_) (fun hge=>?_)
 ·have ha:l[i]?=some l[i]:=List.getElem?_eq_getElem hlt
  generalize l[i]=a at ha
  have hms:l.length-(i+1)<l.length-i:=by omega
  refine DK i rfl (JW ha) rfl (CG (z:=(a.t:Int)) rfl (KL (z:=a.v) rfl ?_))
  refine DZ (d:=1) (fun h=>?_) (fun hn1=>?_)
  ·refine⟨2147483647,rfl,fun n hn=>?_,fun hn=>?_⟩
   ·have hs:CE x a=some {x with id:=(n:Int)}:=by unfold CE;rw[h];show(BD 2147483647 a.v.data.toList).map _=_;unfold BD;rw[hn];rfl
    exact BX EH EZ (BG (by have:=(C8 hn).2.1;omega)) (BZ (by omega) ⟨rfl,⟨({x with id:=(n:Int)},i+1),inv.next ha hs⟩,hms,FT hr rfl,fun _ _ _ h=>h⟩)
   ·have hs:CE x a=none:=by unfold CE;rw[h];show(BD 2147483647 a.v.data.toList).map _=_;unfold BD;rw[hn];rfl
    exact BX (m:=0) EH EZ (BG (by omega)) ⟨rfl,_,_,I8 hr rfl,.inr ⟨inv.bad ha hs,rfl,rfl,rfl⟩⟩
  refine DZ (d:=2) (fun h=>?_) (fun hn2=>?_)
  ·refine⟨255,rfl,fun n hn=>?_,fun hn=>?_⟩
   ·have hs:CE x a=some {x with base:=n}:=by unfold CE;rw[h];show(ET 255 a.v.data.toList).map _=_;unfold ET;rw[hn];rfl
    exact BX EH uU8 (PT (by have:=(C8 hn).2.1;omega)) (BZ (by omega) ⟨rfl,⟨({x with base:=n},i+1),inv.next ha hs⟩,hms,FT hr rfl,fun _ _ _ h=>h⟩)
   ·have hs:CE x a=none:=by unfold CE;rw[h];show(ET 255 a.v.data.toList).map _=_;unfold ET;rw[hn];rfl
    exact BX (m:=0) EH uU8 (PT (by omega)) ⟨rfl,_,_,I8 hr rfl,.inr ⟨inv.bad ha hs,rfl,rfl,rfl⟩⟩
  refine DZ (d:=3) (fun h=>?_) (fun hn3=>?_)
  ·refine⟨2147483647,rfl,fun n hn=>?_,fun hn=>?_⟩
   ·have hs:CE x a=some {x with node:=(n:Int)}:=by unfold CE;rw[h];show(BD 2147483647 a.v.data.toList).map _=_;unfold BD;rw[hn];rfl
    exact BX EH EZ (BG (by have:=(C8 hn).2.1;omega)) (BZ (by omega) ⟨rfl,⟨({x with node:=(n:Int)},i+1),inv.next ha hs⟩,hms,FT hr rfl,fun _ _ _ h=>h⟩)
   ·have hs:CE x a=none:=by unfold CE;rw[h];show(BD 2147483647 a.v.data.toList).map _=_;unfold BD;rw[hn];rfl
    exact BX (m:=0) EH EZ (BG (by omega)) ⟨rfl,_,_,I8 hr rfl,.inr ⟨inv.bad ha hs,rfl,rfl,rfl⟩⟩
  refine DZ (d:=4) (fun h=>?_) (fun hn4=>?_)
  ·refine⟨2147483647,rfl,fun n hn=>?_,fun hn=>?_⟩
   ·have hs:CE x a=some {x with off:=(n:Int)}:=by unfold CE;rw[h];show(BD 2147483647 a.v.data.toList).map _=_;unfold BD;rw[hn];rfl
    exact BX EH EZ (BG (by have:=(C8 hn).2.1;omega)) (BZ (by omega) ⟨rfl,⟨({x with off:=(n:Int)},i+1),inv.next ha hs⟩,hms,FT hr rfl,fun _ _ _ h=>h⟩)
   ·have hs:CE x a=none:=by unfold CE;rw[h];show(BD 2147483647 a.v.data.toList).map _=_;unfold BD;rw[hn];rfl
    exact BX (m:=0) EH EZ (BG (by omega)) ⟨rfl,_,_,I8 hr rfl,.inr ⟨inv.bad ha hs,rfl,rfl,rfl⟩⟩
  refine DZ (d:=5) (fun h=>?_) (fun hn5=>?_)
  ·refine⟨2147483647,rfl,fun n hn=>?_,fun hn=>?_⟩
   ·have hs:CE x a=some {x with wid:=(n:Int)}:=by unfold CE;rw[h];show(BD 2147483647 a.v.data.toList).map _=_;unfold BD;rw[hn];rfl
    exact BX EH EZ (BG (by have:=(C8 hn).2.1;omega)) (BZ (by omega) ⟨rfl,⟨({x with wid:=(n:Int)},i+1),inv.next ha hs⟩,hms,FT hr rfl,fun _ _ _ h=>h⟩)
   ·have hs:CE x a=none:=by unfold CE;rw[h];show(BD 2147483647 a.v.data.toList).map _=_;unfold BD;rw[hn];rfl
    exact BX (m:=0) EH EZ (BG (by omega)) ⟨rfl,_,_,I8 hr rfl,.inr ⟨inv.bad ha hs,rfl,rfl,rfl⟩⟩
  have hs:CE x a=none:=by
   unfold CE
   split<;>first|rfl|contradiction
  exact⟨rfl,_,_,I8 hr rfl,.inr ⟨inv.bad ha hs,rfl,rfl,rfl⟩⟩
 ·exact⟨rfl,_,_,Wk.refl _ _ _ _,.inl ⟨x,inv.last (by omega),rfl,rfl,rfl⟩⟩
def wI(r:AA):gJ:=fun c n AB obs A E=>∃l:List At,l.length<=255/\c=AJ Tryz.prog 158 5/\n=37/\AB=[.func (.func 166) ⟨[]⟩ ⟨[pA 101]⟩,dsl (FX l),.int .i64 (Int.ofNat l.length),.int .i64 (0:Int)]/\obs=[some r,some (.cells [.int .i64 0,.int .u8 0,.int .i64 0,.int .i64 0,.int .i64 0] 34 5 false true)]/\
 (∀x,run CE JK l=some x->A x.id (x.base:Int) x.node x.off x.wid)/\(run CE JK l=none->E)
theorem AHA(r:AA)(hr:EC 102 (some r)=true):BH Tryz.prog 100 [1,18,19,20] (AAv (wI r)):=by
 show BH Tryz.prog 100 [1,18,19,20] (lpS [4] _)
 refine FQ okp (W:=(AP Z0 Zp [] [] [(142,sRN MRN)] [(28,23),(37,16),(14,10)])) (EY (F6 WV)) AZ ?_
 intro c n AB obs K h
 split at h<;>try exact h.elim
 obtain⟨l,hl,hc,hn,hv,ho,hA,hE⟩:=h
 subst hc;subst hn;subst hv
 simp only[List.cons.injEq]at ho
 obtain⟨rfl,rfl⟩:=ho
 refine⟨StX CE JK l,2,300,fun p=>l.length-p.1.2,fV r l,fun _ e v o=>gV r l e v o,⟨(JK,0),⟨Nat.zero_le _,rfl⟩⟩,rfl,Wk.refl _ _ _ _,?_,AFL r hr l hl⟩
 intro e v o hR
 rcases hR with⟨x,h1,rfl,rfl,rfl⟩ | ⟨h1,rfl,rfl,rfl⟩
 ·exact hA x h1
 ·exact hE h1
def ADG:AA := .cells [.int .i64 0,.int .u8 0,.int .i64 0,.int .i64 0,.int .i64 0] 34 5 false true
def ADT(q:Nat×E9):Value := .tuple ⟨[K6 q.2,.int .i64 (q.1:Int)]⟩
theorem AIg(s:ByteArray):Is (yD (real Tryz.prog) MD (wI ADG) s (fun v=>FZ v (ADT (rdE CE JK s.data.toList)))):=by
 refine⟨?_⟩
 rw[yE]
 refine⟨fun h0=>BI _ (JP _) ⟨_,NA _,rfl,rfl,rfl,rfl,fun x hx=>?_,fun hx=>?_⟩,fun h3=>?_,fun h4=>?_⟩
 ·rw[TM h0 hx];exact FZ.refl _
 ·rw[TL h0 hx];exact(FZ.refl _)
 ·rw[JA (by omega),h3];exact(FZ.refl _)
 ·rw[JA (by omega),h4];exact(FZ.refl _)
theorem AIh(s:ByteArray)(B:Base)(H:Heap):BM Tryz.prog 100 B 92 [.string s] H (.returned (ADT (rdE CE JK s.data.toList))) H:=
 UW (EY (F6 QZ)) (GH (fun x hx=>by simp only[List.mem_singleton]at hx;subst hx;exact AHA ADG rfl)) rfl rfl (AIg s) B H
def G6(x:EB):AA := .cells [.int .i64 x.id,.int .u8 (x.kind:Int),dsl (rowsOf EM x.keys),.int .i64 x.cap,.int .i64 x.miss] 37 5 false true
def gF(r:AA)(l:List At)(p:StX CF JN l):Lv×Lo:=([.func (.func 173) ⟨[]⟩ ⟨[pA 101]⟩,dsl (FX l),.int .i64 (l.length:Int),.int .i64 (p.1.2:Int)],[some r,some (G6 p.1.1)])
def gZ(r:AA)(l:List At)(e:Exit)(v:Lv)(o:Lo):Prop:=
 (∃x,run CF JN l=some x/\e = .exit 0/\v=[top]/\o=[some r,some (G6 x)])∨(run CF JN l=none/\e = .ret/\v=[.int .i64 3]/\o=[some r,none])
theorem AFP(r:AA)(hr:EC 102 (some r)=true)(l:List At)(hl:l.length<=255)(p:StX CF JN l):
  Is (wpe Tryz.prog (real Tryz.prog) (AP Z0 Zp [(174,IX 160 (SQ LW EM))] [] [(142,sRN MRN)] [(28,23),(37,16),(14,10)]) 300 (.code false (AJ Tryz.prog 158 5) (CX 100 37 [1,18,19,20] [] (gF r l p))) (A7 100 [1,18,19,20] [4] 37 []
   (fun AB AC=>∃a':StX CF JN l,l.length-a'.1.2<l.length-p.1.2/\Wk 100 (100+2) AB AC (gF r l a').1 (gF r l a').2/\∀e v o,gZ r l e v o->gZ r l e v o)
   (fun e AB AC=>∃v o,Wk 100 (100+2) AB AC v o/\gZ r l e v o))):=by
 refine⟨?_⟩
 obtain⟨⟨x,i⟩,inv⟩:=p
 have hle:i<=l.length:=inv.le
 show pR (real Tryz.prog) (SQ LW EM) MRN (some r) x.id (x.kind:Int) (rowsOf EM x.keys) x.cap x.miss (FX l) (l.length:Int) (i:Int) _ _
 rw[uT]
 refine EL (fun hlt=>?_) (fun hge=>?_)
 ·have ha:l[i]?=some l[i]:=List.getElem?_eq_getElem hlt
  generalize l[i]=a at ha
  have hms:l.length-(i+1)<l.length-i:=by omega
  refine DK i rfl (JW ha) rfl (CG (z:=(a.t:Int)) rfl (KL (z:=a.v) rfl ?_))
  refine DZ (d:=1) (fun h=>?_) (fun hn1=>?_)
  ·refine⟨2147483647,rfl,fun n hn=>?_,fun hn=>?_⟩
   ·have hs:CF x a=some {x with id:=(n:Int)}:=by unfold CF;rw[h];show(BD 2147483647 a.v.data.toList).map _=_;unfold BD;rw[hn];rfl
    exact BX EH EZ (BG (by have:=(C8 hn).2.1;omega)) (BZ (by omega) ⟨rfl,⟨({x with id:=(n:Int)},i+1),inv.next ha hs⟩,hms,FT hr rfl,fun _ _ _ h=>h⟩)
   ·have hs:CF x a=none:=by unfold CF;rw[h];show(BD 2147483647 a.v.data.toList).map _=_;unfold BD;rw[hn];rfl
    exact BX (m:=0) EH EZ (BG (by omega)) ⟨rfl,_,_,I8 hr rfl,.inr ⟨inv.bad ha hs,rfl,rfl,rfl⟩⟩
  refine DZ (d:=2) (fun h=>?_) (fun hn2=>?_)
  ·refine⟨255,rfl,fun n hn=>?_,fun hn=>?_⟩
   ·have hs:CF x a=some {x with kind:=n}:=by unfold CF;rw[h];show(ET 255 a.v.data.toList).map _=_;unfold ET;rw[hn];rfl
    exact BX EH uU8 (PT (by have:=(C8 hn).2.1;omega)) (BZ (by omega) ⟨rfl,⟨({x with kind:=n},i+1),inv.next ha hs⟩,hms,FT hr rfl,fun _ _ _ h=>h⟩)
   ·have hs:CF x a=none:=by unfold CF;rw[h];show(ET 255 a.v.data.toList).map _=_;unfold ET;rw[hn];rfl
    exact BX (m:=0) EH uU8 (PT (by omega)) ⟨rfl,_,_,I8 hr rfl,.inr ⟨inv.bad ha hs,rfl,rfl,rfl⟩⟩
  refine DZ (d:=3) (fun h=>?_) (fun hn3=>?_)
  ·refine⟨4,rfl,by omega,fun v hv=>?_,fun hv v=>?_⟩
   ·have hs:CF x a=some {x with keys:=v}:=by unfold CF;rw[h];show(F9 LW 4 a.v.data.toList).map _=_;rw[hv];rfl
    exact BZ (by omega) ⟨rfl,⟨({x with keys:=v},i+1),inv.next ha hs⟩,hms,FT hr rfl,fun _ _ _ h=>h⟩
   ·have hs:CF x a=none:=by unfold CF;rw[h];show(F9 LW 4 a.v.data.toList).map _=_;rw[hv];rfl
    exact⟨rfl,_,_,I8 hr rfl,.inr ⟨inv.bad ha hs,rfl,rfl,rfl⟩⟩
  refine DZ (d:=4) (fun h=>?_) (fun hn4=>?_)
  ·refine⟨2147483647,rfl,fun n hn=>?_,fun hn=>?_⟩
   ·have hs:CF x a=some {x with cap:=(n:Int)}:=by unfold CF;rw[h];show(BD 2147483647 a.v.data.toList).map _=_;unfold BD;rw[hn];rfl
    exact BX EH EZ (BG (by have:=(C8 hn).2.1;omega)) (BZ (by omega) ⟨rfl,⟨({x with cap:=(n:Int)},i+1),inv.next ha hs⟩,hms,FT hr rfl,fun _ _ _ h=>h⟩)
   ·have hs:CF x a=none:=by unfold CF;rw[h];show(BD 2147483647 a.v.data.toList).map _=_;unfold BD;rw[hn];rfl
    exact BX (m:=0) EH EZ (BG (by omega)) ⟨rfl,_,_,I8 hr rfl,.inr ⟨inv.bad ha hs,rfl,rfl,rfl⟩⟩
  refine DZ (d:=5) (fun h=>?_) (fun hn5=>?_)
  ·refine⟨2147483647,rfl,fun n hn=>?_,fun hn=>?_⟩
   ·have hs:CF x a=some {x with miss:=(n:Int)}:=by unfold CF;rw[h];show(BD 2147483647 a.v.data.toList).map _=_;unfold BD;rw[hn];rfl
    exact BX EH EZ (BG (by have:=(C8 hn).2.1;omega)) (BZ (by omega) ⟨rfl,⟨({x with miss:=(n:Int)},i+1),inv.next ha hs⟩,hms,FT hr rfl,fun _ _ _ h=>h⟩)
   ·have hs:CF x a=none:=by unfold CF;rw[h];show(BD 2147483647 a.v.data.toList).map _=_;unfold BD;rw[hn];rfl
    exact BX (m:=0) EH EZ (BG (by omega)) ⟨rfl,_,_,I8 hr rfl,.inr ⟨inv.bad ha hs,rfl,rfl,rfl⟩⟩
  have hs:CF x a=none:=by
   unfold CF
   split<;>first|rfl|contradiction
  exact⟨rfl,_,_,I8 hr rfl,.inr ⟨inv.bad ha hs,rfl,rfl,rfl⟩⟩
 ·exact⟨rfl,_,_,Wk.refl _ _ _ _,.inl ⟨x,inv.last (by omega),rfl,rfl,rfl⟩⟩
def wM(r:AA):gN:=fun c n AB obs A E=>∃l:List At,l.length<=255/\c=AJ Tryz.prog 158 5/\n=37/\AB=[.func (.func 173) ⟨[]⟩ ⟨[pA 101]⟩,dsl (FX l),.int .i64 (Int.ofNat l.length),.int .i64 (0:Int)]/\obs=[some r,some (.cells [.int .i64 0,.int .u8 0,.slice none 0 0,.int .i64 0,.int .i64 0] 37 5 false true)]/\
 (∀x,run CF JN l=some x->A x.id (x.kind:Int) (rowsOf EM x.keys) x.cap x.miss)/\(run CF JN l=none->E)
theorem AHE(r:AA)(hr:EC 102 (some r)=true):BH Tryz.prog 100 [1,18,19,20] (AAz (wM r)):=by
 show BH Tryz.prog 100 [1,18,19,20] (lpS [4] _)
 refine FQ okp (W:=(AP Z0 Zp [(174,IX 160 (SQ LW EM))] [] [(142,sRN MRN)] [(28,23),(37,16),(14,10)])) (M3 (fun x hx=>by simp only[List.mem_singleton]at hx;subst hx;exact AKx) (F6 WV)) AZ ?_
 intro c n AB obs K h
 split at h<;>try exact h.elim
 obtain⟨l,hl,hc,hn,hv,ho,hA,hE⟩:=h
 subst hc;subst hn;subst hv
 simp only[List.cons.injEq]at ho
 obtain⟨rfl,rfl⟩:=ho
 refine⟨StX CF JN l,2,300,fun p=>l.length-p.1.2,gF r l,fun _ e v o=>gZ r l e v o,⟨(JN,0),⟨Nat.zero_le _,rfl⟩⟩,rfl,EX (DT.refl _) (.cons (.refl _) (.cons (.cells (.cons (.refl _) (.cons (.refl _) (.cons .nilD (.cons (.refl _) (.cons (.refl _) (.nil))))))) .nil)),?_,AFP r hr l hl⟩
 intro e v o hR
 rcases hR with⟨x,h1,rfl,rfl,rfl⟩ | ⟨h1,rfl,rfl,rfl⟩
 ·exact hA x h1
 ·exact hE h1
def ADJ:AA := .cells [.int .i64 0,.int .u8 0,.slice none 0 0,.int .i64 0,.int .i64 0] 37 5 false true
def ADW(q:Nat×EB):Value := .tuple ⟨[K9 q.2,.int .i64 (q.1:Int)]⟩
theorem AIm(s:ByteArray):Is (yP (real Tryz.prog) MD (wM ADJ) s (fun v=>FZ v (ADW (rdE CF JN s.data.toList)))):=by
 refine⟨?_⟩
 rw[yQ]
 refine⟨fun h0=>BI _ (JP _) ⟨_,NA _,rfl,rfl,rfl,rfl,fun x hx=>?_,fun hx=>?_⟩,fun h3=>?_,fun h4=>?_⟩
 ·rw[TM h0 hx];exact FZ.refl _
 ·rw[TL h0 hx];exact(.tup (.cons (.agg (.cons (.refl _) (.cons (.refl _) (.cons .nilD (.cons (.refl _) (.cons (.refl _) (.nil))))))) (DT.refl _)))
 ·rw[JA (by omega),h3];exact(.tup (.cons (.agg (.cons (.refl _) (.cons (.refl _) (.cons .nilD (.cons (.refl _) (.cons (.refl _) (.nil))))))) (DT.refl _)))
 ·rw[JA (by omega),h4];exact(.tup (.cons (.agg (.cons (.refl _) (.cons (.refl _) (.cons .nilD (.cons (.refl _) (.cons (.refl _) (.nil))))))) (DT.refl _)))
theorem AIn(s:ByteArray)(B:Base)(H:Heap):BM Tryz.prog 100 B 96 [.string s] H (.returned (ADW (rdE CF JN s.data.toList))) H:=
 UW (EY (F6 QZ)) (GH (fun x hx=>by simp only[List.mem_singleton]at hx;subst hx;exact AHE ADJ rfl)) rfl rfl (AIm s) B H
def GZ(x:C9):AA := .cells [.int .i64 x.tab,.string x.key,.string x.oth,.int .i64 x.len,.int .i64 x.prio,.int .i64 x.blk,dsl (rowsOf DJ x.args),.int .i64 x.idle,.int .i64 x.hard,.int .u64 (x.cook:Int),.bool x.tell] 39 11 false true
def fU(r:AA)(l:List At)(p:StX BA JJ l):Lv×Lo:=([.func (.func 180) ⟨[]⟩ ⟨[pA 101]⟩,dsl (FX l),.int .i64 (l.length:Int),.int .i64 (p.1.2:Int)],[some r,some (GZ p.1.1)])
def gU(r:AA)(l:List At)(e:Exit)(v:Lv)(o:Lo):Prop:=
 (∃x,run BA JJ l=some x/\e = .exit 0/\v=[top]/\o=[some r,some (GZ x)])∨(run BA JJ l=none/\e = .ret/\v=[.int .i64 3]/\o=[some r,none])
theorem AFK(r:AA)(hr:EC 102 (some r)=true)(l:List At)(hl:l.length<=255)(p:StX BA JJ l):
  Is (wpe Tryz.prog (real Tryz.prog) (AP Z0 Zp [(182,IX 183 (SQ JQ DJ))] [] [(142,sRN MRN)] [(28,23),(37,16),(14,10)]) 300 (.code false (AJ Tryz.prog 158 5) (CX 100 37 [1,18,19,20] [] (fU r l p))) (A7 100 [1,18,19,20] [4] 37 []
   (fun AB AC=>∃a':StX BA JJ l,l.length-a'.1.2<l.length-p.1.2/\Wk 100 (100+2) AB AC (fU r l a').1 (fU r l a').2/\∀e v o,gU r l e v o->gU r l e v o)
   (fun e AB AC=>∃v o,Wk 100 (100+2) AB AC v o/\gU r l e v o))):=by
 refine⟨?_⟩
 obtain⟨⟨x,i⟩,inv⟩:=p
 have hle:i<=l.length:=inv.le
 show pJ (real Tryz.prog) (SQ JQ DJ) MRN (some r) x.tab x.key x.oth x.len x.prio x.blk (rowsOf DJ x.args) x.idle x.hard (x.cook:Int) x.tell (FX l) (l.length:Int) (i:Int) _ _
 rw[uO]
 refine EL (fun hlt=>?_) (fun hge=>?_)
 ·have ha:l[i]?=some l[i]:=List.getElem?_eq_getElem hlt
  generalize l[i]=a at ha
  have hms:l.length-(i+1)<l.length-i:=by omega
  refine DK i rfl (JW ha) rfl (CG (z:=(a.t:Int)) rfl (KL (z:=a.v) rfl ?_))
  refine DZ (d:=1) (fun h=>?_) (fun hn1=>?_)
  ·refine⟨2147483647,rfl,fun n hn=>?_,fun hn=>?_⟩
   ·have hs:BA x a=some {x with tab:=(n:Int)}:=by unfold BA;rw[h];show(BD 2147483647 a.v.data.toList).map _=_;unfold BD;rw[hn];rfl
    exact BX EH EZ (BG (by have:=(C8 hn).2.1;omega)) (BZ (by omega) ⟨rfl,⟨({x with tab:=(n:Int)},i+1),inv.next ha hs⟩,hms,FT hr rfl,fun _ _ _ h=>h⟩)
   ·have hs:BA x a=none:=by unfold BA;rw[h];show(BD 2147483647 a.v.data.toList).map _=_;unfold BD;rw[hn];rfl
    exact BX (m:=0) EH EZ (BG (by omega)) ⟨rfl,_,_,I8 hr rfl,.inr ⟨inv.bad ha hs,rfl,rfl,rfl⟩⟩
  refine DZ (d:=2) (fun h=>?_) (fun hn2=>?_)
  ·refine FC (YD (d:=32) (fun hb=>?_) (fun hg=>?_))
   ·have hs:BA x a=none:=by unfold BA;rw[h];show(Y8 32 a.v.data.toList).map _=_;unfold Y8;rw[if_neg (by omega)];rfl
    exact⟨rfl,_,_,I8 hr rfl,.inr ⟨inv.bad ha hs,rfl,rfl,rfl⟩⟩
   ·have hs:BA x a=some {x with key:=a.v}:=by unfold BA;rw[h];show(Y8 32 a.v.data.toList).map _=_;unfold Y8;rw[if_pos hg,bytes_eta];rfl
    exact BZ (by omega) ⟨rfl,⟨({x with key:=a.v},i+1),inv.next ha hs⟩,hms,FT hr rfl,fun _ _ _ h=>h⟩
  refine DZ (d:=3) (fun h=>?_) (fun hn3=>?_)
  ·refine FC (YD (d:=32) (fun hb=>?_) (fun hg=>?_))
   ·have hs:BA x a=none:=by unfold BA;rw[h];show(Y8 32 a.v.data.toList).map _=_;unfold Y8;rw[if_neg (by omega)];rfl
    exact⟨rfl,_,_,I8 hr rfl,.inr ⟨inv.bad ha hs,rfl,rfl,rfl⟩⟩
   ·have hs:BA x a=some {x with oth:=a.v}:=by unfold BA;rw[h];show(Y8 32 a.v.data.toList).map _=_;unfold Y8;rw[if_pos hg,bytes_eta];rfl
    exact BZ (by omega) ⟨rfl,⟨({x with oth:=a.v},i+1),inv.next ha hs⟩,hms,FT hr rfl,fun _ _ _ h=>h⟩
  refine DZ (d:=4) (fun h=>?_) (fun hn4=>?_)
  ·refine⟨2147483647,rfl,fun n hn=>?_,fun hn=>?_⟩
   ·have hs:BA x a=some {x with len:=(n:Int)}:=by unfold BA;rw[h];show(BD 2147483647 a.v.data.toList).map _=_;unfold BD;rw[hn];rfl
    exact BX EH EZ (BG (by have:=(C8 hn).2.1;omega)) (BZ (by omega) ⟨rfl,⟨({x with len:=(n:Int)},i+1),inv.next ha hs⟩,hms,FT hr rfl,fun _ _ _ h=>h⟩)
   ·have hs:BA x a=none:=by unfold BA;rw[h];show(BD 2147483647 a.v.data.toList).map _=_;unfold BD;rw[hn];rfl
    exact BX (m:=0) EH EZ (BG (by omega)) ⟨rfl,_,_,I8 hr rfl,.inr ⟨inv.bad ha hs,rfl,rfl,rfl⟩⟩
  refine DZ (d:=5) (fun h=>?_) (fun hn5=>?_)
  ·refine⟨2147483647,rfl,fun n hn=>?_,fun hn=>?_⟩
   ·have hs:BA x a=some {x with prio:=(n:Int)}:=by unfold BA;rw[h];show(BD 2147483647 a.v.data.toList).map _=_;unfold BD;rw[hn];rfl
    exact BX EH EZ (BG (by have:=(C8 hn).2.1;omega)) (BZ (by omega) ⟨rfl,⟨({x with prio:=(n:Int)},i+1),inv.next ha hs⟩,hms,FT hr rfl,fun _ _ _ h=>h⟩)
   ·have hs:BA x a=none:=by unfold BA;rw[h];show(BD 2147483647 a.v.data.toList).map _=_;unfold BD;rw[hn];rfl
    exact BX (m:=0) EH EZ (BG (by omega)) ⟨rfl,_,_,I8 hr rfl,.inr ⟨inv.bad ha hs,rfl,rfl,rfl⟩⟩
  refine DZ (d:=6) (fun h=>?_) (fun hn6=>?_)
  ·refine⟨2147483647,rfl,fun n hn=>?_,fun hn=>?_⟩
   ·have hs:BA x a=some {x with blk:=(n:Int)}:=by unfold BA;rw[h];show(BD 2147483647 a.v.data.toList).map _=_;unfold BD;rw[hn];rfl
    exact BX EH EZ (BG (by have:=(C8 hn).2.1;omega)) (BZ (by omega) ⟨rfl,⟨({x with blk:=(n:Int)},i+1),inv.next ha hs⟩,hms,FT hr rfl,fun _ _ _ h=>h⟩)
   ·have hs:BA x a=none:=by unfold BA;rw[h];show(BD 2147483647 a.v.data.toList).map _=_;unfold BD;rw[hn];rfl
    exact BX (m:=0) EH EZ (BG (by omega)) ⟨rfl,_,_,I8 hr rfl,.inr ⟨inv.bad ha hs,rfl,rfl,rfl⟩⟩
  refine DZ (d:=7) (fun h=>?_) (fun hn7=>?_)
  ·refine⟨4,rfl,by omega,fun v hv=>?_,fun hv v=>?_⟩
   ·have hs:BA x a=some {x with args:=v}:=by unfold BA;rw[h];show(F9 JQ 4 a.v.data.toList).map _=_;rw[hv];rfl
    exact BZ (by omega) ⟨rfl,⟨({x with args:=v},i+1),inv.next ha hs⟩,hms,FT hr rfl,fun _ _ _ h=>h⟩
   ·have hs:BA x a=none:=by unfold BA;rw[h];show(F9 JQ 4 a.v.data.toList).map _=_;rw[hv];rfl
    exact⟨rfl,_,_,I8 hr rfl,.inr ⟨inv.bad ha hs,rfl,rfl,rfl⟩⟩
  refine DZ (d:=8) (fun h=>?_) (fun hn8=>?_)
  ·refine⟨9223372036854775807,rfl,fun n hn=>?_,fun hn=>?_⟩
   ·have hs:BA x a=some {x with idle:=(n:Int)}:=by unfold BA;rw[h];show(BD 9223372036854775807 a.v.data.toList).map _=_;unfold BD;rw[hn];rfl
    exact BX EH fH (BG (by have:=(C8 hn).2.1;omega)) (BZ (by omega) ⟨rfl,⟨({x with idle:=(n:Int)},i+1),inv.next ha hs⟩,hms,FT hr rfl,fun _ _ _ h=>h⟩)
   ·have hs:BA x a=none:=by unfold BA;rw[h];show(BD 9223372036854775807 a.v.data.toList).map _=_;unfold BD;rw[hn];rfl
    exact BX (m:=0) EH fH (BG (by omega)) ⟨rfl,_,_,I8 hr rfl,.inr ⟨inv.bad ha hs,rfl,rfl,rfl⟩⟩
  refine DZ (d:=9) (fun h=>?_) (fun hn9=>?_)
  ·refine⟨9223372036854775807,rfl,fun n hn=>?_,fun hn=>?_⟩
   ·have hs:BA x a=some {x with hard:=(n:Int)}:=by unfold BA;rw[h];show(BD 9223372036854775807 a.v.data.toList).map _=_;unfold BD;rw[hn];rfl
    exact BX EH fH (BG (by have:=(C8 hn).2.1;omega)) (BZ (by omega) ⟨rfl,⟨({x with hard:=(n:Int)},i+1),inv.next ha hs⟩,hms,FT hr rfl,fun _ _ _ h=>h⟩)
   ·have hs:BA x a=none:=by unfold BA;rw[h];show(BD 9223372036854775807 a.v.data.toList).map _=_;unfold BD;rw[hn];rfl
    exact BX (m:=0) EH fH (BG (by omega)) ⟨rfl,_,_,I8 hr rfl,.inr ⟨inv.bad ha hs,rfl,rfl,rfl⟩⟩
  refine DZ (d:=10) (fun h=>?_) (fun hn10=>?_)
  ·refine⟨18446744073709551615,rfl,fun n hn=>?_,fun hn=>?_⟩
   ·have hs:BA x a=some {x with cook:=n}:=by unfold BA;rw[h];show(ET 18446744073709551615 a.v.data.toList).map _=_;unfold ET;rw[hn];rfl
    exact BZ (by omega) ⟨rfl,⟨({x with cook:=n},i+1),inv.next ha hs⟩,hms,FT hr rfl,fun _ _ _ h=>h⟩
   ·have hs:BA x a=none:=by unfold BA;rw[h];show(ET 18446744073709551615 a.v.data.toList).map _=_;unfold ET;rw[hn];rfl
    exact⟨rfl,_,_,I8 hr rfl,.inr ⟨inv.bad ha hs,rfl,rfl,rfl⟩⟩
  refine DZ (d:=11) (fun h=>?_) (fun hn11=>?_)
  ·refine⟨1,rfl,fun n hn=>?_,fun hn=>?_⟩
   ·have hs:BA x a=some {x with tell:=n==1}:=by unfold BA;rw[h];show(zD a.v.data.toList).map _=_;unfold zD;rw[hn];rfl
    refine DZ (d:=1) (fun hb=>?_) (fun hb=>?_)
    ·rw[show(n==1)=true by simpa using hb]at hs
     exact BZ (by omega) ⟨rfl,⟨({x with tell:=true},i+1),inv.next ha hs⟩,hms,FT hr rfl,fun _ _ _ h=>h⟩
    ·rw[show(n==1)=false by simpa using hb]at hs
     exact BZ (by omega) ⟨rfl,⟨({x with tell:=false},i+1),inv.next ha hs⟩,hms,FT hr rfl,fun _ _ _ h=>h⟩
   ·have hs:BA x a=none:=by unfold BA;rw[h];show(zD a.v.data.toList).map _=_;unfold zD;rw[hn];rfl
    exact DZ (m:=0) (d:=1) (fun hb=>absurd hb (by decide)) (fun _=>⟨rfl,_,_,I8 hr rfl,.inr ⟨inv.bad ha hs,rfl,rfl,rfl⟩⟩)
  have hs:BA x a=none:=by
   unfold BA
   split<;>first|rfl|contradiction
  exact⟨rfl,_,_,I8 hr rfl,.inr ⟨inv.bad ha hs,rfl,rfl,rfl⟩⟩
 ·exact⟨rfl,_,_,Wk.refl _ _ _ _,.inl ⟨x,inv.last (by omega),rfl,rfl,rfl⟩⟩
def wH(r:AA):gI:=fun c n AB obs A E=>∃l:List At,l.length<=255/\c=AJ Tryz.prog 158 5/\n=37/\AB=[.func (.func 180) ⟨[]⟩ ⟨[pA 101]⟩,dsl (FX l),.int .i64 (Int.ofNat l.length),.int .i64 (0:Int)]/\obs=[some r,some (.cells [.int .i64 0,.string (bytesOf []),.string (bytesOf []),.int .i64 0,.int .i64 0,.int .i64 0,.slice none 0 0,.int .i64 0,.int .i64 0,.int .u64 0,.bool false] 39 11 false true)]/\
 (∀x,run BA JJ l=some x->A x.tab x.key x.oth x.len x.prio x.blk (rowsOf DJ x.args) x.idle x.hard (x.cook:Int) x.tell)/\(run BA JJ l=none->E)
theorem AHz(r:AA)(hr:EC 102 (some r)=true):BH Tryz.prog 100 [1,18,19,20] (AAu (wH r)):=by
 show BH Tryz.prog 100 [1,18,19,20] (lpS [4] _)
 refine FQ okp (W:=(AP Z0 Zp [(182,IX 183 (SQ JQ DJ))] [] [(142,sRN MRN)] [(28,23),(37,16),(14,10)])) (M3 (fun x hx=>by simp only[List.mem_singleton]at hx;subst hx;exact AKy) (F6 WV)) AZ ?_
 intro c n AB obs K h
 split at h<;>try exact h.elim
 obtain⟨l,hl,hc,hn,hv,ho,hA,hE⟩:=h
 subst hc;subst hn;subst hv
 simp only[List.cons.injEq]at ho
 obtain⟨rfl,rfl⟩:=ho
 refine⟨StX BA JJ l,2,300,fun p=>l.length-p.1.2,fU r l,fun _ e v o=>gU r l e v o,⟨(JJ,0),⟨Nat.zero_le _,rfl⟩⟩,rfl,EX (DT.refl _) (.cons (.refl _) (.cons (.cells (.cons (.refl _) (.cons (.refl _) (.cons (.refl _) (.cons (.refl _) (.cons (.refl _) (.cons (.refl _) (.cons .nilD (.cons (.refl _) (.cons (.refl _) (.cons (.refl _) (.cons (.refl _) (.nil))))))))))))) .nil)),?_,AFK r hr l hl⟩
 intro e v o hR
 rcases hR with⟨x,h1,rfl,rfl,rfl⟩ | ⟨h1,rfl,rfl,rfl⟩
 ·exact hA x h1
 ·exact hE h1
def ADF:AA := .cells [.int .i64 0,.string (bytesOf []),.string (bytesOf []),.int .i64 0,.int .i64 0,.int .i64 0,.slice none 0 0,.int .i64 0,.int .i64 0,.int .u64 0,.bool false] 39 11 false true
def ADS(q:Nat×C9):Value := .tuple ⟨[K5 q.2,.int .i64 (q.1:Int)]⟩
theorem AIe(s:ByteArray):Is (yB (real Tryz.prog) MD (wH ADF) s (fun v=>FZ v (ADS (rdE BA JJ s.data.toList)))):=by
 refine⟨?_⟩
 rw[yC]
 refine⟨fun h0=>BI _ (JP _) ⟨_,NA _,rfl,rfl,rfl,rfl,fun x hx=>?_,fun hx=>?_⟩,fun h3=>?_,fun h4=>?_⟩
 ·rw[TM h0 hx];exact FZ.refl _
 ·rw[TL h0 hx];exact(.tup (.cons (.agg (.cons (.refl _) (.cons (.refl _) (.cons (.refl _) (.cons (.refl _) (.cons (.refl _) (.cons (.refl _) (.cons .nilD (.cons (.refl _) (.cons (.refl _) (.cons (.refl _) (.cons (.refl _) (.nil))))))))))))) (DT.refl _)))
 ·rw[JA (by omega),h3];exact(.tup (.cons (.agg (.cons (.refl _) (.cons (.refl _) (.cons (.refl _) (.cons (.refl _) (.cons (.refl _) (.cons (.refl _) (.cons .nilD (.cons (.refl _) (.cons (.refl _) (.cons (.refl _) (.cons (.refl _) (.nil))))))))))))) (DT.refl _)))
 ·rw[JA (by omega),h4];exact(.tup (.cons (.agg (.cons (.refl _) (.cons (.refl _) (.cons (.refl _) (.cons (.refl _) (.cons (.refl _) (.cons (.refl _) (.cons .nilD (.cons (.refl _) (.cons (.refl _) (.cons (.refl _) (.cons (.refl _) (.nil))))))))))))) (DT.refl _)))
theorem AIf(s:ByteArray)(B:Base)(H:Heap):BM Tryz.prog 100 B 100 [.string s] H (.returned (ADS (rdE BA JJ s.data.toList))) H:=
 UW (EY (F6 QZ)) (GH (fun x hx=>by simp only[List.mem_singleton]at hx;subst hx;exact AHz ADF rfl)) rfl rfl (AIe s) B H
def GY(x:ES):AA := .cells [.int .i64 x.id,dsl (rowsOf BN x.code)] 42 2 false true
def fT(r:AA)(l:List At)(p:StX stepBlock JI l):Lv×Lo:=([.func (.func 191) ⟨[]⟩ ⟨[pA 101]⟩,dsl (FX l),.int .i64 (l.length:Int),.int .i64 (p.1.2:Int)],[some r,some (GY p.1.1)])
def gT(r:AA)(l:List At)(e:Exit)(v:Lv)(o:Lo):Prop:=
 (∃x,run stepBlock JI l=some x/\e = .exit 0/\v=[top]/\o=[some r,some (GY x)])∨(run stepBlock JI l=none/\e = .ret/\v=[.int .i64 3]/\o=[some r,none])
theorem AFJ(r:AA)(hr:EC 102 (some r)=true)(l:List At)(hl:l.length<=255)(p:StX stepBlock JI l):
  Is (wpe Tryz.prog (real Tryz.prog) (AP Z0 Zp [(192,IX 193 (SQ FP BN))] [] [(142,sRN MRN)] [(28,23),(37,16),(14,10)]) 300 (.code false (AJ Tryz.prog 158 5) (CX 100 37 [1,18,19,20] [] (fT r l p))) (A7 100 [1,18,19,20] [4] 37 []
   (fun AB AC=>∃a':StX stepBlock JI l,l.length-a'.1.2<l.length-p.1.2/\Wk 100 (100+2) AB AC (fT r l a').1 (fT r l a').2/\∀e v o,gT r l e v o->gT r l e v o)
   (fun e AB AC=>∃v o,Wk 100 (100+2) AB AC v o/\gT r l e v o))):=by
 refine⟨?_⟩
 obtain⟨⟨x,i⟩,inv⟩:=p
 have hle:i<=l.length:=inv.le
 show pG (real Tryz.prog) (SQ FP BN) MRN (some r) x.id (rowsOf BN x.code) (FX l) (l.length:Int) (i:Int) _ _
 rw[uM]
 refine EL (fun hlt=>?_) (fun hge=>?_)
 ·have ha:l[i]?=some l[i]:=List.getElem?_eq_getElem hlt
  generalize l[i]=a at ha
  have hms:l.length-(i+1)<l.length-i:=by omega
  refine DK i rfl (JW ha) rfl (CG (z:=(a.t:Int)) rfl (KL (z:=a.v) rfl ?_))
  refine DZ (d:=1) (fun h=>?_) (fun hn1=>?_)
  ·refine⟨2147483647,rfl,fun n hn=>?_,fun hn=>?_⟩
   ·have hs:stepBlock x a=some {x with id:=(n:Int)}:=by unfold stepBlock;rw[h];show(BD 2147483647 a.v.data.toList).map _=_;unfold BD;rw[hn];rfl
    exact BX EH EZ (BG (by have:=(C8 hn).2.1;omega)) (BZ (by omega) ⟨rfl,⟨({x with id:=(n:Int)},i+1),inv.next ha hs⟩,hms,FT hr rfl,fun _ _ _ h=>h⟩)
   ·have hs:stepBlock x a=none:=by unfold stepBlock;rw[h];show(BD 2147483647 a.v.data.toList).map _=_;unfold BD;rw[hn];rfl
    exact BX (m:=0) EH EZ (BG (by omega)) ⟨rfl,_,_,I8 hr rfl,.inr ⟨inv.bad ha hs,rfl,rfl,rfl⟩⟩
  refine DZ (d:=2) (fun h=>?_) (fun hn2=>?_)
  ·refine⟨32,rfl,by omega,fun v hv=>?_,fun hv v=>?_⟩
   ·have hs:stepBlock x a=some {x with code:=v}:=by unfold stepBlock;rw[h];show(F9 FP 32 a.v.data.toList).map _=_;rw[hv];rfl
    exact BZ (by omega) ⟨rfl,⟨({x with code:=v},i+1),inv.next ha hs⟩,hms,FT hr rfl,fun _ _ _ h=>h⟩
   ·have hs:stepBlock x a=none:=by unfold stepBlock;rw[h];show(F9 FP 32 a.v.data.toList).map _=_;rw[hv];rfl
    exact⟨rfl,_,_,I8 hr rfl,.inr ⟨inv.bad ha hs,rfl,rfl,rfl⟩⟩
  have hs:stepBlock x a=none:=by
   unfold stepBlock
   split<;>first|rfl|contradiction
  exact⟨rfl,_,_,I8 hr rfl,.inr ⟨inv.bad ha hs,rfl,rfl,rfl⟩⟩
 ·exact⟨rfl,_,_,Wk.refl _ _ _ _,.inl ⟨x,inv.last (by omega),rfl,rfl,rfl⟩⟩
def wG(r:AA):gH:=fun c n AB obs A E=>∃l:List At,l.length<=255/\c=AJ Tryz.prog 158 5/\n=37/\AB=[.func (.func 191) ⟨[]⟩ ⟨[pA 101]⟩,dsl (FX l),.int .i64 (Int.ofNat l.length),.int .i64 (0:Int)]/\obs=[some r,some (.cells [.int .i64 0,.slice none 0 0] 42 2 false true)]/\
 (∀x,run stepBlock JI l=some x->A x.id (rowsOf BN x.code))/\(run stepBlock JI l=none->E)
theorem AHy(r:AA)(hr:EC 102 (some r)=true):BH Tryz.prog 100 [1,18,19,20] (AAt (wG r)):=by
 show BH Tryz.prog 100 [1,18,19,20] (lpS [4] _)
 refine FQ okp (W:=(AP Z0 Zp [(192,IX 193 (SQ FP BN))] [] [(142,sRN MRN)] [(28,23),(37,16),(14,10)])) (M3 (fun x hx=>by simp only[List.mem_singleton]at hx;subst hx;exact AFl) (F6 WV)) AZ ?_
 intro c n AB obs K h
 split at h<;>try exact h.elim
 obtain⟨l,hl,hc,hn,hv,ho,hA,hE⟩:=h
 subst hc;subst hn;subst hv
 simp only[List.cons.injEq]at ho
 obtain⟨rfl,rfl⟩:=ho
 refine⟨StX stepBlock JI l,2,300,fun p=>l.length-p.1.2,fT r l,fun _ e v o=>gT r l e v o,⟨(JI,0),⟨Nat.zero_le _,rfl⟩⟩,rfl,EX (DT.refl _) (.cons (.refl _) (.cons (.cells (.cons (.refl _) (.cons .nilD (.nil)))) .nil)),?_,AFJ r hr l hl⟩
 intro e v o hR
 rcases hR with⟨x,h1,rfl,rfl,rfl⟩ | ⟨h1,rfl,rfl,rfl⟩
 ·exact hA x h1
 ·exact hE h1
def ADE:AA := .cells [.int .i64 0,.slice none 0 0] 42 2 false true
def ADR(q:Nat×ES):Value := .tuple ⟨[K4 q.2,.int .i64 (q.1:Int)]⟩
theorem AIb(s:ByteArray):Is (xZ (real Tryz.prog) MD (wG ADE) s (fun v=>FZ v (ADR (rdE stepBlock JI s.data.toList)))):=by
 refine⟨?_⟩
 rw[yA]
 refine⟨fun h0=>BI _ (JP _) ⟨_,NA _,rfl,rfl,rfl,rfl,fun x hx=>?_,fun hx=>?_⟩,fun h3=>?_,fun h4=>?_⟩
 ·rw[TM h0 hx];exact FZ.refl _
 ·rw[TL h0 hx];exact(.tup (.cons (.agg (.cons (.refl _) (.cons .nilD (.nil)))) (DT.refl _)))
 ·rw[JA (by omega),h3];exact(.tup (.cons (.agg (.cons (.refl _) (.cons .nilD (.nil)))) (DT.refl _)))
 ·rw[JA (by omega),h4];exact(.tup (.cons (.agg (.cons (.refl _) (.cons .nilD (.nil)))) (DT.refl _)))
theorem AIc(s:ByteArray)(B:Base)(H:Heap):BM Tryz.prog 100 B 104 [.string s] H (.returned (ADR (rdE stepBlock JI s.data.toList))) H:=
 UW (EY (F6 QZ)) (GH (fun x hx=>by simp only[List.mem_singleton]at hx;subst hx;exact AHy ADE rfl)) rfl rfl (AIb s) B H
def G5(x:EI):AA := .cells [.int .i64 x.id,.int .u8 (x.kind:Int),.int .i64 x.fld,dsl (rowsOf BB x.bks)] 45 4 false true
def fZ(r:AA)(l:List At)(p:StX CO JL l):Lv×Lo:=([.func (.func 199) ⟨[]⟩ ⟨[pA 101]⟩,dsl (FX l),.int .i64 (l.length:Int),.int .i64 (p.1.2:Int)],[some r,some (G5 p.1.1)])
def gW(r:AA)(l:List At)(e:Exit)(v:Lv)(o:Lo):Prop:=
 (∃x,run CO JL l=some x/\e = .exit 0/\v=[top]/\o=[some r,some (G5 x)])∨(run CO JL l=none/\e = .ret/\v=[.int .i64 3]/\o=[some r,none])
theorem AFM(r:AA)(hr:EC 102 (some r)=true)(l:List At)(hl:l.length<=255)(p:StX CO JL l):
  Is (wpe Tryz.prog (real Tryz.prog) (AP Z0 Zp [(200,IX 201 (SQ EQ BB))] [] [(142,sRN MRN)] [(28,23),(37,16),(14,10)]) 300 (.code false (AJ Tryz.prog 158 5) (CX 100 37 [1,18,19,20] [] (fZ r l p))) (A7 100 [1,18,19,20] [4] 37 []
   (fun AB AC=>∃a':StX CO JL l,l.length-a'.1.2<l.length-p.1.2/\Wk 100 (100+2) AB AC (fZ r l a').1 (fZ r l a').2/\∀e v o,gW r l e v o->gW r l e v o)
   (fun e AB AC=>∃v o,Wk 100 (100+2) AB AC v o/\gW r l e v o))):=by
 refine⟨?_⟩
 obtain⟨⟨x,i⟩,inv⟩:=p
 have hle:i<=l.length:=inv.le
 show pM (real Tryz.prog) (SQ EQ BB) MRN (some r) x.id (x.kind:Int) x.fld (rowsOf BB x.bks) (FX l) (l.length:Int) (i:Int) _ _
 rw[uQ]
 refine EL (fun hlt=>?_) (fun hge=>?_)
 ·have ha:l[i]?=some l[i]:=List.getElem?_eq_getElem hlt
  generalize l[i]=a at ha
  have hms:l.length-(i+1)<l.length-i:=by omega
  refine DK i rfl (JW ha) rfl (CG (z:=(a.t:Int)) rfl (KL (z:=a.v) rfl ?_))
  refine DZ (d:=1) (fun h=>?_) (fun hn1=>?_)
  ·refine⟨2147483647,rfl,fun n hn=>?_,fun hn=>?_⟩
   ·have hs:CO x a=some {x with id:=(n:Int)}:=by unfold CO;rw[h];show(BD 2147483647 a.v.data.toList).map _=_;unfold BD;rw[hn];rfl
    exact BX EH EZ (BG (by have:=(C8 hn).2.1;omega)) (BZ (by omega) ⟨rfl,⟨({x with id:=(n:Int)},i+1),inv.next ha hs⟩,hms,FT hr rfl,fun _ _ _ h=>h⟩)
   ·have hs:CO x a=none:=by unfold CO;rw[h];show(BD 2147483647 a.v.data.toList).map _=_;unfold BD;rw[hn];rfl
    exact BX (m:=0) EH EZ (BG (by omega)) ⟨rfl,_,_,I8 hr rfl,.inr ⟨inv.bad ha hs,rfl,rfl,rfl⟩⟩
  refine DZ (d:=2) (fun h=>?_) (fun hn2=>?_)
  ·refine⟨255,rfl,fun n hn=>?_,fun hn=>?_⟩
   ·have hs:CO x a=some {x with kind:=n}:=by unfold CO;rw[h];show(ET 255 a.v.data.toList).map _=_;unfold ET;rw[hn];rfl
    exact BX EH uU8 (PT (by have:=(C8 hn).2.1;omega)) (BZ (by omega) ⟨rfl,⟨({x with kind:=n},i+1),inv.next ha hs⟩,hms,FT hr rfl,fun _ _ _ h=>h⟩)
   ·have hs:CO x a=none:=by unfold CO;rw[h];show(ET 255 a.v.data.toList).map _=_;unfold ET;rw[hn];rfl
    exact BX (m:=0) EH uU8 (PT (by omega)) ⟨rfl,_,_,I8 hr rfl,.inr ⟨inv.bad ha hs,rfl,rfl,rfl⟩⟩
  refine DZ (d:=3) (fun h=>?_) (fun hn3=>?_)
  ·refine⟨2147483647,rfl,fun n hn=>?_,fun hn=>?_⟩
   ·have hs:CO x a=some {x with fld:=(n:Int)}:=by unfold CO;rw[h];show(BD 2147483647 a.v.data.toList).map _=_;unfold BD;rw[hn];rfl
    exact BX EH EZ (BG (by have:=(C8 hn).2.1;omega)) (BZ (by omega) ⟨rfl,⟨({x with fld:=(n:Int)},i+1),inv.next ha hs⟩,hms,FT hr rfl,fun _ _ _ h=>h⟩)
   ·have hs:CO x a=none:=by unfold CO;rw[h];show(BD 2147483647 a.v.data.toList).map _=_;unfold BD;rw[hn];rfl
    exact BX (m:=0) EH EZ (BG (by omega)) ⟨rfl,_,_,I8 hr rfl,.inr ⟨inv.bad ha hs,rfl,rfl,rfl⟩⟩
  refine DZ (d:=4) (fun h=>?_) (fun hn4=>?_)
  ·refine⟨16,rfl,by omega,fun v hv=>?_,fun hv v=>?_⟩
   ·have hs:CO x a=some {x with bks:=v}:=by unfold CO;rw[h];show(F9 EQ 16 a.v.data.toList).map _=_;rw[hv];rfl
    exact BZ (by omega) ⟨rfl,⟨({x with bks:=v},i+1),inv.next ha hs⟩,hms,FT hr rfl,fun _ _ _ h=>h⟩
   ·have hs:CO x a=none:=by unfold CO;rw[h];show(F9 EQ 16 a.v.data.toList).map _=_;rw[hv];rfl
    exact⟨rfl,_,_,I8 hr rfl,.inr ⟨inv.bad ha hs,rfl,rfl,rfl⟩⟩
  have hs:CO x a=none:=by
   unfold CO
   split<;>first|rfl|contradiction
  exact⟨rfl,_,_,I8 hr rfl,.inr ⟨inv.bad ha hs,rfl,rfl,rfl⟩⟩
 ·exact⟨rfl,_,_,Wk.refl _ _ _ _,.inl ⟨x,inv.last (by omega),rfl,rfl,rfl⟩⟩
def wJ(r:AA):gK:=fun c n AB obs A E=>∃l:List At,l.length<=255/\c=AJ Tryz.prog 158 5/\n=37/\AB=[.func (.func 199) ⟨[]⟩ ⟨[pA 101]⟩,dsl (FX l),.int .i64 (Int.ofNat l.length),.int .i64 (0:Int)]/\obs=[some r,some (.cells [.int .i64 0,.int .u8 0,.int .i64 0,.slice none 0 0] 45 4 false true)]/\
 (∀x,run CO JL l=some x->A x.id (x.kind:Int) x.fld (rowsOf BB x.bks))/\(run CO JL l=none->E)
theorem AHB(r:AA)(hr:EC 102 (some r)=true):BH Tryz.prog 100 [1,18,19,20] (AAw (wJ r)):=by
 show BH Tryz.prog 100 [1,18,19,20] (lpS [4] _)
 refine FQ okp (W:=(AP Z0 Zp [(200,IX 201 (SQ EQ BB))] [] [(142,sRN MRN)] [(28,23),(37,16),(14,10)])) (M3 (fun x hx=>by simp only[List.mem_singleton]at hx;subst hx;exact AB1) (F6 WV)) AZ ?_
 intro c n AB obs K h
 split at h<;>try exact h.elim
 obtain⟨l,hl,hc,hn,hv,ho,hA,hE⟩:=h
 subst hc;subst hn;subst hv
 simp only[List.cons.injEq]at ho
 obtain⟨rfl,rfl⟩:=ho
 refine⟨StX CO JL l,2,300,fun p=>l.length-p.1.2,fZ r l,fun _ e v o=>gW r l e v o,⟨(JL,0),⟨Nat.zero_le _,rfl⟩⟩,rfl,EX (DT.refl _) (.cons (.refl _) (.cons (.cells (.cons (.refl _) (.cons (.refl _) (.cons (.refl _) (.cons .nilD (.nil)))))) .nil)),?_,AFM r hr l hl⟩
 intro e v o hR
 rcases hR with⟨x,h1,rfl,rfl,rfl⟩ | ⟨h1,rfl,rfl,rfl⟩
 ·exact hA x h1
 ·exact hE h1
def ADH:AA := .cells [.int .i64 0,.int .u8 0,.int .i64 0,.slice none 0 0] 45 4 false true
def ADU(q:Nat×EI):Value := .tuple ⟨[K7 q.2,.int .i64 (q.1:Int)]⟩
theorem AIi(s:ByteArray):Is (yF (real Tryz.prog) MD (wJ ADH) s (fun v=>FZ v (ADU (rdE CO JL s.data.toList)))):=by
 refine⟨?_⟩
 rw[yG]
 refine⟨fun h0=>BI _ (JP _) ⟨_,NA _,rfl,rfl,rfl,rfl,fun x hx=>?_,fun hx=>?_⟩,fun h3=>?_,fun h4=>?_⟩
 ·rw[TM h0 hx];exact FZ.refl _
 ·rw[TL h0 hx];exact(.tup (.cons (.agg (.cons (.refl _) (.cons (.refl _) (.cons (.refl _) (.cons .nilD (.nil)))))) (DT.refl _)))
 ·rw[JA (by omega),h3];exact(.tup (.cons (.agg (.cons (.refl _) (.cons (.refl _) (.cons (.refl _) (.cons .nilD (.nil)))))) (DT.refl _)))
 ·rw[JA (by omega),h4];exact(.tup (.cons (.agg (.cons (.refl _) (.cons (.refl _) (.cons (.refl _) (.cons .nilD (.nil)))))) (DT.refl _)))
theorem AIj(s:ByteArray)(B:Base)(H:Heap):BM Tryz.prog 100 B 108 [.string s] H (.returned (ADU (rdE CO JL s.data.toList))) H:=
 UW (EY (F6 QZ)) (GH (fun x hx=>by simp only[List.mem_singleton]at hx;subst hx;exact AHB ADH rfl)) rfl rfl (AIi s) B H
def AD3(x:FJ):AA := .cells [.int .i64 x.id,.int .i64 x.rate,.int .i64 x.burst] 47 3 false true
def gD(r:AA)(l:List At)(p:StX DF JM l):Lv×Lo:=([.func (.func 205) ⟨[]⟩ ⟨[pA 101]⟩,dsl (FX l),.int .i64 (l.length:Int),.int .i64 (p.1.2:Int)],[some r,some (AD3 p.1.1)])
def gY(r:AA)(l:List At)(e:Exit)(v:Lv)(o:Lo):Prop:=
 (∃x,run DF JM l=some x/\e = .exit 0/\v=[top]/\o=[some r,some (AD3 x)])∨(run DF JM l=none/\e = .ret/\v=[.int .i64 3]/\o=[some r,none])
theorem AFO(r:AA)(hr:EC 102 (some r)=true)(l:List At)(hl:l.length<=255)(p:StX DF JM l):
  Is (wpe Tryz.prog (real Tryz.prog) (AP Z0 Zp [] [] [(142,sRN MRN)] [(28,23),(37,16),(14,10)]) 300 (.code false (AJ Tryz.prog 158 5) (CX 100 37 [1,18,19,20] [] (gD r l p))) (A7 100 [1,18,19,20] [4] 37 []
   (fun AB AC=>∃a':StX DF JM l,l.length-a'.1.2<l.length-p.1.2/\Wk 100 (100+2) AB AC (gD r l a').1 (gD r l a').2/\∀e v o,gY r l e v o->gY r l e v o)
   (fun e AB AC=>∃v o,Wk 100 (100+2) AB AC v o/\gY r l e v o))):=by
 refine⟨?_⟩
 obtain⟨⟨x,i⟩,inv⟩:=p
 have hle:i<=l.length:=inv.le
 show pQ (real Tryz.prog) MRN (some r) x.id x.rate x.burst (FX l) (l.length:Int) (i:Int) _ _
 rw[uS]
 refine EL (fun hlt=>?_) (fun hge=>?_)
 ·have ha:l[i]?=some l[i]:=List.getElem?_eq_getElem hlt
  generalize l[i]=a at ha
  have hms:l.length-(i+1)<l.length-i:=by omega
  refine DK i rfl (JW ha) rfl (CG (z:=(a.t:Int)) rfl (KL (z:=a.v) rfl ?_))
  refine DZ (d:=1) (fun h=>?_) (fun hn1=>?_)
  ·refine⟨2147483647,rfl,fun n hn=>?_,fun hn=>?_⟩
   ·have hs:DF x a=some {x with id:=(n:Int)}:=by unfold DF;rw[h];show(BD 2147483647 a.v.data.toList).map _=_;unfold BD;rw[hn];rfl
    exact BX EH EZ (BG (by have:=(C8 hn).2.1;omega)) (BZ (by omega) ⟨rfl,⟨({x with id:=(n:Int)},i+1),inv.next ha hs⟩,hms,FT hr rfl,fun _ _ _ h=>h⟩)
   ·have hs:DF x a=none:=by unfold DF;rw[h];show(BD 2147483647 a.v.data.toList).map _=_;unfold BD;rw[hn];rfl
    exact BX (m:=0) EH EZ (BG (by omega)) ⟨rfl,_,_,I8 hr rfl,.inr ⟨inv.bad ha hs,rfl,rfl,rfl⟩⟩
  refine DZ (d:=2) (fun h=>?_) (fun hn2=>?_)
  ·refine⟨9223372036854775807,rfl,fun n hn=>?_,fun hn=>?_⟩
   ·have hs:DF x a=some {x with rate:=(n:Int)}:=by unfold DF;rw[h];show(BD 9223372036854775807 a.v.data.toList).map _=_;unfold BD;rw[hn];rfl
    exact BX EH fH (BG (by have:=(C8 hn).2.1;omega)) (BZ (by omega) ⟨rfl,⟨({x with rate:=(n:Int)},i+1),inv.next ha hs⟩,hms,FT hr rfl,fun _ _ _ h=>h⟩)
   ·have hs:DF x a=none:=by unfold DF;rw[h];show(BD 9223372036854775807 a.v.data.toList).map _=_;unfold BD;rw[hn];rfl
    exact BX (m:=0) EH fH (BG (by omega)) ⟨rfl,_,_,I8 hr rfl,.inr ⟨inv.bad ha hs,rfl,rfl,rfl⟩⟩
  refine DZ (d:=3) (fun h=>?_) (fun hn3=>?_)
  ·refine⟨9223372036854775807,rfl,fun n hn=>?_,fun hn=>?_⟩
   ·have hs:DF x a=some {x with burst:=(n:Int)}:=by unfold DF;rw[h];show(BD 9223372036854775807 a.v.data.toList).map _=_;unfold BD;rw[hn];rfl
    exact BX EH fH (BG (by have:=(C8 hn).2.1;omega)) (BZ (by omega) ⟨rfl,⟨({x with burst:=(n:Int)},i+1),inv.next ha hs⟩,hms,FT hr rfl,fun _ _ _ h=>h⟩)
   ·have hs:DF x a=none:=by unfold DF;rw[h];show(BD 9223372036854775807 a.v.data.toList).map _=_;unfold BD;rw[hn];rfl
    exact BX (m:=0) EH fH (BG (by omega)) ⟨rfl,_,_,I8 hr rfl,.inr ⟨inv.bad ha hs,rfl,rfl,rfl⟩⟩
  have hs:DF x a=none:=by
   unfold DF
   split<;>first|rfl|contradiction
  exact⟨rfl,_,_,I8 hr rfl,.inr ⟨inv.bad ha hs,rfl,rfl,rfl⟩⟩
 ·exact⟨rfl,_,_,Wk.refl _ _ _ _,.inl ⟨x,inv.last (by omega),rfl,rfl,rfl⟩⟩
def wL(r:AA):gM:=fun c n AB obs A E=>∃l:List At,l.length<=255/\c=AJ Tryz.prog 158 5/\n=37/\AB=[.func (.func 205) ⟨[]⟩ ⟨[pA 101]⟩,dsl (FX l),.int .i64 (Int.ofNat l.length),.int .i64 (0:Int)]/\obs=[some r,some (.cells [.int .i64 0,.int .i64 0,.int .i64 0] 47 3 false true)]/\
 (∀x,run DF JM l=some x->A x.id x.rate x.burst)/\(run DF JM l=none->E)
theorem AHD(r:AA)(hr:EC 102 (some r)=true):BH Tryz.prog 100 [1,18,19,20] (AAy (wL r)):=by
 show BH Tryz.prog 100 [1,18,19,20] (lpS [4] _)
 refine FQ okp (W:=(AP Z0 Zp [] [] [(142,sRN MRN)] [(28,23),(37,16),(14,10)])) (EY (F6 WV)) AZ ?_
 intro c n AB obs K h
 split at h<;>try exact h.elim
 obtain⟨l,hl,hc,hn,hv,ho,hA,hE⟩:=h
 subst hc;subst hn;subst hv
 simp only[List.cons.injEq]at ho
 obtain⟨rfl,rfl⟩:=ho
 refine⟨StX DF JM l,2,300,fun p=>l.length-p.1.2,gD r l,fun _ e v o=>gY r l e v o,⟨(JM,0),⟨Nat.zero_le _,rfl⟩⟩,rfl,Wk.refl _ _ _ _,?_,AFO r hr l hl⟩
 intro e v o hR
 rcases hR with⟨x,h1,rfl,rfl,rfl⟩ | ⟨h1,rfl,rfl,rfl⟩
 ·exact hA x h1
 ·exact hE h1
def ADI:AA := .cells [.int .i64 0,.int .i64 0,.int .i64 0] 47 3 false true
def ADV(q:Nat×FJ):Value := .tuple ⟨[K8 q.2,.int .i64 (q.1:Int)]⟩
theorem AIk(s:ByteArray):Is (yJ (real Tryz.prog) MD (wL ADI) s (fun v=>FZ v (ADV (rdE DF JM s.data.toList)))):=by
 refine⟨?_⟩
 rw[yK]
 refine⟨fun h0=>BI _ (JP _) ⟨_,NA _,rfl,rfl,rfl,rfl,fun x hx=>?_,fun hx=>?_⟩,fun h3=>?_,fun h4=>?_⟩
 ·rw[TM h0 hx];exact FZ.refl _
 ·rw[TL h0 hx];exact(FZ.refl _)
 ·rw[JA (by omega),h3];exact(FZ.refl _)
 ·rw[JA (by omega),h4];exact(FZ.refl _)
theorem AIl(s:ByteArray)(B:Base)(H:Heap):BM Tryz.prog 100 B 112 [.string s] H (.returned (ADV (rdE DF JM s.data.toList))) H:=
 UW (EY (F6 QZ)) (GH (fun x hx=>by simp only[List.mem_singleton]at hx;subst hx;exact AHD ADI rfl)) rfl rfl (AIk s) B H
def AJi(x:IJ):AA := .cells [.int .i64 x.id,.int .i64 x.size] 49 2 false true
def rG(r:AA)(l:List At)(p:StX ED L9 l):Lv×Lo:=([.func (.func 209) ⟨[]⟩ ⟨[pA 101]⟩,dsl (FX l),.int .i64 (l.length:Int),.int .i64 (p.1.2:Int)],[some r,some (AJi p.1.1)])
def rT(r:AA)(l:List At)(e:Exit)(v:Lv)(o:Lo):Prop:=
 (∃x,run ED L9 l=some x/\e = .exit 0/\v=[top]/\o=[some r,some (AJi x)])∨(run ED L9 l=none/\e = .ret/\v=[.int .i64 3]/\o=[some r,none])
theorem AIA(r:AA)(hr:EC 102 (some r)=true)(l:List At)(hl:l.length<=255)(p:StX ED L9 l):
  Is (wpe Tryz.prog (real Tryz.prog) (AP Z0 Zp [] [] [(142,sRN MRN)] [(28,23),(37,16),(14,10)]) 300 (.code false (AJ Tryz.prog 158 5) (CX 100 37 [1,18,19,20] [] (rG r l p))) (A7 100 [1,18,19,20] [4] 37 []
   (fun AB AC=>∃a':StX ED L9 l,l.length-a'.1.2<l.length-p.1.2/\Wk 100 (100+2) AB AC (rG r l a').1 (rG r l a').2/\∀e v o,rT r l e v o->rT r l e v o)
   (fun e AB AC=>∃v o,Wk 100 (100+2) AB AC v o/\rT r l e v o))):=by
 refine⟨?_⟩
 obtain⟨⟨x,i⟩,inv⟩:=p
 have hle:i<=l.length:=inv.le
 show yN (real Tryz.prog) MRN (some r) x.id x.size (FX l) (l.length:Int) (i:Int) _ _
 rw[yO]
 refine EL (fun hlt=>?_) (fun hge=>?_)
 ·have ha:l[i]?=some l[i]:=List.getElem?_eq_getElem hlt
  generalize l[i]=a at ha
  have hms:l.length-(i+1)<l.length-i:=by omega
  refine DK i rfl (JW ha) rfl (CG (z:=(a.t:Int)) rfl (KL (z:=a.v) rfl ?_))
  refine DZ (d:=1) (fun h=>?_) (fun hn1=>?_)
  ·refine⟨2147483647,rfl,fun n hn=>?_,fun hn=>?_⟩
   ·have hs:ED x a=some {x with id:=(n:Int)}:=by unfold ED;rw[h];show(BD 2147483647 a.v.data.toList).map _=_;unfold BD;rw[hn];rfl
    exact BX EH EZ (BG (by have:=(C8 hn).2.1;omega)) (BZ (by omega) ⟨rfl,⟨({x with id:=(n:Int)},i+1),inv.next ha hs⟩,hms,FT hr rfl,fun _ _ _ h=>h⟩)
   ·have hs:ED x a=none:=by unfold ED;rw[h];show(BD 2147483647 a.v.data.toList).map _=_;unfold BD;rw[hn];rfl
    exact BX (m:=0) EH EZ (BG (by omega)) ⟨rfl,_,_,I8 hr rfl,.inr ⟨inv.bad ha hs,rfl,rfl,rfl⟩⟩
  refine DZ (d:=2) (fun h=>?_) (fun hn2=>?_)
  ·refine⟨2147483647,rfl,fun n hn=>?_,fun hn=>?_⟩
   ·have hs:ED x a=some {x with size:=(n:Int)}:=by unfold ED;rw[h];show(BD 2147483647 a.v.data.toList).map _=_;unfold BD;rw[hn];rfl
    exact BX EH EZ (BG (by have:=(C8 hn).2.1;omega)) (BZ (by omega) ⟨rfl,⟨({x with size:=(n:Int)},i+1),inv.next ha hs⟩,hms,FT hr rfl,fun _ _ _ h=>h⟩)
   ·have hs:ED x a=none:=by unfold ED;rw[h];show(BD 2147483647 a.v.data.toList).map _=_;unfold BD;rw[hn];rfl
    exact BX (m:=0) EH EZ (BG (by omega)) ⟨rfl,_,_,I8 hr rfl,.inr ⟨inv.bad ha hs,rfl,rfl,rfl⟩⟩
  have hs:ED x a=none:=by
   unfold ED
   split<;>first|rfl|contradiction
  exact⟨rfl,_,_,I8 hr rfl,.inr ⟨inv.bad ha hs,rfl,rfl,rfl⟩⟩
 ·exact⟨rfl,_,_,Wk.refl _ _ _ _,.inl ⟨x,inv.last (by omega),rfl,rfl,rfl⟩⟩
def ACC(r:AA):rJ:=fun c n AB obs A E=>∃l:List At,l.length<=255/\c=AJ Tryz.prog 158 5/\n=37/\AB=[.func (.func 209) ⟨[]⟩ ⟨[pA 101]⟩,dsl (FX l),.int .i64 (Int.ofNat l.length),.int .i64 (0:Int)]/\obs=[some r,some (.cells [.int .i64 0,.int .i64 0] 49 2 false true)]/\
 (∀x,run ED L9 l=some x->A x.id x.size)/\(run ED L9 l=none->E)
theorem AKn(r:AA)(hr:EC 102 (some r)=true):BH Tryz.prog 100 [1,18,19,20] (ADY (ACC r)):=by
 show BH Tryz.prog 100 [1,18,19,20] (lpS [4] _)
 refine FQ okp (W:=(AP Z0 Zp [] [] [(142,sRN MRN)] [(28,23),(37,16),(14,10)])) (EY (F6 WV)) AZ ?_
 intro c n AB obs K h
 split at h<;>try exact h.elim
 obtain⟨l,hl,hc,hn,hv,ho,hA,hE⟩:=h
 subst hc;subst hn;subst hv
 simp only[List.cons.injEq]at ho
 obtain⟨rfl,rfl⟩:=ho
 refine⟨StX ED L9 l,2,300,fun p=>l.length-p.1.2,rG r l,fun _ e v o=>rT r l e v o,⟨(L9,0),⟨Nat.zero_le _,rfl⟩⟩,rfl,Wk.refl _ _ _ _,?_,AIA r hr l hl⟩
 intro e v o hR
 rcases hR with⟨x,h1,rfl,rfl,rfl⟩ | ⟨h1,rfl,rfl,rfl⟩
 ·exact hA x h1
 ·exact hE h1
def AIa:AA := .cells [.int .i64 0,.int .i64 0] 49 2 false true
def AID(q:Nat×IJ):Value := .tuple ⟨[OJ q.2,.int .i64 (q.1:Int)]⟩
theorem AKI(s:ByteArray):Is (ADg (real Tryz.prog) MD (ACC AIa) s (fun v=>FZ v (AID (rdE ED L9 s.data.toList)))):=by
 refine⟨?_⟩
 rw[ABG]
 refine⟨fun h0=>BI _ (JP _) ⟨_,NA _,rfl,rfl,rfl,rfl,fun x hx=>?_,fun hx=>?_⟩,fun h3=>?_,fun h4=>?_⟩
 ·rw[TM h0 hx];exact FZ.refl _
 ·rw[TL h0 hx];exact(FZ.refl _)
 ·rw[JA (by omega),h3];exact(FZ.refl _)
 ·rw[JA (by omega),h4];exact(FZ.refl _)
theorem AKJ(s:ByteArray)(B:Base)(H:Heap):BM Tryz.prog 100 B 116 [.string s] H (.returned (AID (rdE ED L9 s.data.toList))) H:=
 UW (EY (F6 QZ)) (GH (fun x hx=>by simp only[List.mem_singleton]at hx;subst hx;exact AKn AIa rfl)) rfl rfl (AKI s) B H
end
end Go.Proofs.Ob
