/- . -/
import Derived.Test.YtblbaohcelldpaaGreatDoorU5
set_option linter.all false
set_option maxRecDepth 100000
namespace Go.Tlv
open Go Go.Abs
section
variable {α:Type} {step:α->At->Option α} {z:α} {s:List UInt8}
theorem OJ{x:α}(h0:(CP 0 s).1=0)(h:run step z (CP 0 s).2=some x):rdE step z s=(0,x):=by unfold rdE;rw[if_pos h0,h]
theorem OI(h0:(CP 0 s).1=0)(h:run step z (CP 0 s).2=none):rdE step z s=(3,z):=by unfold rdE;rw[if_pos h0,h]
theorem FX(h0:(CP 0 s).1≠0):rdE step z s=((CP 0 s).1,z):=by unfold rdE;rw[if_neg h0]
end
end Go.Tlv
namespace Go.Proofs.Ob
open Go Go.Abs Go.Tlv
noncomputable section
theorem OG{W:How}(hkn:QP Tryz.prog 100 W)(hlp:QQ Tryz.prog 100 W){f:FuncId}{args:Lv}{v:Value}{n:Nat}(ha:A8 100 args=true)(hv:below 100 v=true)
  (h:Is (wpe Tryz.prog (real Tryz.prog) W n (.call f args h0) (II fun v'=>EI v' v))) (B:Base) (H:Heap):BP Tryz.prog 100 B f args H (.returned v) H:=by
 obtain⟨r,h1,h2⟩:=UD okp hkn hlp n _ _ h.out
 unfold II at h2
 split at h2
 ·rename_i v' u h'
  split at h2
  ·rename_i hc
   simp only[Bool.and_eq_true]at hc
   exact NQ (fun B=>GZ (ins:=[]) (P8 (Nat.le_of_ble_eq_true hc.1) (h1 B)) ((CQ (.cons h2 .nil) (D7.refl _)).trans (F5 (by simp only[A8,hv];rfl)))) ha hv B H
  ·exact h2.elim
 ·exact h2.elim
def GX(x:DX):AJ := .cells [.int .i64 x.id,.int .i64 x.size,.int .i64 x.lo,.int .i64 x.lw,.int .i64 x.lu,.int .i64 x.so,.int .i64 x.sw,dsl (rowsOf FV x.arms),.int .i64 x.ot] 32 9 false true
def kL(r:AJ)(l:List At)(p:StX AY HZ l):Lv×Lo:=([.func (.func 159) ⟨[]⟩ ⟨[pA 101]⟩,dsl (CZ l),.int .i64 (l.length:Int),.int .i64 (p.1.2:Int)],[some r,some (GX p.1.1)])
def kU(r:AJ)(l:List At)(e:Exit)(v:Lv)(o:Lo):Prop:=
 (∃x,run AY HZ l=some x/\e = .exit 0/\v=[top]/\o=[some r,some (GX x)])∨(run AY HZ l=none/\e = .ret/\v=[.int .i64 3]/\o=[some r,none])
theorem ADx(r:AJ)(hr:C8 102 (some r)=true)(l:List At)(hl:l.length<=255)(p:StX AY HZ l):
  Is (wpe Tryz.prog (real Tryz.prog) (AU Z0 Zp [(161,F7 162 (PX GI FV))] [] [(142,sRN MRN)] [(28,23),(37,16),(14,10)]) 300 (.code false (AO Tryz.prog 158 5) (C9 100 37 [1,18,19,20] [] (kL r l p))) (BM 100 [1,18,19,20] [4] 37 []
   (fun AB AL=>∃a':StX AY HZ l,l.length-a'.1.2<l.length-p.1.2/\Wk 100 (100+2) AB AL (kL r l a').1 (kL r l a').2/\∀e v o,kU r l e v o->kU r l e v o)
   (fun e AB AL=>∃v o,Wk 100 (100+2) AB AL v o/\kU r l e v o))):=by
 refine⟨?_⟩
 obtain⟨⟨x,i⟩,inv⟩:=p
 have hle:i<=l.length:=inv.le
 show qK (real Tryz.prog) (PX GI FV) MRN (some r) x.id x.size x.lo x.lw x.lu x.so x.sw (rowsOf FV x.arms) x.ot (CZ l) (l.length:Int) (i:Int) _ _
 rw[qL]
 refine DW (fun hlt=>?_) (fun hge=>?_)
 ·have ha:l[i]?=some l[i]:=List.getElem?_eq_getElem hlt
  generalize l[i]=a at ha
  have hms:l.length-(i+1)<l.length-i:=by omega
  refine EG i rfl (GH ha) rfl (EN (z:=(a.t:Int)) rfl (JM (z:=a.v) rfl ?_))
  refine CG (d:=1) (fun h=>?_) (fun hn1=>?_)
  ·refine⟨2147483647,rfl,fun n hn=>?_,fun hn=>?_⟩
   ·have hs:AY x a=some {x with id:=(n:Int)}:=by unfold AY;rw[h];show(AV 2147483647 a.v.data.toList).map _=_;unfold AV;rw[hn];rfl
    exact BI CW DU (AX (by have:=(BV hn).2.1;omega)) (BS (by omega) ⟨rfl,⟨({x with id:=(n:Int)},i+1),inv.next ha hs⟩,hms,EE hr rfl,fun _ _ _ h=>h⟩)
   ·have hs:AY x a=none:=by unfold AY;rw[h];show(AV 2147483647 a.v.data.toList).map _=_;unfold AV;rw[hn];rfl
    exact BI (m:=0) CW DU (AX (by omega)) ⟨rfl,_,_,GD hr rfl,.inr ⟨inv.bad ha hs,rfl,rfl,rfl⟩⟩
  refine CG (d:=2) (fun h=>?_) (fun hn2=>?_)
  ·refine⟨2147483647,rfl,fun n hn=>?_,fun hn=>?_⟩
   ·have hs:AY x a=some {x with size:=(n:Int)}:=by unfold AY;rw[h];show(AV 2147483647 a.v.data.toList).map _=_;unfold AV;rw[hn];rfl
    exact BI CW DU (AX (by have:=(BV hn).2.1;omega)) (BS (by omega) ⟨rfl,⟨({x with size:=(n:Int)},i+1),inv.next ha hs⟩,hms,EE hr rfl,fun _ _ _ h=>h⟩)
   ·have hs:AY x a=none:=by unfold AY;rw[h];show(AV 2147483647 a.v.data.toList).map _=_;unfold AV;rw[hn];rfl
    exact BI (m:=0) CW DU (AX (by omega)) ⟨rfl,_,_,GD hr rfl,.inr ⟨inv.bad ha hs,rfl,rfl,rfl⟩⟩
  refine CG (d:=3) (fun h=>?_) (fun hn3=>?_)
  ·refine⟨2147483647,rfl,fun n hn=>?_,fun hn=>?_⟩
   ·have hs:AY x a=some {x with lo:=(n:Int)}:=by unfold AY;rw[h];show(AV 2147483647 a.v.data.toList).map _=_;unfold AV;rw[hn];rfl
    exact BI CW DU (AX (by have:=(BV hn).2.1;omega)) (BS (by omega) ⟨rfl,⟨({x with lo:=(n:Int)},i+1),inv.next ha hs⟩,hms,EE hr rfl,fun _ _ _ h=>h⟩)
   ·have hs:AY x a=none:=by unfold AY;rw[h];show(AV 2147483647 a.v.data.toList).map _=_;unfold AV;rw[hn];rfl
    exact BI (m:=0) CW DU (AX (by omega)) ⟨rfl,_,_,GD hr rfl,.inr ⟨inv.bad ha hs,rfl,rfl,rfl⟩⟩
  refine CG (d:=4) (fun h=>?_) (fun hn4=>?_)
  ·refine⟨2147483647,rfl,fun n hn=>?_,fun hn=>?_⟩
   ·have hs:AY x a=some {x with lw:=(n:Int)}:=by unfold AY;rw[h];show(AV 2147483647 a.v.data.toList).map _=_;unfold AV;rw[hn];rfl
    exact BI CW DU (AX (by have:=(BV hn).2.1;omega)) (BS (by omega) ⟨rfl,⟨({x with lw:=(n:Int)},i+1),inv.next ha hs⟩,hms,EE hr rfl,fun _ _ _ h=>h⟩)
   ·have hs:AY x a=none:=by unfold AY;rw[h];show(AV 2147483647 a.v.data.toList).map _=_;unfold AV;rw[hn];rfl
    exact BI (m:=0) CW DU (AX (by omega)) ⟨rfl,_,_,GD hr rfl,.inr ⟨inv.bad ha hs,rfl,rfl,rfl⟩⟩
  refine CG (d:=5) (fun h=>?_) (fun hn5=>?_)
  ·refine⟨2147483647,rfl,fun n hn=>?_,fun hn=>?_⟩
   ·have hs:AY x a=some {x with lu:=(n:Int)}:=by unfold AY;rw[h];show(AV 2147483647 a.v.data.toList).map _=_;unfold AV;rw[hn];rfl
    exact BI CW DU (AX (by have:=(BV hn).2.1;omega)) (BS (by omega) ⟨rfl,⟨({x with lu:=(n:Int)},i+1),inv.next ha hs⟩,hms,EE hr rfl,fun _ _ _ h=>h⟩)
   ·have hs:AY x a=none:=by unfold AY;rw[h];show(AV 2147483647 a.v.data.toList).map _=_;unfold AV;rw[hn];rfl
    exact BI (m:=0) CW DU (AX (by omega)) ⟨rfl,_,_,GD hr rfl,.inr ⟨inv.bad ha hs,rfl,rfl,rfl⟩⟩
  refine CG (d:=6) (fun h=>?_) (fun hn6=>?_)
  ·refine⟨2147483647,rfl,fun n hn=>?_,fun hn=>?_⟩
   ·have hs:AY x a=some {x with so:=(n:Int)}:=by unfold AY;rw[h];show(AV 2147483647 a.v.data.toList).map _=_;unfold AV;rw[hn];rfl
    exact BI CW DU (AX (by have:=(BV hn).2.1;omega)) (BS (by omega) ⟨rfl,⟨({x with so:=(n:Int)},i+1),inv.next ha hs⟩,hms,EE hr rfl,fun _ _ _ h=>h⟩)
   ·have hs:AY x a=none:=by unfold AY;rw[h];show(AV 2147483647 a.v.data.toList).map _=_;unfold AV;rw[hn];rfl
    exact BI (m:=0) CW DU (AX (by omega)) ⟨rfl,_,_,GD hr rfl,.inr ⟨inv.bad ha hs,rfl,rfl,rfl⟩⟩
  refine CG (d:=7) (fun h=>?_) (fun hn7=>?_)
  ·refine⟨2147483647,rfl,fun n hn=>?_,fun hn=>?_⟩
   ·have hs:AY x a=some {x with sw:=(n:Int)}:=by unfold AY;rw[h];show(AV 2147483647 a.v.data.toList).map _=_;unfold AV;rw[hn];rfl
    exact BI CW DU (AX (by have:=(BV hn).2.1;omega)) (BS (by omega) ⟨rfl,⟨({x with sw:=(n:Int)},i+1),inv.next ha hs⟩,hms,EE hr rfl,fun _ _ _ h=>h⟩)
   ·have hs:AY x a=none:=by unfold AY;rw[h];show(AV 2147483647 a.v.data.toList).map _=_;unfold AV;rw[hn];rfl
    exact BI (m:=0) CW DU (AX (by omega)) ⟨rfl,_,_,GD hr rfl,.inr ⟨inv.bad ha hs,rfl,rfl,rfl⟩⟩
  refine CG (d:=8) (fun h=>?_) (fun hn8=>?_)
  ·refine⟨2147483647,rfl,fun n hn=>?_,fun hn=>?_⟩
   ·have hs:AY x a=some {x with ot:=(n:Int)}:=by unfold AY;rw[h];show(AV 2147483647 a.v.data.toList).map _=_;unfold AV;rw[hn];rfl
    exact BI CW DU (AX (by have:=(BV hn).2.1;omega)) (BS (by omega) ⟨rfl,⟨({x with ot:=(n:Int)},i+1),inv.next ha hs⟩,hms,EE hr rfl,fun _ _ _ h=>h⟩)
   ·have hs:AY x a=none:=by unfold AY;rw[h];show(AV 2147483647 a.v.data.toList).map _=_;unfold AV;rw[hn];rfl
    exact BI (m:=0) CW DU (AX (by omega)) ⟨rfl,_,_,GD hr rfl,.inr ⟨inv.bad ha hs,rfl,rfl,rfl⟩⟩
  refine CG (d:=9) (fun h=>?_) (fun hn9=>?_)
  ·refine⟨32,rfl,by omega,fun v hv=>?_,fun hv v=>?_⟩
   ·have hs:AY x a=some {x with arms:=v}:=by unfold AY;rw[h];show(D9 GI 32 a.v.data.toList).map _=_;rw[hv];rfl
    exact BS (by omega) ⟨rfl,⟨({x with arms:=v},i+1),inv.next ha hs⟩,hms,EE hr rfl,fun _ _ _ h=>h⟩
   ·have hs:AY x a=none:=by unfold AY;rw[h];show(D9 GI 32 a.v.data.toList).map _=_;rw[hv];rfl
    exact⟨rfl,_,_,GD hr rfl,.inr ⟨inv.bad ha hs,rfl,rfl,rfl⟩⟩
  have hs:AY x a=none:=by
   unfold AY
   split<;>first|rfl|contradiction
  exact⟨rfl,_,_,GD hr rfl,.inr ⟨inv.bad ha hs,rfl,rfl,rfl⟩⟩
 ·exact⟨rfl,_,_,Wk.refl _ _ _ _,.inl ⟨x,inv.last (by omega),rfl,rfl,rfl⟩⟩
def xO(r:AJ):kN:=fun c n AB obs A E=>∃l:List At,l.length<=255/\c=AO Tryz.prog 158 5/\n=37/\AB=[.func (.func 159) ⟨[]⟩ ⟨[pA 101]⟩,dsl (CZ l),.int .i64 (Int.ofNat l.length),.int .i64 (0:Int)]/\obs=[some r,some (.cells [.int .i64 0,.int .i64 0,.int .i64 0,.int .i64 0,.int .i64 0,.int .i64 0,.int .i64 0,.slice none 0 0,.int .i64 0] 32 9 false true)]/\
 (∀x,run AY HZ l=some x->A x.id x.size x.lo x.lw x.lu x.so x.sw (rowsOf FV x.arms) x.ot)/\(run AY HZ l=none->E)
theorem AFo(r:AJ)(hr:C8 102 (some r)=true):BH Tryz.prog 100 [1,18,19,20] (AAd (xO r)):=by
 show BH Tryz.prog 100 [1,18,19,20] (lpS [4] _)
 refine FW okp (W:=(AU Z0 Zp [(161,F7 162 (PX GI FV))] [] [(142,sRN MRN)] [(28,23),(37,16),(14,10)])) (O1 (fun x hx=>by simp only[List.mem_singleton]at hx;subst hx;exact AFB) (EO TJ)) BN ?_
 intro c n AB obs K h
 split at h<;>try exact h.elim
 obtain⟨l,hl,hc,hn,hv,ho,hA,hE⟩:=h
 subst hc;subst hn;subst hv
 simp only[List.cons.injEq]at ho
 obtain⟨rfl,rfl⟩:=ho
 refine⟨StX AY HZ l,2,300,fun p=>l.length-p.1.2,kL r l,fun _ e v o=>kU r l e v o,⟨(HZ,0),⟨Nat.zero_le _,rfl⟩⟩,rfl,CQ (BR.refl _) (.cons (.refl _) (.cons (.cells (.cons (.refl _) (.cons (.refl _) (.cons (.refl _) (.cons (.refl _) (.cons (.refl _) (.cons (.refl _) (.cons (.refl _) (.cons .nilD (.cons (.refl _) (.nil))))))))))) .nil)),?_,ADx r hr l hl⟩
 intro e v o hR
 rcases hR with⟨x,h1,rfl,rfl,rfl⟩ | ⟨h1,rfl,rfl,rfl⟩
 ·exact hA x h1
 ·exact hE h1
def ADh:AJ := .cells [.int .i64 0,.int .i64 0,.int .i64 0,.int .i64 0,.int .i64 0,.int .i64 0,.int .i64 0,.slice none 0 0,.int .i64 0] 32 9 false true
def ADA(q:Nat×DX):Value := .tuple ⟨[QM q.2,.int .i64 (q.1:Int)]⟩
theorem AFJ(s:ByteArray):Is (yT (real Tryz.prog) MD (xO ADh) s (fun v=>EI v (ADA (rdE AY HZ s.data.toList)))):=by
 refine⟨?_⟩
 rw[vC]
 refine⟨fun h0=>CL _ (FY _) ⟨_,I7 _,rfl,rfl,rfl,rfl,fun x hx=>?_,fun hx=>?_⟩,fun h3=>?_,fun h4=>?_⟩
 ·rw[OJ h0 hx];exact EI.refl _
 ·rw[OI h0 hx];exact(.tup (.cons (.agg (.cons (.refl _) (.cons (.refl _) (.cons (.refl _) (.cons (.refl _) (.cons (.refl _) (.cons (.refl _) (.cons (.refl _) (.cons .nilD (.cons (.refl _) (.nil))))))))))) (BR.refl _)))
 ·rw[FX (by omega),h3];exact(.tup (.cons (.agg (.cons (.refl _) (.cons (.refl _) (.cons (.refl _) (.cons (.refl _) (.cons (.refl _) (.cons (.refl _) (.cons (.refl _) (.cons .nilD (.cons (.refl _) (.nil))))))))))) (BR.refl _)))
 ·rw[FX (by omega),h4];exact(.tup (.cons (.agg (.cons (.refl _) (.cons (.refl _) (.cons (.refl _) (.cons (.refl _) (.cons (.refl _) (.cons (.refl _) (.cons (.refl _) (.cons .nilD (.cons (.refl _) (.nil))))))))))) (BR.refl _)))
theorem AFK(s:ByteArray)(B:Base)(H:Heap):BP Tryz.prog 100 B 88 [.string s] H (.returned (ADA (rdE AY HZ s.data.toList))) H:=
 OG (DI (EO OE)) (E9 (fun x hx=>by simp only[List.mem_singleton]at hx;subst hx;exact AFo ADh rfl)) rfl rfl (AFJ s) B H
def AAh(x:EJ):AJ := .cells [.int .i64 x.id,.int .u8 (x.base:Int),.int .i64 x.node,.int .i64 x.off,.int .i64 x.wid] 34 5 false true
def ZY(r:AJ)(l:List At)(p:StX BC FH l):Lv×Lo:=([.func (.func 166) ⟨[]⟩ ⟨[pA 101]⟩,dsl (CZ l),.int .i64 (l.length:Int),.int .i64 (p.1.2:Int)],[some r,some (AAh p.1.1)])
def aK(r:AJ)(l:List At)(e:Exit)(v:Lv)(o:Lo):Prop:=
 (∃x,run BC FH l=some x/\e = .exit 0/\v=[top]/\o=[some r,some (AAh x)])∨(run BC FH l=none/\e = .ret/\v=[.int .i64 3]/\o=[some r,none])
theorem ABj(r:AJ)(hr:C8 102 (some r)=true)(l:List At)(hl:l.length<=255)(p:StX BC FH l):
  Is (wpe Tryz.prog (real Tryz.prog) (AU Z0 Zp [] [] [(142,sRN MRN)] [(28,23),(37,16),(14,10)]) 300 (.code false (AO Tryz.prog 158 5) (C9 100 37 [1,18,19,20] [] (ZY r l p))) (BM 100 [1,18,19,20] [4] 37 []
   (fun AB AL=>∃a':StX BC FH l,l.length-a'.1.2<l.length-p.1.2/\Wk 100 (100+2) AB AL (ZY r l a').1 (ZY r l a').2/\∀e v o,aK r l e v o->aK r l e v o)
   (fun e AB AL=>∃v o,Wk 100 (100+2) AB AL v o/\aK r l e v o))):=by
 refine⟨?_⟩
 obtain⟨⟨x,i⟩,inv⟩:=p
 have hle:i<=l.length:=inv.le
 show iW (real Tryz.prog) MRN (some r) x.id (x.base:Int) x.node x.off x.wid (CZ l) (l.length:Int) (i:Int) _ _
 rw[mE]
 refine DW (fun hlt=>?_) (fun hge=>?_)
 ·have ha:l[i]?=some l[i]:=List.getElem?_eq_getElem hlt
  generalize l[i]=a at ha
  have hms:l.length-(i+1)<l.length-i:=by omega
  refine EG i rfl (GH ha) rfl (EN (z:=(a.t:Int)) rfl (JM (z:=a.v) rfl ?_))
  refine CG (d:=1) (fun h=>?_) (fun hn1=>?_)
  ·refine⟨2147483647,rfl,fun n hn=>?_,fun hn=>?_⟩
   ·have hs:BC x a=some {x with id:=(n:Int)}:=by unfold BC;rw[h];show(AV 2147483647 a.v.data.toList).map _=_;unfold AV;rw[hn];rfl
    exact BI CW DU (AX (by have:=(BV hn).2.1;omega)) (BS (by omega) ⟨rfl,⟨({x with id:=(n:Int)},i+1),inv.next ha hs⟩,hms,EE hr rfl,fun _ _ _ h=>h⟩)
   ·have hs:BC x a=none:=by unfold BC;rw[h];show(AV 2147483647 a.v.data.toList).map _=_;unfold AV;rw[hn];rfl
    exact BI (m:=0) CW DU (AX (by omega)) ⟨rfl,_,_,GD hr rfl,.inr ⟨inv.bad ha hs,rfl,rfl,rfl⟩⟩
  refine CG (d:=2) (fun h=>?_) (fun hn2=>?_)
  ·refine⟨255,rfl,fun n hn=>?_,fun hn=>?_⟩
   ·have hs:BC x a=some {x with base:=n}:=by unfold BC;rw[h];show(DN 255 a.v.data.toList).map _=_;unfold DN;rw[hn];rfl
    exact BI CW uU8 (KU (by have:=(BV hn).2.1;omega)) (BS (by omega) ⟨rfl,⟨({x with base:=n},i+1),inv.next ha hs⟩,hms,EE hr rfl,fun _ _ _ h=>h⟩)
   ·have hs:BC x a=none:=by unfold BC;rw[h];show(DN 255 a.v.data.toList).map _=_;unfold DN;rw[hn];rfl
    exact BI (m:=0) CW uU8 (KU (by omega)) ⟨rfl,_,_,GD hr rfl,.inr ⟨inv.bad ha hs,rfl,rfl,rfl⟩⟩
  refine CG (d:=3) (fun h=>?_) (fun hn3=>?_)
  ·refine⟨2147483647,rfl,fun n hn=>?_,fun hn=>?_⟩
   ·have hs:BC x a=some {x with node:=(n:Int)}:=by unfold BC;rw[h];show(AV 2147483647 a.v.data.toList).map _=_;unfold AV;rw[hn];rfl
    exact BI CW DU (AX (by have:=(BV hn).2.1;omega)) (BS (by omega) ⟨rfl,⟨({x with node:=(n:Int)},i+1),inv.next ha hs⟩,hms,EE hr rfl,fun _ _ _ h=>h⟩)
   ·have hs:BC x a=none:=by unfold BC;rw[h];show(AV 2147483647 a.v.data.toList).map _=_;unfold AV;rw[hn];rfl
    exact BI (m:=0) CW DU (AX (by omega)) ⟨rfl,_,_,GD hr rfl,.inr ⟨inv.bad ha hs,rfl,rfl,rfl⟩⟩
  refine CG (d:=4) (fun h=>?_) (fun hn4=>?_)
  ·refine⟨2147483647,rfl,fun n hn=>?_,fun hn=>?_⟩
   ·have hs:BC x a=some {x with off:=(n:Int)}:=by unfold BC;rw[h];show(AV 2147483647 a.v.data.toList).map _=_;unfold AV;rw[hn];rfl
    exact BI CW DU (AX (by have:=(BV hn).2.1;omega)) (BS (by omega) ⟨rfl,⟨({x with off:=(n:Int)},i+1),inv.next ha hs⟩,hms,EE hr rfl,fun _ _ _ h=>h⟩)
   ·have hs:BC x a=none:=by unfold BC;rw[h];show(AV 2147483647 a.v.data.toList).map _=_;unfold AV;rw[hn];rfl
    exact BI (m:=0) CW DU (AX (by omega)) ⟨rfl,_,_,GD hr rfl,.inr ⟨inv.bad ha hs,rfl,rfl,rfl⟩⟩
  refine CG (d:=5) (fun h=>?_) (fun hn5=>?_)
  ·refine⟨2147483647,rfl,fun n hn=>?_,fun hn=>?_⟩
   ·have hs:BC x a=some {x with wid:=(n:Int)}:=by unfold BC;rw[h];show(AV 2147483647 a.v.data.toList).map _=_;unfold AV;rw[hn];rfl
    exact BI CW DU (AX (by have:=(BV hn).2.1;omega)) (BS (by omega) ⟨rfl,⟨({x with wid:=(n:Int)},i+1),inv.next ha hs⟩,hms,EE hr rfl,fun _ _ _ h=>h⟩)
   ·have hs:BC x a=none:=by unfold BC;rw[h];show(AV 2147483647 a.v.data.toList).map _=_;unfold AV;rw[hn];rfl
    exact BI (m:=0) CW DU (AX (by omega)) ⟨rfl,_,_,GD hr rfl,.inr ⟨inv.bad ha hs,rfl,rfl,rfl⟩⟩
  have hs:BC x a=none:=by
   unfold BC
   split<;>first|rfl|contradiction
  exact⟨rfl,_,_,GD hr rfl,.inr ⟨inv.bad ha hs,rfl,rfl,rfl⟩⟩
 ·exact⟨rfl,_,_,Wk.refl _ _ _ _,.inl ⟨x,inv.last (by omega),rfl,rfl,rfl⟩⟩
def oK(r:AJ):aA:=fun c n AB obs A E=>∃l:List At,l.length<=255/\c=AO Tryz.prog 158 5/\n=37/\AB=[.func (.func 166) ⟨[]⟩ ⟨[pA 101]⟩,dsl (CZ l),.int .i64 (Int.ofNat l.length),.int .i64 (0:Int)]/\obs=[some r,some (.cells [.int .i64 0,.int .u8 0,.int .i64 0,.int .i64 0,.int .i64 0] 34 5 false true)]/\
 (∀x,run BC FH l=some x->A x.id (x.base:Int) x.node x.off x.wid)/\(run BC FH l=none->E)
theorem ACR(r:AJ)(hr:C8 102 (some r)=true):BH Tryz.prog 100 [1,18,19,20] (tC (oK r)):=by
 show BH Tryz.prog 100 [1,18,19,20] (lpS [4] _)
 refine FW okp (W:=(AU Z0 Zp [] [] [(142,sRN MRN)] [(28,23),(37,16),(14,10)])) (DI (EO TJ)) BN ?_
 intro c n AB obs K h
 split at h<;>try exact h.elim
 obtain⟨l,hl,hc,hn,hv,ho,hA,hE⟩:=h
 subst hc;subst hn;subst hv
 simp only[List.cons.injEq]at ho
 obtain⟨rfl,rfl⟩:=ho
 refine⟨StX BC FH l,2,300,fun p=>l.length-p.1.2,ZY r l,fun _ e v o=>aK r l e v o,⟨(FH,0),⟨Nat.zero_le _,rfl⟩⟩,rfl,Wk.refl _ _ _ _,?_,ABj r hr l hl⟩
 intro e v o hR
 rcases hR with⟨x,h1,rfl,rfl,rfl⟩ | ⟨h1,rfl,rfl,rfl⟩
 ·exact hA x h1
 ·exact hE h1
def zR:AJ := .cells [.int .i64 0,.int .u8 0,.int .i64 0,.int .i64 0,.int .i64 0] 34 5 false true
def zZ(q:Nat×EJ):Value := .tuple ⟨[LC q.2,.int .i64 (q.1:Int)]⟩
theorem ADo(s:ByteArray):Is (qC (real Tryz.prog) MD (oK zR) s (fun v=>EI v (zZ (rdE BC FH s.data.toList)))):=by
 refine⟨?_⟩
 rw[qD]
 refine⟨fun h0=>CL _ (FY _) ⟨_,I7 _,rfl,rfl,rfl,rfl,fun x hx=>?_,fun hx=>?_⟩,fun h3=>?_,fun h4=>?_⟩
 ·rw[OJ h0 hx];exact EI.refl _
 ·rw[OI h0 hx];exact(EI.refl _)
 ·rw[FX (by omega),h3];exact(EI.refl _)
 ·rw[FX (by omega),h4];exact(EI.refl _)
theorem ADp(s:ByteArray)(B:Base)(H:Heap):BP Tryz.prog 100 B 92 [.string s] H (.returned (zZ (rdE BC FH s.data.toList))) H:=
 OG (DI (EO OE)) (E9 (fun x hx=>by simp only[List.mem_singleton]at hx;subst hx;exact ACR zR rfl)) rfl rfl (ADo s) B H
def FO(x:DC):AJ := .cells [.int .i64 x.id,.int .u8 (x.kind:Int),dsl (rowsOf G7 x.keys),.int .i64 x.cap,.int .i64 x.miss] 37 5 false true
def Z6(r:AJ)(l:List At)(p:StX BA FK l):Lv×Lo:=([.func (.func 173) ⟨[]⟩ ⟨[pA 101]⟩,dsl (CZ l),.int .i64 (l.length:Int),.int .i64 (p.1.2:Int)],[some r,some (FO p.1.1)])
def aO(r:AJ)(l:List At)(e:Exit)(v:Lv)(o:Lo):Prop:=
 (∃x,run BA FK l=some x/\e = .exit 0/\v=[top]/\o=[some r,some (FO x)])∨(run BA FK l=none/\e = .ret/\v=[.int .i64 3]/\o=[some r,none])
theorem ABn(r:AJ)(hr:C8 102 (some r)=true)(l:List At)(hl:l.length<=255)(p:StX BA FK l):
  Is (wpe Tryz.prog (real Tryz.prog) (AU Z0 Zp [(174,F7 160 (PX GJ G7))] [] [(142,sRN MRN)] [(28,23),(37,16),(14,10)]) 300 (.code false (AO Tryz.prog 158 5) (C9 100 37 [1,18,19,20] [] (Z6 r l p))) (BM 100 [1,18,19,20] [4] 37 []
   (fun AB AL=>∃a':StX BA FK l,l.length-a'.1.2<l.length-p.1.2/\Wk 100 (100+2) AB AL (Z6 r l a').1 (Z6 r l a').2/\∀e v o,aO r l e v o->aO r l e v o)
   (fun e AB AL=>∃v o,Wk 100 (100+2) AB AL v o/\aO r l e v o))):=by
 refine⟨?_⟩
 obtain⟨⟨x,i⟩,inv⟩:=p
 have hle:i<=l.length:=inv.le
 show jA (real Tryz.prog) (PX GJ G7) MRN (some r) x.id (x.kind:Int) (rowsOf G7 x.keys) x.cap x.miss (CZ l) (l.length:Int) (i:Int) _ _
 rw[mI]
 refine DW (fun hlt=>?_) (fun hge=>?_)
 ·have ha:l[i]?=some l[i]:=List.getElem?_eq_getElem hlt
  generalize l[i]=a at ha
  have hms:l.length-(i+1)<l.length-i:=by omega
  refine EG i rfl (GH ha) rfl (EN (z:=(a.t:Int)) rfl (JM (z:=a.v) rfl ?_))
  refine CG (d:=1) (fun h=>?_) (fun hn1=>?_)
  ·refine⟨2147483647,rfl,fun n hn=>?_,fun hn=>?_⟩
   ·have hs:BA x a=some {x with id:=(n:Int)}:=by unfold BA;rw[h];show(AV 2147483647 a.v.data.toList).map _=_;unfold AV;rw[hn];rfl
    exact BI CW DU (AX (by have:=(BV hn).2.1;omega)) (BS (by omega) ⟨rfl,⟨({x with id:=(n:Int)},i+1),inv.next ha hs⟩,hms,EE hr rfl,fun _ _ _ h=>h⟩)
   ·have hs:BA x a=none:=by unfold BA;rw[h];show(AV 2147483647 a.v.data.toList).map _=_;unfold AV;rw[hn];rfl
    exact BI (m:=0) CW DU (AX (by omega)) ⟨rfl,_,_,GD hr rfl,.inr ⟨inv.bad ha hs,rfl,rfl,rfl⟩⟩
  refine CG (d:=2) (fun h=>?_) (fun hn2=>?_)
  ·refine⟨255,rfl,fun n hn=>?_,fun hn=>?_⟩
   ·have hs:BA x a=some {x with kind:=n}:=by unfold BA;rw[h];show(DN 255 a.v.data.toList).map _=_;unfold DN;rw[hn];rfl
    exact BI CW uU8 (KU (by have:=(BV hn).2.1;omega)) (BS (by omega) ⟨rfl,⟨({x with kind:=n},i+1),inv.next ha hs⟩,hms,EE hr rfl,fun _ _ _ h=>h⟩)
   ·have hs:BA x a=none:=by unfold BA;rw[h];show(DN 255 a.v.data.toList).map _=_;unfold DN;rw[hn];rfl
    exact BI (m:=0) CW uU8 (KU (by omega)) ⟨rfl,_,_,GD hr rfl,.inr ⟨inv.bad ha hs,rfl,rfl,rfl⟩⟩
  refine CG (d:=3) (fun h=>?_) (fun hn3=>?_)
  ·refine⟨4,rfl,by omega,fun v hv=>?_,fun hv v=>?_⟩
   ·have hs:BA x a=some {x with keys:=v}:=by unfold BA;rw[h];show(D9 GJ 4 a.v.data.toList).map _=_;rw[hv];rfl
    exact BS (by omega) ⟨rfl,⟨({x with keys:=v},i+1),inv.next ha hs⟩,hms,EE hr rfl,fun _ _ _ h=>h⟩
   ·have hs:BA x a=none:=by unfold BA;rw[h];show(D9 GJ 4 a.v.data.toList).map _=_;rw[hv];rfl
    exact⟨rfl,_,_,GD hr rfl,.inr ⟨inv.bad ha hs,rfl,rfl,rfl⟩⟩
  refine CG (d:=4) (fun h=>?_) (fun hn4=>?_)
  ·refine⟨2147483647,rfl,fun n hn=>?_,fun hn=>?_⟩
   ·have hs:BA x a=some {x with cap:=(n:Int)}:=by unfold BA;rw[h];show(AV 2147483647 a.v.data.toList).map _=_;unfold AV;rw[hn];rfl
    exact BI CW DU (AX (by have:=(BV hn).2.1;omega)) (BS (by omega) ⟨rfl,⟨({x with cap:=(n:Int)},i+1),inv.next ha hs⟩,hms,EE hr rfl,fun _ _ _ h=>h⟩)
   ·have hs:BA x a=none:=by unfold BA;rw[h];show(AV 2147483647 a.v.data.toList).map _=_;unfold AV;rw[hn];rfl
    exact BI (m:=0) CW DU (AX (by omega)) ⟨rfl,_,_,GD hr rfl,.inr ⟨inv.bad ha hs,rfl,rfl,rfl⟩⟩
  refine CG (d:=5) (fun h=>?_) (fun hn5=>?_)
  ·refine⟨2147483647,rfl,fun n hn=>?_,fun hn=>?_⟩
   ·have hs:BA x a=some {x with miss:=(n:Int)}:=by unfold BA;rw[h];show(AV 2147483647 a.v.data.toList).map _=_;unfold AV;rw[hn];rfl
    exact BI CW DU (AX (by have:=(BV hn).2.1;omega)) (BS (by omega) ⟨rfl,⟨({x with miss:=(n:Int)},i+1),inv.next ha hs⟩,hms,EE hr rfl,fun _ _ _ h=>h⟩)
   ·have hs:BA x a=none:=by unfold BA;rw[h];show(AV 2147483647 a.v.data.toList).map _=_;unfold AV;rw[hn];rfl
    exact BI (m:=0) CW DU (AX (by omega)) ⟨rfl,_,_,GD hr rfl,.inr ⟨inv.bad ha hs,rfl,rfl,rfl⟩⟩
  have hs:BA x a=none:=by
   unfold BA
   split<;>first|rfl|contradiction
  exact⟨rfl,_,_,GD hr rfl,.inr ⟨inv.bad ha hs,rfl,rfl,rfl⟩⟩
 ·exact⟨rfl,_,_,Wk.refl _ _ _ _,.inl ⟨x,inv.last (by omega),rfl,rfl,rfl⟩⟩
def oO(r:AJ):aF:=fun c n AB obs A E=>∃l:List At,l.length<=255/\c=AO Tryz.prog 158 5/\n=37/\AB=[.func (.func 173) ⟨[]⟩ ⟨[pA 101]⟩,dsl (CZ l),.int .i64 (Int.ofNat l.length),.int .i64 (0:Int)]/\obs=[some r,some (.cells [.int .i64 0,.int .u8 0,.slice none 0 0,.int .i64 0,.int .i64 0] 37 5 false true)]/\
 (∀x,run BA FK l=some x->A x.id (x.kind:Int) (rowsOf G7 x.keys) x.cap x.miss)/\(run BA FK l=none->E)
theorem ACV(r:AJ)(hr:C8 102 (some r)=true):BH Tryz.prog 100 [1,18,19,20] (tK (oO r)):=by
 show BH Tryz.prog 100 [1,18,19,20] (lpS [4] _)
 refine FW okp (W:=(AU Z0 Zp [(174,F7 160 (PX GJ G7))] [] [(142,sRN MRN)] [(28,23),(37,16),(14,10)])) (O1 (fun x hx=>by simp only[List.mem_singleton]at hx;subst hx;exact AFC) (EO TJ)) BN ?_
 intro c n AB obs K h
 split at h<;>try exact h.elim
 obtain⟨l,hl,hc,hn,hv,ho,hA,hE⟩:=h
 subst hc;subst hn;subst hv
 simp only[List.cons.injEq]at ho
 obtain⟨rfl,rfl⟩:=ho
 refine⟨StX BA FK l,2,300,fun p=>l.length-p.1.2,Z6 r l,fun _ e v o=>aO r l e v o,⟨(FK,0),⟨Nat.zero_le _,rfl⟩⟩,rfl,CQ (BR.refl _) (.cons (.refl _) (.cons (.cells (.cons (.refl _) (.cons (.refl _) (.cons .nilD (.cons (.refl _) (.cons (.refl _) (.nil))))))) .nil)),?_,ABn r hr l hl⟩
 intro e v o hR
 rcases hR with⟨x,h1,rfl,rfl,rfl⟩ | ⟨h1,rfl,rfl,rfl⟩
 ·exact hA x h1
 ·exact hE h1
def zU:AJ := .cells [.int .i64 0,.int .u8 0,.slice none 0 0,.int .i64 0,.int .i64 0] 37 5 false true
def AAc(q:Nat×DC):Value := .tuple ⟨[LP q.2,.int .i64 (q.1:Int)]⟩
theorem ADu(s:ByteArray):Is (qO (real Tryz.prog) MD (oO zU) s (fun v=>EI v (AAc (rdE BA FK s.data.toList)))):=by
 refine⟨?_⟩
 rw[qP]
 refine⟨fun h0=>CL _ (FY _) ⟨_,I7 _,rfl,rfl,rfl,rfl,fun x hx=>?_,fun hx=>?_⟩,fun h3=>?_,fun h4=>?_⟩
 ·rw[OJ h0 hx];exact EI.refl _
 ·rw[OI h0 hx];exact(.tup (.cons (.agg (.cons (.refl _) (.cons (.refl _) (.cons .nilD (.cons (.refl _) (.cons (.refl _) (.nil))))))) (BR.refl _)))
 ·rw[FX (by omega),h3];exact(.tup (.cons (.agg (.cons (.refl _) (.cons (.refl _) (.cons .nilD (.cons (.refl _) (.cons (.refl _) (.nil))))))) (BR.refl _)))
 ·rw[FX (by omega),h4];exact(.tup (.cons (.agg (.cons (.refl _) (.cons (.refl _) (.cons .nilD (.cons (.refl _) (.cons (.refl _) (.nil))))))) (BR.refl _)))
theorem ADv(s:ByteArray)(B:Base)(H:Heap):BP Tryz.prog 100 B 96 [.string s] H (.returned (AAc (rdE BA FK s.data.toList))) H:=
 OG (DI (EO OE)) (E9 (fun x hx=>by simp only[List.mem_singleton]at hx;subst hx;exact ACV zU rfl)) rfl rfl (ADu s) B H
def FM(x:CJ):AJ := .cells [.int .i64 x.tab,.string x.key,.string x.oth,.int .i64 x.len,.int .i64 x.prio,.int .i64 x.blk,dsl (rowsOf CS x.args),.int .i64 x.idle,.int .i64 x.hard,.int .u64 (x.cook:Int),.bool x.tell] 39 11 false true
def ZX(r:AJ)(l:List At)(p:StX AP FE l):Lv×Lo:=([.func (.func 180) ⟨[]⟩ ⟨[pA 101]⟩,dsl (CZ l),.int .i64 (l.length:Int),.int .i64 (p.1.2:Int)],[some r,some (FM p.1.1)])
def aJ(r:AJ)(l:List At)(e:Exit)(v:Lv)(o:Lo):Prop:=
 (∃x,run AP FE l=some x/\e = .exit 0/\v=[top]/\o=[some r,some (FM x)])∨(run AP FE l=none/\e = .ret/\v=[.int .i64 3]/\o=[some r,none])
theorem ABi(r:AJ)(hr:C8 102 (some r)=true)(l:List At)(hl:l.length<=255)(p:StX AP FE l):
  Is (wpe Tryz.prog (real Tryz.prog) (AU Z0 Zp [(182,F7 183 (PX ET CS))] [] [(142,sRN MRN)] [(28,23),(37,16),(14,10)]) 300 (.code false (AO Tryz.prog 158 5) (C9 100 37 [1,18,19,20] [] (ZX r l p))) (BM 100 [1,18,19,20] [4] 37 []
   (fun AB AL=>∃a':StX AP FE l,l.length-a'.1.2<l.length-p.1.2/\Wk 100 (100+2) AB AL (ZX r l a').1 (ZX r l a').2/\∀e v o,aJ r l e v o->aJ r l e v o)
   (fun e AB AL=>∃v o,Wk 100 (100+2) AB AL v o/\aJ r l e v o))):=by
 refine⟨?_⟩
 obtain⟨⟨x,i⟩,inv⟩:=p
 have hle:i<=l.length:=inv.le
 show iV (real Tryz.prog) (PX ET CS) MRN (some r) x.tab x.key x.oth x.len x.prio x.blk (rowsOf CS x.args) x.idle x.hard (x.cook:Int) x.tell (CZ l) (l.length:Int) (i:Int) _ _
 rw[mD]
 refine DW (fun hlt=>?_) (fun hge=>?_)
 ·have ha:l[i]?=some l[i]:=List.getElem?_eq_getElem hlt
  generalize l[i]=a at ha
  have hms:l.length-(i+1)<l.length-i:=by omega
  refine EG i rfl (GH ha) rfl (EN (z:=(a.t:Int)) rfl (JM (z:=a.v) rfl ?_))
  refine CG (d:=1) (fun h=>?_) (fun hn1=>?_)
  ·refine⟨2147483647,rfl,fun n hn=>?_,fun hn=>?_⟩
   ·have hs:AP x a=some {x with tab:=(n:Int)}:=by unfold AP;rw[h];show(AV 2147483647 a.v.data.toList).map _=_;unfold AV;rw[hn];rfl
    exact BI CW DU (AX (by have:=(BV hn).2.1;omega)) (BS (by omega) ⟨rfl,⟨({x with tab:=(n:Int)},i+1),inv.next ha hs⟩,hms,EE hr rfl,fun _ _ _ h=>h⟩)
   ·have hs:AP x a=none:=by unfold AP;rw[h];show(AV 2147483647 a.v.data.toList).map _=_;unfold AV;rw[hn];rfl
    exact BI (m:=0) CW DU (AX (by omega)) ⟨rfl,_,_,GD hr rfl,.inr ⟨inv.bad ha hs,rfl,rfl,rfl⟩⟩
  refine CG (d:=2) (fun h=>?_) (fun hn2=>?_)
  ·refine FQ (U6 (d:=32) (fun hb=>?_) (fun hg=>?_))
   ·have hs:AP x a=none:=by unfold AP;rw[h];show(R8 32 a.v.data.toList).map _=_;unfold R8;rw[if_neg (by omega)];rfl
    exact⟨rfl,_,_,GD hr rfl,.inr ⟨inv.bad ha hs,rfl,rfl,rfl⟩⟩
   ·have hs:AP x a=some {x with key:=a.v}:=by unfold AP;rw[h];show(R8 32 a.v.data.toList).map _=_;unfold R8;rw[if_pos hg,bytes_eta];rfl
    exact BS (by omega) ⟨rfl,⟨({x with key:=a.v},i+1),inv.next ha hs⟩,hms,EE hr rfl,fun _ _ _ h=>h⟩
  refine CG (d:=3) (fun h=>?_) (fun hn3=>?_)
  ·refine FQ (U6 (d:=32) (fun hb=>?_) (fun hg=>?_))
   ·have hs:AP x a=none:=by unfold AP;rw[h];show(R8 32 a.v.data.toList).map _=_;unfold R8;rw[if_neg (by omega)];rfl
    exact⟨rfl,_,_,GD hr rfl,.inr ⟨inv.bad ha hs,rfl,rfl,rfl⟩⟩
   ·have hs:AP x a=some {x with oth:=a.v}:=by unfold AP;rw[h];show(R8 32 a.v.data.toList).map _=_;unfold R8;rw[if_pos hg,bytes_eta];rfl
    exact BS (by omega) ⟨rfl,⟨({x with oth:=a.v},i+1),inv.next ha hs⟩,hms,EE hr rfl,fun _ _ _ h=>h⟩
  refine CG (d:=4) (fun h=>?_) (fun hn4=>?_)
  ·refine⟨2147483647,rfl,fun n hn=>?_,fun hn=>?_⟩
   ·have hs:AP x a=some {x with len:=(n:Int)}:=by unfold AP;rw[h];show(AV 2147483647 a.v.data.toList).map _=_;unfold AV;rw[hn];rfl
    exact BI CW DU (AX (by have:=(BV hn).2.1;omega)) (BS (by omega) ⟨rfl,⟨({x with len:=(n:Int)},i+1),inv.next ha hs⟩,hms,EE hr rfl,fun _ _ _ h=>h⟩)
   ·have hs:AP x a=none:=by unfold AP;rw[h];show(AV 2147483647 a.v.data.toList).map _=_;unfold AV;rw[hn];rfl
    exact BI (m:=0) CW DU (AX (by omega)) ⟨rfl,_,_,GD hr rfl,.inr ⟨inv.bad ha hs,rfl,rfl,rfl⟩⟩
  refine CG (d:=5) (fun h=>?_) (fun hn5=>?_)
  ·refine⟨2147483647,rfl,fun n hn=>?_,fun hn=>?_⟩
   ·have hs:AP x a=some {x with prio:=(n:Int)}:=by unfold AP;rw[h];show(AV 2147483647 a.v.data.toList).map _=_;unfold AV;rw[hn];rfl
    exact BI CW DU (AX (by have:=(BV hn).2.1;omega)) (BS (by omega) ⟨rfl,⟨({x with prio:=(n:Int)},i+1),inv.next ha hs⟩,hms,EE hr rfl,fun _ _ _ h=>h⟩)
   ·have hs:AP x a=none:=by unfold AP;rw[h];show(AV 2147483647 a.v.data.toList).map _=_;unfold AV;rw[hn];rfl
    exact BI (m:=0) CW DU (AX (by omega)) ⟨rfl,_,_,GD hr rfl,.inr ⟨inv.bad ha hs,rfl,rfl,rfl⟩⟩
  refine CG (d:=6) (fun h=>?_) (fun hn6=>?_)
  ·refine⟨2147483647,rfl,fun n hn=>?_,fun hn=>?_⟩
   ·have hs:AP x a=some {x with blk:=(n:Int)}:=by unfold AP;rw[h];show(AV 2147483647 a.v.data.toList).map _=_;unfold AV;rw[hn];rfl
    exact BI CW DU (AX (by have:=(BV hn).2.1;omega)) (BS (by omega) ⟨rfl,⟨({x with blk:=(n:Int)},i+1),inv.next ha hs⟩,hms,EE hr rfl,fun _ _ _ h=>h⟩)
   ·have hs:AP x a=none:=by unfold AP;rw[h];show(AV 2147483647 a.v.data.toList).map _=_;unfold AV;rw[hn];rfl
    exact BI (m:=0) CW DU (AX (by omega)) ⟨rfl,_,_,GD hr rfl,.inr ⟨inv.bad ha hs,rfl,rfl,rfl⟩⟩
  refine CG (d:=7) (fun h=>?_) (fun hn7=>?_)
  ·refine⟨4,rfl,by omega,fun v hv=>?_,fun hv v=>?_⟩
   ·have hs:AP x a=some {x with args:=v}:=by unfold AP;rw[h];show(D9 ET 4 a.v.data.toList).map _=_;rw[hv];rfl
    exact BS (by omega) ⟨rfl,⟨({x with args:=v},i+1),inv.next ha hs⟩,hms,EE hr rfl,fun _ _ _ h=>h⟩
   ·have hs:AP x a=none:=by unfold AP;rw[h];show(D9 ET 4 a.v.data.toList).map _=_;rw[hv];rfl
    exact⟨rfl,_,_,GD hr rfl,.inr ⟨inv.bad ha hs,rfl,rfl,rfl⟩⟩
  refine CG (d:=8) (fun h=>?_) (fun hn8=>?_)
  ·refine⟨9223372036854775807,rfl,fun n hn=>?_,fun hn=>?_⟩
   ·have hs:AP x a=some {x with idle:=(n:Int)}:=by unfold AP;rw[h];show(AV 9223372036854775807 a.v.data.toList).map _=_;unfold AV;rw[hn];rfl
    exact BI CW YD (AX (by have:=(BV hn).2.1;omega)) (BS (by omega) ⟨rfl,⟨({x with idle:=(n:Int)},i+1),inv.next ha hs⟩,hms,EE hr rfl,fun _ _ _ h=>h⟩)
   ·have hs:AP x a=none:=by unfold AP;rw[h];show(AV 9223372036854775807 a.v.data.toList).map _=_;unfold AV;rw[hn];rfl
    exact BI (m:=0) CW YD (AX (by omega)) ⟨rfl,_,_,GD hr rfl,.inr ⟨inv.bad ha hs,rfl,rfl,rfl⟩⟩
  refine CG (d:=9) (fun h=>?_) (fun hn9=>?_)
  ·refine⟨9223372036854775807,rfl,fun n hn=>?_,fun hn=>?_⟩
   ·have hs:AP x a=some {x with hard:=(n:Int)}:=by unfold AP;rw[h];show(AV 9223372036854775807 a.v.data.toList).map _=_;unfold AV;rw[hn];rfl
    exact BI CW YD (AX (by have:=(BV hn).2.1;omega)) (BS (by omega) ⟨rfl,⟨({x with hard:=(n:Int)},i+1),inv.next ha hs⟩,hms,EE hr rfl,fun _ _ _ h=>h⟩)
   ·have hs:AP x a=none:=by unfold AP;rw[h];show(AV 9223372036854775807 a.v.data.toList).map _=_;unfold AV;rw[hn];rfl
    exact BI (m:=0) CW YD (AX (by omega)) ⟨rfl,_,_,GD hr rfl,.inr ⟨inv.bad ha hs,rfl,rfl,rfl⟩⟩
  refine CG (d:=10) (fun h=>?_) (fun hn10=>?_)
  ·refine⟨18446744073709551615,rfl,fun n hn=>?_,fun hn=>?_⟩
   ·have hs:AP x a=some {x with cook:=n}:=by unfold AP;rw[h];show(DN 18446744073709551615 a.v.data.toList).map _=_;unfold DN;rw[hn];rfl
    exact BS (by omega) ⟨rfl,⟨({x with cook:=n},i+1),inv.next ha hs⟩,hms,EE hr rfl,fun _ _ _ h=>h⟩
   ·have hs:AP x a=none:=by unfold AP;rw[h];show(DN 18446744073709551615 a.v.data.toList).map _=_;unfold DN;rw[hn];rfl
    exact⟨rfl,_,_,GD hr rfl,.inr ⟨inv.bad ha hs,rfl,rfl,rfl⟩⟩
  refine CG (d:=11) (fun h=>?_) (fun hn11=>?_)
  ·refine⟨1,rfl,fun n hn=>?_,fun hn=>?_⟩
   ·have hs:AP x a=some {x with tell:=n==1}:=by unfold AP;rw[h];show(ZN a.v.data.toList).map _=_;unfold ZN;rw[hn];rfl
    refine CG (d:=1) (fun hb=>?_) (fun hb=>?_)
    ·rw[show(n==1)=true by simpa using hb]at hs
     exact BS (by omega) ⟨rfl,⟨({x with tell:=true},i+1),inv.next ha hs⟩,hms,EE hr rfl,fun _ _ _ h=>h⟩
    ·rw[show(n==1)=false by simpa using hb]at hs
     exact BS (by omega) ⟨rfl,⟨({x with tell:=false},i+1),inv.next ha hs⟩,hms,EE hr rfl,fun _ _ _ h=>h⟩
   ·have hs:AP x a=none:=by unfold AP;rw[h];show(ZN a.v.data.toList).map _=_;unfold ZN;rw[hn];rfl
    exact CG (m:=0) (d:=1) (fun hb=>absurd hb (by decide)) (fun _=>⟨rfl,_,_,GD hr rfl,.inr ⟨inv.bad ha hs,rfl,rfl,rfl⟩⟩)
  have hs:AP x a=none:=by
   unfold AP
   split<;>first|rfl|contradiction
  exact⟨rfl,_,_,GD hr rfl,.inr ⟨inv.bad ha hs,rfl,rfl,rfl⟩⟩
 ·exact⟨rfl,_,_,Wk.refl _ _ _ _,.inl ⟨x,inv.last (by omega),rfl,rfl,rfl⟩⟩
def oJ(r:AJ):Z9:=fun c n AB obs A E=>∃l:List At,l.length<=255/\c=AO Tryz.prog 158 5/\n=37/\AB=[.func (.func 180) ⟨[]⟩ ⟨[pA 101]⟩,dsl (CZ l),.int .i64 (Int.ofNat l.length),.int .i64 (0:Int)]/\obs=[some r,some (.cells [.int .i64 0,.string (bytesOf []),.string (bytesOf []),.int .i64 0,.int .i64 0,.int .i64 0,.slice none 0 0,.int .i64 0,.int .i64 0,.int .u64 0,.bool false] 39 11 false true)]/\
 (∀x,run AP FE l=some x->A x.tab x.key x.oth x.len x.prio x.blk (rowsOf CS x.args) x.idle x.hard (x.cook:Int) x.tell)/\(run AP FE l=none->E)
theorem ACQ(r:AJ)(hr:C8 102 (some r)=true):BH Tryz.prog 100 [1,18,19,20] (sZ (oJ r)):=by
 show BH Tryz.prog 100 [1,18,19,20] (lpS [4] _)
 refine FW okp (W:=(AU Z0 Zp [(182,F7 183 (PX ET CS))] [] [(142,sRN MRN)] [(28,23),(37,16),(14,10)])) (O1 (fun x hx=>by simp only[List.mem_singleton]at hx;subst hx;exact AFD) (EO TJ)) BN ?_
 intro c n AB obs K h
 split at h<;>try exact h.elim
 obtain⟨l,hl,hc,hn,hv,ho,hA,hE⟩:=h
 subst hc;subst hn;subst hv
 simp only[List.cons.injEq]at ho
 obtain⟨rfl,rfl⟩:=ho
 refine⟨StX AP FE l,2,300,fun p=>l.length-p.1.2,ZX r l,fun _ e v o=>aJ r l e v o,⟨(FE,0),⟨Nat.zero_le _,rfl⟩⟩,rfl,CQ (BR.refl _) (.cons (.refl _) (.cons (.cells (.cons (.refl _) (.cons (.refl _) (.cons (.refl _) (.cons (.refl _) (.cons (.refl _) (.cons (.refl _) (.cons .nilD (.cons (.refl _) (.cons (.refl _) (.cons (.refl _) (.cons (.refl _) (.nil))))))))))))) .nil)),?_,ABi r hr l hl⟩
 intro e v o hR
 rcases hR with⟨x,h1,rfl,rfl,rfl⟩ | ⟨h1,rfl,rfl,rfl⟩
 ·exact hA x h1
 ·exact hE h1
def zQ:AJ := .cells [.int .i64 0,.string (bytesOf []),.string (bytesOf []),.int .i64 0,.int .i64 0,.int .i64 0,.slice none 0 0,.int .i64 0,.int .i64 0,.int .u64 0,.bool false] 39 11 false true
def zY(q:Nat×CJ):Value := .tuple ⟨[LB q.2,.int .i64 (q.1:Int)]⟩
theorem ADm(s:ByteArray):Is (qA (real Tryz.prog) MD (oJ zQ) s (fun v=>EI v (zY (rdE AP FE s.data.toList)))):=by
 refine⟨?_⟩
 rw[qB]
 refine⟨fun h0=>CL _ (FY _) ⟨_,I7 _,rfl,rfl,rfl,rfl,fun x hx=>?_,fun hx=>?_⟩,fun h3=>?_,fun h4=>?_⟩
 ·rw[OJ h0 hx];exact EI.refl _
 ·rw[OI h0 hx];exact(.tup (.cons (.agg (.cons (.refl _) (.cons (.refl _) (.cons (.refl _) (.cons (.refl _) (.cons (.refl _) (.cons (.refl _) (.cons .nilD (.cons (.refl _) (.cons (.refl _) (.cons (.refl _) (.cons (.refl _) (.nil))))))))))))) (BR.refl _)))
 ·rw[FX (by omega),h3];exact(.tup (.cons (.agg (.cons (.refl _) (.cons (.refl _) (.cons (.refl _) (.cons (.refl _) (.cons (.refl _) (.cons (.refl _) (.cons .nilD (.cons (.refl _) (.cons (.refl _) (.cons (.refl _) (.cons (.refl _) (.nil))))))))))))) (BR.refl _)))
 ·rw[FX (by omega),h4];exact(.tup (.cons (.agg (.cons (.refl _) (.cons (.refl _) (.cons (.refl _) (.cons (.refl _) (.cons (.refl _) (.cons (.refl _) (.cons .nilD (.cons (.refl _) (.cons (.refl _) (.cons (.refl _) (.cons (.refl _) (.nil))))))))))))) (BR.refl _)))
theorem ADn(s:ByteArray)(B:Base)(H:Heap):BP Tryz.prog 100 B 100 [.string s] H (.returned (zY (rdE AP FE s.data.toList))) H:=
 OG (DI (EO OE)) (E9 (fun x hx=>by simp only[List.mem_singleton]at hx;subst hx;exact ACQ zQ rfl)) rfl rfl (ADm s) B H
def FL(x:D6):AJ := .cells [.int .i64 x.id,dsl (rowsOf CO x.code)] 42 2 false true
def ZW(r:AJ)(l:List At)(p:StX stepBlock FD l):Lv×Lo:=([.func (.func 191) ⟨[]⟩ ⟨[pA 101]⟩,dsl (CZ l),.int .i64 (l.length:Int),.int .i64 (p.1.2:Int)],[some r,some (FL p.1.1)])
def aI(r:AJ)(l:List At)(e:Exit)(v:Lv)(o:Lo):Prop:=
 (∃x,run stepBlock FD l=some x/\e = .exit 0/\v=[top]/\o=[some r,some (FL x)])∨(run stepBlock FD l=none/\e = .ret/\v=[.int .i64 3]/\o=[some r,none])
theorem ABh(r:AJ)(hr:C8 102 (some r)=true)(l:List At)(hl:l.length<=255)(p:StX stepBlock FD l):
  Is (wpe Tryz.prog (real Tryz.prog) (AU Z0 Zp [(192,F7 193 (PX DV CO))] [] [(142,sRN MRN)] [(28,23),(37,16),(14,10)]) 300 (.code false (AO Tryz.prog 158 5) (C9 100 37 [1,18,19,20] [] (ZW r l p))) (BM 100 [1,18,19,20] [4] 37 []
   (fun AB AL=>∃a':StX stepBlock FD l,l.length-a'.1.2<l.length-p.1.2/\Wk 100 (100+2) AB AL (ZW r l a').1 (ZW r l a').2/\∀e v o,aI r l e v o->aI r l e v o)
   (fun e AB AL=>∃v o,Wk 100 (100+2) AB AL v o/\aI r l e v o))):=by
 refine⟨?_⟩
 obtain⟨⟨x,i⟩,inv⟩:=p
 have hle:i<=l.length:=inv.le
 show iT (real Tryz.prog) (PX DV CO) MRN (some r) x.id (rowsOf CO x.code) (CZ l) (l.length:Int) (i:Int) _ _
 rw[l6]
 refine DW (fun hlt=>?_) (fun hge=>?_)
 ·have ha:l[i]?=some l[i]:=List.getElem?_eq_getElem hlt
  generalize l[i]=a at ha
  have hms:l.length-(i+1)<l.length-i:=by omega
  refine EG i rfl (GH ha) rfl (EN (z:=(a.t:Int)) rfl (JM (z:=a.v) rfl ?_))
  refine CG (d:=1) (fun h=>?_) (fun hn1=>?_)
  ·refine⟨2147483647,rfl,fun n hn=>?_,fun hn=>?_⟩
   ·have hs:stepBlock x a=some {x with id:=(n:Int)}:=by unfold stepBlock;rw[h];show(AV 2147483647 a.v.data.toList).map _=_;unfold AV;rw[hn];rfl
    exact BI CW DU (AX (by have:=(BV hn).2.1;omega)) (BS (by omega) ⟨rfl,⟨({x with id:=(n:Int)},i+1),inv.next ha hs⟩,hms,EE hr rfl,fun _ _ _ h=>h⟩)
   ·have hs:stepBlock x a=none:=by unfold stepBlock;rw[h];show(AV 2147483647 a.v.data.toList).map _=_;unfold AV;rw[hn];rfl
    exact BI (m:=0) CW DU (AX (by omega)) ⟨rfl,_,_,GD hr rfl,.inr ⟨inv.bad ha hs,rfl,rfl,rfl⟩⟩
  refine CG (d:=2) (fun h=>?_) (fun hn2=>?_)
  ·refine⟨32,rfl,by omega,fun v hv=>?_,fun hv v=>?_⟩
   ·have hs:stepBlock x a=some {x with code:=v}:=by unfold stepBlock;rw[h];show(D9 DV 32 a.v.data.toList).map _=_;rw[hv];rfl
    exact BS (by omega) ⟨rfl,⟨({x with code:=v},i+1),inv.next ha hs⟩,hms,EE hr rfl,fun _ _ _ h=>h⟩
   ·have hs:stepBlock x a=none:=by unfold stepBlock;rw[h];show(D9 DV 32 a.v.data.toList).map _=_;rw[hv];rfl
    exact⟨rfl,_,_,GD hr rfl,.inr ⟨inv.bad ha hs,rfl,rfl,rfl⟩⟩
  have hs:stepBlock x a=none:=by
   unfold stepBlock
   split<;>first|rfl|contradiction
  exact⟨rfl,_,_,GD hr rfl,.inr ⟨inv.bad ha hs,rfl,rfl,rfl⟩⟩
 ·exact⟨rfl,_,_,Wk.refl _ _ _ _,.inl ⟨x,inv.last (by omega),rfl,rfl,rfl⟩⟩
def oI(r:AJ):Z8:=fun c n AB obs A E=>∃l:List At,l.length<=255/\c=AO Tryz.prog 158 5/\n=37/\AB=[.func (.func 191) ⟨[]⟩ ⟨[pA 101]⟩,dsl (CZ l),.int .i64 (Int.ofNat l.length),.int .i64 (0:Int)]/\obs=[some r,some (.cells [.int .i64 0,.slice none 0 0] 42 2 false true)]/\
 (∀x,run stepBlock FD l=some x->A x.id (rowsOf CO x.code))/\(run stepBlock FD l=none->E)
theorem ACP(r:AJ)(hr:C8 102 (some r)=true):BH Tryz.prog 100 [1,18,19,20] (sW (oI r)):=by
 show BH Tryz.prog 100 [1,18,19,20] (lpS [4] _)
 refine FW okp (W:=(AU Z0 Zp [(192,F7 193 (PX DV CO))] [] [(142,sRN MRN)] [(28,23),(37,16),(14,10)])) (O1 (fun x hx=>by simp only[List.mem_singleton]at hx;subst hx;exact AA6) (EO TJ)) BN ?_
 intro c n AB obs K h
 split at h<;>try exact h.elim
 obtain⟨l,hl,hc,hn,hv,ho,hA,hE⟩:=h
 subst hc;subst hn;subst hv
 simp only[List.cons.injEq]at ho
 obtain⟨rfl,rfl⟩:=ho
 refine⟨StX stepBlock FD l,2,300,fun p=>l.length-p.1.2,ZW r l,fun _ e v o=>aI r l e v o,⟨(FD,0),⟨Nat.zero_le _,rfl⟩⟩,rfl,CQ (BR.refl _) (.cons (.refl _) (.cons (.cells (.cons (.refl _) (.cons .nilD (.nil)))) .nil)),?_,ABh r hr l hl⟩
 intro e v o hR
 rcases hR with⟨x,h1,rfl,rfl,rfl⟩ | ⟨h1,rfl,rfl,rfl⟩
 ·exact hA x h1
 ·exact hE h1
def zP:AJ := .cells [.int .i64 0,.slice none 0 0] 42 2 false true
def zX(q:Nat×D6):Value := .tuple ⟨[LA q.2,.int .i64 (q.1:Int)]⟩
theorem ADj(s:ByteArray):Is (pY (real Tryz.prog) MD (oI zP) s (fun v=>EI v (zX (rdE stepBlock FD s.data.toList)))):=by
 refine⟨?_⟩
 rw[p9]
 refine⟨fun h0=>CL _ (FY _) ⟨_,I7 _,rfl,rfl,rfl,rfl,fun x hx=>?_,fun hx=>?_⟩,fun h3=>?_,fun h4=>?_⟩
 ·rw[OJ h0 hx];exact EI.refl _
 ·rw[OI h0 hx];exact(.tup (.cons (.agg (.cons (.refl _) (.cons .nilD (.nil)))) (BR.refl _)))
 ·rw[FX (by omega),h3];exact(.tup (.cons (.agg (.cons (.refl _) (.cons .nilD (.nil)))) (BR.refl _)))
 ·rw[FX (by omega),h4];exact(.tup (.cons (.agg (.cons (.refl _) (.cons .nilD (.nil)))) (BR.refl _)))
theorem ADk(s:ByteArray)(B:Base)(H:Heap):BP Tryz.prog 100 B 104 [.string s] H (.returned (zX (rdE stepBlock FD s.data.toList))) H:=
 OG (DI (EO OE)) (E9 (fun x hx=>by simp only[List.mem_singleton]at hx;subst hx;exact ACP zP rfl)) rfl rfl (ADj s) B H
def FN(x:DL):AJ := .cells [.int .i64 x.id,.int .u8 (x.kind:Int),.int .i64 x.fld,dsl (rowsOf CF x.bks)] 45 4 false true
def ZZ(r:AJ)(l:List At)(p:StX BF FI l):Lv×Lo:=([.func (.func 199) ⟨[]⟩ ⟨[pA 101]⟩,dsl (CZ l),.int .i64 (l.length:Int),.int .i64 (p.1.2:Int)],[some r,some (FN p.1.1)])
def aL(r:AJ)(l:List At)(e:Exit)(v:Lv)(o:Lo):Prop:=
 (∃x,run BF FI l=some x/\e = .exit 0/\v=[top]/\o=[some r,some (FN x)])∨(run BF FI l=none/\e = .ret/\v=[.int .i64 3]/\o=[some r,none])
theorem ABk(r:AJ)(hr:C8 102 (some r)=true)(l:List At)(hl:l.length<=255)(p:StX BF FI l):
  Is (wpe Tryz.prog (real Tryz.prog) (AU Z0 Zp [(200,F7 201 (PX CX CF))] [] [(142,sRN MRN)] [(28,23),(37,16),(14,10)]) 300 (.code false (AO Tryz.prog 158 5) (C9 100 37 [1,18,19,20] [] (ZZ r l p))) (BM 100 [1,18,19,20] [4] 37 []
   (fun AB AL=>∃a':StX BF FI l,l.length-a'.1.2<l.length-p.1.2/\Wk 100 (100+2) AB AL (ZZ r l a').1 (ZZ r l a').2/\∀e v o,aL r l e v o->aL r l e v o)
   (fun e AB AL=>∃v o,Wk 100 (100+2) AB AL v o/\aL r l e v o))):=by
 refine⟨?_⟩
 obtain⟨⟨x,i⟩,inv⟩:=p
 have hle:i<=l.length:=inv.le
 show iX (real Tryz.prog) (PX CX CF) MRN (some r) x.id (x.kind:Int) x.fld (rowsOf CF x.bks) (CZ l) (l.length:Int) (i:Int) _ _
 rw[mF]
 refine DW (fun hlt=>?_) (fun hge=>?_)
 ·have ha:l[i]?=some l[i]:=List.getElem?_eq_getElem hlt
  generalize l[i]=a at ha
  have hms:l.length-(i+1)<l.length-i:=by omega
  refine EG i rfl (GH ha) rfl (EN (z:=(a.t:Int)) rfl (JM (z:=a.v) rfl ?_))
  refine CG (d:=1) (fun h=>?_) (fun hn1=>?_)
  ·refine⟨2147483647,rfl,fun n hn=>?_,fun hn=>?_⟩
   ·have hs:BF x a=some {x with id:=(n:Int)}:=by unfold BF;rw[h];show(AV 2147483647 a.v.data.toList).map _=_;unfold AV;rw[hn];rfl
    exact BI CW DU (AX (by have:=(BV hn).2.1;omega)) (BS (by omega) ⟨rfl,⟨({x with id:=(n:Int)},i+1),inv.next ha hs⟩,hms,EE hr rfl,fun _ _ _ h=>h⟩)
   ·have hs:BF x a=none:=by unfold BF;rw[h];show(AV 2147483647 a.v.data.toList).map _=_;unfold AV;rw[hn];rfl
    exact BI (m:=0) CW DU (AX (by omega)) ⟨rfl,_,_,GD hr rfl,.inr ⟨inv.bad ha hs,rfl,rfl,rfl⟩⟩
  refine CG (d:=2) (fun h=>?_) (fun hn2=>?_)
  ·refine⟨255,rfl,fun n hn=>?_,fun hn=>?_⟩
   ·have hs:BF x a=some {x with kind:=n}:=by unfold BF;rw[h];show(DN 255 a.v.data.toList).map _=_;unfold DN;rw[hn];rfl
    exact BI CW uU8 (KU (by have:=(BV hn).2.1;omega)) (BS (by omega) ⟨rfl,⟨({x with kind:=n},i+1),inv.next ha hs⟩,hms,EE hr rfl,fun _ _ _ h=>h⟩)
   ·have hs:BF x a=none:=by unfold BF;rw[h];show(DN 255 a.v.data.toList).map _=_;unfold DN;rw[hn];rfl
    exact BI (m:=0) CW uU8 (KU (by omega)) ⟨rfl,_,_,GD hr rfl,.inr ⟨inv.bad ha hs,rfl,rfl,rfl⟩⟩
  refine CG (d:=3) (fun h=>?_) (fun hn3=>?_)
  ·refine⟨2147483647,rfl,fun n hn=>?_,fun hn=>?_⟩
   ·have hs:BF x a=some {x with fld:=(n:Int)}:=by unfold BF;rw[h];show(AV 2147483647 a.v.data.toList).map _=_;unfold AV;rw[hn];rfl
    exact BI CW DU (AX (by have:=(BV hn).2.1;omega)) (BS (by omega) ⟨rfl,⟨({x with fld:=(n:Int)},i+1),inv.next ha hs⟩,hms,EE hr rfl,fun _ _ _ h=>h⟩)
   ·have hs:BF x a=none:=by unfold BF;rw[h];show(AV 2147483647 a.v.data.toList).map _=_;unfold AV;rw[hn];rfl
    exact BI (m:=0) CW DU (AX (by omega)) ⟨rfl,_,_,GD hr rfl,.inr ⟨inv.bad ha hs,rfl,rfl,rfl⟩⟩
  refine CG (d:=4) (fun h=>?_) (fun hn4=>?_)
  ·refine⟨16,rfl,by omega,fun v hv=>?_,fun hv v=>?_⟩
   ·have hs:BF x a=some {x with bks:=v}:=by unfold BF;rw[h];show(D9 CX 16 a.v.data.toList).map _=_;rw[hv];rfl
    exact BS (by omega) ⟨rfl,⟨({x with bks:=v},i+1),inv.next ha hs⟩,hms,EE hr rfl,fun _ _ _ h=>h⟩
   ·have hs:BF x a=none:=by unfold BF;rw[h];show(D9 CX 16 a.v.data.toList).map _=_;rw[hv];rfl
    exact⟨rfl,_,_,GD hr rfl,.inr ⟨inv.bad ha hs,rfl,rfl,rfl⟩⟩
  have hs:BF x a=none:=by
   unfold BF
   split<;>first|rfl|contradiction
  exact⟨rfl,_,_,GD hr rfl,.inr ⟨inv.bad ha hs,rfl,rfl,rfl⟩⟩
 ·exact⟨rfl,_,_,Wk.refl _ _ _ _,.inl ⟨x,inv.last (by omega),rfl,rfl,rfl⟩⟩
def oL(r:AJ):aB:=fun c n AB obs A E=>∃l:List At,l.length<=255/\c=AO Tryz.prog 158 5/\n=37/\AB=[.func (.func 199) ⟨[]⟩ ⟨[pA 101]⟩,dsl (CZ l),.int .i64 (Int.ofNat l.length),.int .i64 (0:Int)]/\obs=[some r,some (.cells [.int .i64 0,.int .u8 0,.int .i64 0,.slice none 0 0] 45 4 false true)]/\
 (∀x,run BF FI l=some x->A x.id (x.kind:Int) x.fld (rowsOf CF x.bks))/\(run BF FI l=none->E)
theorem ACS(r:AJ)(hr:C8 102 (some r)=true):BH Tryz.prog 100 [1,18,19,20] (tF (oL r)):=by
 show BH Tryz.prog 100 [1,18,19,20] (lpS [4] _)
 refine FW okp (W:=(AU Z0 Zp [(200,F7 201 (PX CX CF))] [] [(142,sRN MRN)] [(28,23),(37,16),(14,10)])) (O1 (fun x hx=>by simp only[List.mem_singleton]at hx;subst hx;exact vW) (EO TJ)) BN ?_
 intro c n AB obs K h
 split at h<;>try exact h.elim
 obtain⟨l,hl,hc,hn,hv,ho,hA,hE⟩:=h
 subst hc;subst hn;subst hv
 simp only[List.cons.injEq]at ho
 obtain⟨rfl,rfl⟩:=ho
 refine⟨StX BF FI l,2,300,fun p=>l.length-p.1.2,ZZ r l,fun _ e v o=>aL r l e v o,⟨(FI,0),⟨Nat.zero_le _,rfl⟩⟩,rfl,CQ (BR.refl _) (.cons (.refl _) (.cons (.cells (.cons (.refl _) (.cons (.refl _) (.cons (.refl _) (.cons .nilD (.nil)))))) .nil)),?_,ABk r hr l hl⟩
 intro e v o hR
 rcases hR with⟨x,h1,rfl,rfl,rfl⟩ | ⟨h1,rfl,rfl,rfl⟩
 ·exact hA x h1
 ·exact hE h1
def zS:AJ := .cells [.int .i64 0,.int .u8 0,.int .i64 0,.slice none 0 0] 45 4 false true
def AAa(q:Nat×DL):Value := .tuple ⟨[LH q.2,.int .i64 (q.1:Int)]⟩
theorem ADq(s:ByteArray):Is (qE (real Tryz.prog) MD (oL zS) s (fun v=>EI v (AAa (rdE BF FI s.data.toList)))):=by
 refine⟨?_⟩
 rw[qF]
 refine⟨fun h0=>CL _ (FY _) ⟨_,I7 _,rfl,rfl,rfl,rfl,fun x hx=>?_,fun hx=>?_⟩,fun h3=>?_,fun h4=>?_⟩
 ·rw[OJ h0 hx];exact EI.refl _
 ·rw[OI h0 hx];exact(.tup (.cons (.agg (.cons (.refl _) (.cons (.refl _) (.cons (.refl _) (.cons .nilD (.nil)))))) (BR.refl _)))
 ·rw[FX (by omega),h3];exact(.tup (.cons (.agg (.cons (.refl _) (.cons (.refl _) (.cons (.refl _) (.cons .nilD (.nil)))))) (BR.refl _)))
 ·rw[FX (by omega),h4];exact(.tup (.cons (.agg (.cons (.refl _) (.cons (.refl _) (.cons (.refl _) (.cons .nilD (.nil)))))) (BR.refl _)))
theorem ADr(s:ByteArray)(B:Base)(H:Heap):BP Tryz.prog 100 B 108 [.string s] H (.returned (AAa (rdE BF FI s.data.toList))) H:=
 OG (DI (EO OE)) (E9 (fun x hx=>by simp only[List.mem_singleton]at hx;subst hx;exact ACS zS rfl)) rfl rfl (ADq s) B H
def AAi(x:EQ):AJ := .cells [.int .i64 x.id,.int .i64 x.rate,.int .i64 x.burst] 47 3 false true
def Z5(r:AJ)(l:List At)(p:StX BL FJ l):Lv×Lo:=([.func (.func 205) ⟨[]⟩ ⟨[pA 101]⟩,dsl (CZ l),.int .i64 (l.length:Int),.int .i64 (p.1.2:Int)],[some r,some (AAi p.1.1)])
def aN(r:AJ)(l:List At)(e:Exit)(v:Lv)(o:Lo):Prop:=
 (∃x,run BL FJ l=some x/\e = .exit 0/\v=[top]/\o=[some r,some (AAi x)])∨(run BL FJ l=none/\e = .ret/\v=[.int .i64 3]/\o=[some r,none])
theorem ABm(r:AJ)(hr:C8 102 (some r)=true)(l:List At)(hl:l.length<=255)(p:StX BL FJ l):
  Is (wpe Tryz.prog (real Tryz.prog) (AU Z0 Zp [] [] [(142,sRN MRN)] [(28,23),(37,16),(14,10)]) 300 (.code false (AO Tryz.prog 158 5) (C9 100 37 [1,18,19,20] [] (Z5 r l p))) (BM 100 [1,18,19,20] [4] 37 []
   (fun AB AL=>∃a':StX BL FJ l,l.length-a'.1.2<l.length-p.1.2/\Wk 100 (100+2) AB AL (Z5 r l a').1 (Z5 r l a').2/\∀e v o,aN r l e v o->aN r l e v o)
   (fun e AB AL=>∃v o,Wk 100 (100+2) AB AL v o/\aN r l e v o))):=by
 refine⟨?_⟩
 obtain⟨⟨x,i⟩,inv⟩:=p
 have hle:i<=l.length:=inv.le
 show iZ (real Tryz.prog) MRN (some r) x.id x.rate x.burst (CZ l) (l.length:Int) (i:Int) _ _
 rw[mH]
 refine DW (fun hlt=>?_) (fun hge=>?_)
 ·have ha:l[i]?=some l[i]:=List.getElem?_eq_getElem hlt
  generalize l[i]=a at ha
  have hms:l.length-(i+1)<l.length-i:=by omega
  refine EG i rfl (GH ha) rfl (EN (z:=(a.t:Int)) rfl (JM (z:=a.v) rfl ?_))
  refine CG (d:=1) (fun h=>?_) (fun hn1=>?_)
  ·refine⟨2147483647,rfl,fun n hn=>?_,fun hn=>?_⟩
   ·have hs:BL x a=some {x with id:=(n:Int)}:=by unfold BL;rw[h];show(AV 2147483647 a.v.data.toList).map _=_;unfold AV;rw[hn];rfl
    exact BI CW DU (AX (by have:=(BV hn).2.1;omega)) (BS (by omega) ⟨rfl,⟨({x with id:=(n:Int)},i+1),inv.next ha hs⟩,hms,EE hr rfl,fun _ _ _ h=>h⟩)
   ·have hs:BL x a=none:=by unfold BL;rw[h];show(AV 2147483647 a.v.data.toList).map _=_;unfold AV;rw[hn];rfl
    exact BI (m:=0) CW DU (AX (by omega)) ⟨rfl,_,_,GD hr rfl,.inr ⟨inv.bad ha hs,rfl,rfl,rfl⟩⟩
  refine CG (d:=2) (fun h=>?_) (fun hn2=>?_)
  ·refine⟨9223372036854775807,rfl,fun n hn=>?_,fun hn=>?_⟩
   ·have hs:BL x a=some {x with rate:=(n:Int)}:=by unfold BL;rw[h];show(AV 9223372036854775807 a.v.data.toList).map _=_;unfold AV;rw[hn];rfl
    exact BI CW YD (AX (by have:=(BV hn).2.1;omega)) (BS (by omega) ⟨rfl,⟨({x with rate:=(n:Int)},i+1),inv.next ha hs⟩,hms,EE hr rfl,fun _ _ _ h=>h⟩)
   ·have hs:BL x a=none:=by unfold BL;rw[h];show(AV 9223372036854775807 a.v.data.toList).map _=_;unfold AV;rw[hn];rfl
    exact BI (m:=0) CW YD (AX (by omega)) ⟨rfl,_,_,GD hr rfl,.inr ⟨inv.bad ha hs,rfl,rfl,rfl⟩⟩
  refine CG (d:=3) (fun h=>?_) (fun hn3=>?_)
  ·refine⟨9223372036854775807,rfl,fun n hn=>?_,fun hn=>?_⟩
   ·have hs:BL x a=some {x with burst:=(n:Int)}:=by unfold BL;rw[h];show(AV 9223372036854775807 a.v.data.toList).map _=_;unfold AV;rw[hn];rfl
    exact BI CW YD (AX (by have:=(BV hn).2.1;omega)) (BS (by omega) ⟨rfl,⟨({x with burst:=(n:Int)},i+1),inv.next ha hs⟩,hms,EE hr rfl,fun _ _ _ h=>h⟩)
   ·have hs:BL x a=none:=by unfold BL;rw[h];show(AV 9223372036854775807 a.v.data.toList).map _=_;unfold AV;rw[hn];rfl
    exact BI (m:=0) CW YD (AX (by omega)) ⟨rfl,_,_,GD hr rfl,.inr ⟨inv.bad ha hs,rfl,rfl,rfl⟩⟩
  have hs:BL x a=none:=by
   unfold BL
   split<;>first|rfl|contradiction
  exact⟨rfl,_,_,GD hr rfl,.inr ⟨inv.bad ha hs,rfl,rfl,rfl⟩⟩
 ·exact⟨rfl,_,_,Wk.refl _ _ _ _,.inl ⟨x,inv.last (by omega),rfl,rfl,rfl⟩⟩
def oN(r:AJ):aD:=fun c n AB obs A E=>∃l:List At,l.length<=255/\c=AO Tryz.prog 158 5/\n=37/\AB=[.func (.func 205) ⟨[]⟩ ⟨[pA 101]⟩,dsl (CZ l),.int .i64 (Int.ofNat l.length),.int .i64 (0:Int)]/\obs=[some r,some (.cells [.int .i64 0,.int .i64 0,.int .i64 0] 47 3 false true)]/\
 (∀x,run BL FJ l=some x->A x.id x.rate x.burst)/\(run BL FJ l=none->E)
theorem ACU(r:AJ)(hr:C8 102 (some r)=true):BH Tryz.prog 100 [1,18,19,20] (tJ (oN r)):=by
 show BH Tryz.prog 100 [1,18,19,20] (lpS [4] _)
 refine FW okp (W:=(AU Z0 Zp [] [] [(142,sRN MRN)] [(28,23),(37,16),(14,10)])) (DI (EO TJ)) BN ?_
 intro c n AB obs K h
 split at h<;>try exact h.elim
 obtain⟨l,hl,hc,hn,hv,ho,hA,hE⟩:=h
 subst hc;subst hn;subst hv
 simp only[List.cons.injEq]at ho
 obtain⟨rfl,rfl⟩:=ho
 refine⟨StX BL FJ l,2,300,fun p=>l.length-p.1.2,Z5 r l,fun _ e v o=>aN r l e v o,⟨(FJ,0),⟨Nat.zero_le _,rfl⟩⟩,rfl,Wk.refl _ _ _ _,?_,ABm r hr l hl⟩
 intro e v o hR
 rcases hR with⟨x,h1,rfl,rfl,rfl⟩ | ⟨h1,rfl,rfl,rfl⟩
 ·exact hA x h1
 ·exact hE h1
def zT:AJ := .cells [.int .i64 0,.int .i64 0,.int .i64 0] 47 3 false true
def AAb(q:Nat×EQ):Value := .tuple ⟨[LM q.2,.int .i64 (q.1:Int)]⟩
theorem ADs(s:ByteArray):Is (qI (real Tryz.prog) MD (oN zT) s (fun v=>EI v (AAb (rdE BL FJ s.data.toList)))):=by
 refine⟨?_⟩
 rw[qJ]
 refine⟨fun h0=>CL _ (FY _) ⟨_,I7 _,rfl,rfl,rfl,rfl,fun x hx=>?_,fun hx=>?_⟩,fun h3=>?_,fun h4=>?_⟩
 ·rw[OJ h0 hx];exact EI.refl _
 ·rw[OI h0 hx];exact(EI.refl _)
 ·rw[FX (by omega),h3];exact(EI.refl _)
 ·rw[FX (by omega),h4];exact(EI.refl _)
theorem ADt(s:ByteArray)(B:Base)(H:Heap):BP Tryz.prog 100 B 112 [.string s] H (.returned (AAb (rdE BL FJ s.data.toList))) H:=
 OG (DI (EO OE)) (E9 (fun x hx=>by simp only[List.mem_singleton]at hx;subst hx;exact ACU zT rfl)) rfl rfl (ADs s) B H
def AEc(x:GR):AJ := .cells [.int .i64 x.id,.int .i64 x.size] 49 2 false true
def kM(r:AJ)(l:List At)(p:StX CB GU l):Lv×Lo:=([.func (.func 209) ⟨[]⟩ ⟨[pA 101]⟩,dsl (CZ l),.int .i64 (l.length:Int),.int .i64 (p.1.2:Int)],[some r,some (AEc p.1.1)])
def kV(r:AJ)(l:List At)(e:Exit)(v:Lv)(o:Lo):Prop:=
 (∃x,run CB GU l=some x/\e = .exit 0/\v=[top]/\o=[some r,some (AEc x)])∨(run CB GU l=none/\e = .ret/\v=[.int .i64 3]/\o=[some r,none])
theorem ADy(r:AJ)(hr:C8 102 (some r)=true)(l:List At)(hl:l.length<=255)(p:StX CB GU l):
  Is (wpe Tryz.prog (real Tryz.prog) (AU Z0 Zp [] [] [(142,sRN MRN)] [(28,23),(37,16),(14,10)]) 300 (.code false (AO Tryz.prog 158 5) (C9 100 37 [1,18,19,20] [] (kM r l p))) (BM 100 [1,18,19,20] [4] 37 []
   (fun AB AL=>∃a':StX CB GU l,l.length-a'.1.2<l.length-p.1.2/\Wk 100 (100+2) AB AL (kM r l a').1 (kM r l a').2/\∀e v o,kV r l e v o->kV r l e v o)
   (fun e AB AL=>∃v o,Wk 100 (100+2) AB AL v o/\kV r l e v o))):=by
 refine⟨?_⟩
 obtain⟨⟨x,i⟩,inv⟩:=p
 have hle:i<=l.length:=inv.le
 show qM (real Tryz.prog) MRN (some r) x.id x.size (CZ l) (l.length:Int) (i:Int) _ _
 rw[qN]
 refine DW (fun hlt=>?_) (fun hge=>?_)
 ·have ha:l[i]?=some l[i]:=List.getElem?_eq_getElem hlt
  generalize l[i]=a at ha
  have hms:l.length-(i+1)<l.length-i:=by omega
  refine EG i rfl (GH ha) rfl (EN (z:=(a.t:Int)) rfl (JM (z:=a.v) rfl ?_))
  refine CG (d:=1) (fun h=>?_) (fun hn1=>?_)
  ·refine⟨2147483647,rfl,fun n hn=>?_,fun hn=>?_⟩
   ·have hs:CB x a=some {x with id:=(n:Int)}:=by unfold CB;rw[h];show(AV 2147483647 a.v.data.toList).map _=_;unfold AV;rw[hn];rfl
    exact BI CW DU (AX (by have:=(BV hn).2.1;omega)) (BS (by omega) ⟨rfl,⟨({x with id:=(n:Int)},i+1),inv.next ha hs⟩,hms,EE hr rfl,fun _ _ _ h=>h⟩)
   ·have hs:CB x a=none:=by unfold CB;rw[h];show(AV 2147483647 a.v.data.toList).map _=_;unfold AV;rw[hn];rfl
    exact BI (m:=0) CW DU (AX (by omega)) ⟨rfl,_,_,GD hr rfl,.inr ⟨inv.bad ha hs,rfl,rfl,rfl⟩⟩
  refine CG (d:=2) (fun h=>?_) (fun hn2=>?_)
  ·refine⟨2147483647,rfl,fun n hn=>?_,fun hn=>?_⟩
   ·have hs:CB x a=some {x with size:=(n:Int)}:=by unfold CB;rw[h];show(AV 2147483647 a.v.data.toList).map _=_;unfold AV;rw[hn];rfl
    exact BI CW DU (AX (by have:=(BV hn).2.1;omega)) (BS (by omega) ⟨rfl,⟨({x with size:=(n:Int)},i+1),inv.next ha hs⟩,hms,EE hr rfl,fun _ _ _ h=>h⟩)
   ·have hs:CB x a=none:=by unfold CB;rw[h];show(AV 2147483647 a.v.data.toList).map _=_;unfold AV;rw[hn];rfl
    exact BI (m:=0) CW DU (AX (by omega)) ⟨rfl,_,_,GD hr rfl,.inr ⟨inv.bad ha hs,rfl,rfl,rfl⟩⟩
  have hs:CB x a=none:=by
   unfold CB
   split<;>first|rfl|contradiction
  exact⟨rfl,_,_,GD hr rfl,.inr ⟨inv.bad ha hs,rfl,rfl,rfl⟩⟩
 ·exact⟨rfl,_,_,Wk.refl _ _ _ _,.inl ⟨x,inv.last (by omega),rfl,rfl,rfl⟩⟩
def xP(r:AJ):kP:=fun c n AB obs A E=>∃l:List At,l.length<=255/\c=AO Tryz.prog 158 5/\n=37/\AB=[.func (.func 209) ⟨[]⟩ ⟨[pA 101]⟩,dsl (CZ l),.int .i64 (Int.ofNat l.length),.int .i64 (0:Int)]/\obs=[some r,some (.cells [.int .i64 0,.int .i64 0] 49 2 false true)]/\
 (∀x,run CB GU l=some x->A x.id x.size)/\(run CB GU l=none->E)
theorem AFp(r:AJ)(hr:C8 102 (some r)=true):BH Tryz.prog 100 [1,18,19,20] (AAe (xP r)):=by
 show BH Tryz.prog 100 [1,18,19,20] (lpS [4] _)
 refine FW okp (W:=(AU Z0 Zp [] [] [(142,sRN MRN)] [(28,23),(37,16),(14,10)])) (DI (EO TJ)) BN ?_
 intro c n AB obs K h
 split at h<;>try exact h.elim
 obtain⟨l,hl,hc,hn,hv,ho,hA,hE⟩:=h
 subst hc;subst hn;subst hv
 simp only[List.cons.injEq]at ho
 obtain⟨rfl,rfl⟩:=ho
 refine⟨StX CB GU l,2,300,fun p=>l.length-p.1.2,kM r l,fun _ e v o=>kV r l e v o,⟨(GU,0),⟨Nat.zero_le _,rfl⟩⟩,rfl,Wk.refl _ _ _ _,?_,ADy r hr l hl⟩
 intro e v o hR
 rcases hR with⟨x,h1,rfl,rfl,rfl⟩ | ⟨h1,rfl,rfl,rfl⟩
 ·exact hA x h1
 ·exact hE h1
def ADi:AJ := .cells [.int .i64 0,.int .i64 0] 49 2 false true
def ADB(q:Nat×GR):Value := .tuple ⟨[QN q.2,.int .i64 (q.1:Int)]⟩
theorem AFL(s:ByteArray):Is (yU (real Tryz.prog) MD (xP ADi) s (fun v=>EI v (ADB (rdE CB GU s.data.toList)))):=by
 refine⟨?_⟩
 rw[vD]
 refine⟨fun h0=>CL _ (FY _) ⟨_,I7 _,rfl,rfl,rfl,rfl,fun x hx=>?_,fun hx=>?_⟩,fun h3=>?_,fun h4=>?_⟩
 ·rw[OJ h0 hx];exact EI.refl _
 ·rw[OI h0 hx];exact(EI.refl _)
 ·rw[FX (by omega),h3];exact(EI.refl _)
 ·rw[FX (by omega),h4];exact(EI.refl _)
theorem AFM(s:ByteArray)(B:Base)(H:Heap):BP Tryz.prog 100 B 116 [.string s] H (.returned (ADB (rdE CB GU s.data.toList))) H:=
 OG (DI (EO OE)) (E9 (fun x hx=>by simp only[List.mem_singleton]at hx;subst hx;exact AFp ADi rfl)) rfl rfl (AFL s) B H
end
end Go.Proofs.Ob
