/- Objects read: what the code comes to. -/
import Derived.Test.YtblbaohcelldpaaU5
set_option linter.all false
namespace Go.Tlv
open Go Go.Abs
section
variable {α:Type} {step:α->At->Option α} {z:α} {s:List UInt8}
theorem rdE_ok{x:α}(h0:(decE 0 s).1=0)(h:run step z (decE 0 s).2=some x):rdE step z s=(0,x):=by unfold rdE;rw[if_pos h0,h]
theorem rdE_no(h0:(decE 0 s).1=0)(h:run step z (decE 0 s).2=none):rdE step z s=(3,z):=by unfold rdE;rw[if_pos h0,h]
theorem rdE_bad(h0:(decE 0 s).1≠0):rdE step z s=((decE 0 s).1,z):=by unfold rdE;rw[if_neg h0]
end
end Go.Tlv
namespace Go.Proofs.Ytblbaohcelldpaa.Ob
open Go Go.Abs Go.Tlv
set_option maxRecDepth 100000
noncomputable section
theorem pu_mkW{W:How}(hkn:KnOk Try.prog 100 W)(hlp:LpOk Try.prog 100 W){f:FuncId}{args:List Value}{v:Value}{n:Nat}(ha:belowL 100 args=true)(hv:below 100 v=true)
  (h:Is (wpe Try.prog (real Try.prog) W n (.call f args h0) (retV fun v'=>Weak v' v))) (B:Base) (H:Heap):CallH Try.prog 100 B f args H (.returned v) H:=by
 obtain⟨r,h1,h2⟩:=wpe_ok okp hkn hlp n _ _ h.out
 unfold retV at h2
 split at h2
 ·rename_i v' u h'
  split at h2
  ·rename_i hc
   simp only[Bool.and_eq_true]at hc
   exact pure_lift (fun B=>call_wk (ins:=[]) (call_objs (Nat.le_of_ble_eq_true hc.1) (h1 B)) ((wk_weak (.cons h2 .nil) (WeakOs.refl _)).trans (wk_pure (by simp only[belowL,hv];rfl)))) ha hv B H
  ·exact h2.elim
 ·exact h2.elim
def xbNode(x:ONode):AObj := .cells [.int .i64 x.id,.int .i64 x.size,.int .i64 x.lo,.int .i64 x.lw,.int .i64 x.lu,.int .i64 x.so,.int .i64 x.sw,dsl (rowsOf cArm x.arms),.int .i64 x.ot] 27 9 false true
def IXNode(r:AObj)(l:List At)(p:StX stepNode zNode l):List Value×List (Option AObj):=([.func (.func 69) ⟨[]⟩ ⟨[pA 101]⟩,dsl (rowsT l),.int .i64 (l.length:Int),.int .i64 (p.1.2:Int)],[some r,some (xbNode p.1.1)])
def RXNode(r:AObj)(l:List At)(e:Exit)(v:List Value)(o:List (Option AObj)):Prop:=
 (∃x,run stepNode zNode l=some x/\e = .exit 0/\v=[top]/\o=[some r,some (xbNode x)])∨(run stepNode zNode l=none/\e = .ret/\v=[.int .i64 3]/\o=[some r,none])
theorem rndXNode(r:AObj)(hr:belowO 102 (some r)=true)(l:List At)(hl:l.length<=255)(p:StX stepNode zNode l):
  Is (wpe Try.prog (real Try.prog) (howOf Z0 Zp [(70,sItems 71 (MItr rdArm cArm))] [] [(103,sRN MRN)] [(28,23),(37,16),(14,10)]) 300 (.code false (loopIn Try.prog 59 5) (stOf 100 37 [1,18,19,20] [] (IXNode r l p))) (roundQ 100 [1,18,19,20] [4] 37 []
   (fun vals objs=>∃a':StX stepNode zNode l,l.length-a'.1.2<l.length-p.1.2/\Wk 100 (100+2) vals objs (IXNode r l a').1 (IXNode r l a').2/\∀e v o,RXNode r l e v o->RXNode r l e v o)
   (fun e vals objs=>∃v o,Wk 100 (100+2) vals objs v o/\RXNode r l e v o))):=by
 refine⟨?_⟩
 obtain⟨⟨x,i⟩,inv⟩:=p
 have hle:i<=l.length:=inv.le
 show gRdNodeR (real Try.prog) (MItr rdArm cArm) MRN (some r) x.id x.size x.lo x.lw x.lu x.so x.sw (rowsOf cArm x.arms) x.ot (rowsT l) (l.length:Int) (i:Int) _ _
 rw[gRdNodeR_eq]
 refine n_ltN (fun hlt=>?_) (fun hge=>?_)
 ·have ha:l[i]?=some l[i]:=List.getElem?_eq_getElem hlt
  generalize l[i]=a at ha
  have hms:l.length-(i+1)<l.length-i:=by omega
  refine n_dget i rfl (rowsT_get ha) rfl (n_rdI (z:=(a.t:Int)) rfl (n_rdS (z:=a.v) rfl ?_))
  refine n_eqN (d:=1) (fun h=>?_) (fun hn1=>?_)
  ·refine⟨2147483647,rfl,fun n hn=>?_,fun hn=>?_⟩
   ·have hs:stepNode x a=some {x with id:=(n:Int)}:=by unfold stepNode;rw[h];show(getI 2147483647 a.v.data.toList).map _=_;unfold getI;rw[hn];rfl
    exact n_fit uU64 uI64 (fit_i64 (by have:=(rnum_ok hn).2.1;omega)) (n_inc (by omega) ⟨rfl,⟨({x with id:=(n:Int)},i+1),inv.next ha hs⟩,hms,wk_x hr rfl,fun _ _ _ h=>h⟩)
   ·have hs:stepNode x a=none:=by unfold stepNode;rw[h];show(getI 2147483647 a.v.data.toList).map _=_;unfold getI;rw[hn];rfl
    exact n_fit (m:=0) uU64 uI64 (fit_i64 (by omega)) ⟨rfl,_,_,wk_y hr rfl,.inr ⟨inv.bad ha hs,rfl,rfl,rfl⟩⟩
  refine n_eqN (d:=2) (fun h=>?_) (fun hn2=>?_)
  ·refine⟨2147483647,rfl,fun n hn=>?_,fun hn=>?_⟩
   ·have hs:stepNode x a=some {x with size:=(n:Int)}:=by unfold stepNode;rw[h];show(getI 2147483647 a.v.data.toList).map _=_;unfold getI;rw[hn];rfl
    exact n_fit uU64 uI64 (fit_i64 (by have:=(rnum_ok hn).2.1;omega)) (n_inc (by omega) ⟨rfl,⟨({x with size:=(n:Int)},i+1),inv.next ha hs⟩,hms,wk_x hr rfl,fun _ _ _ h=>h⟩)
   ·have hs:stepNode x a=none:=by unfold stepNode;rw[h];show(getI 2147483647 a.v.data.toList).map _=_;unfold getI;rw[hn];rfl
    exact n_fit (m:=0) uU64 uI64 (fit_i64 (by omega)) ⟨rfl,_,_,wk_y hr rfl,.inr ⟨inv.bad ha hs,rfl,rfl,rfl⟩⟩
  refine n_eqN (d:=3) (fun h=>?_) (fun hn3=>?_)
  ·refine⟨2147483647,rfl,fun n hn=>?_,fun hn=>?_⟩
   ·have hs:stepNode x a=some {x with lo:=(n:Int)}:=by unfold stepNode;rw[h];show(getI 2147483647 a.v.data.toList).map _=_;unfold getI;rw[hn];rfl
    exact n_fit uU64 uI64 (fit_i64 (by have:=(rnum_ok hn).2.1;omega)) (n_inc (by omega) ⟨rfl,⟨({x with lo:=(n:Int)},i+1),inv.next ha hs⟩,hms,wk_x hr rfl,fun _ _ _ h=>h⟩)
   ·have hs:stepNode x a=none:=by unfold stepNode;rw[h];show(getI 2147483647 a.v.data.toList).map _=_;unfold getI;rw[hn];rfl
    exact n_fit (m:=0) uU64 uI64 (fit_i64 (by omega)) ⟨rfl,_,_,wk_y hr rfl,.inr ⟨inv.bad ha hs,rfl,rfl,rfl⟩⟩
  refine n_eqN (d:=4) (fun h=>?_) (fun hn4=>?_)
  ·refine⟨2147483647,rfl,fun n hn=>?_,fun hn=>?_⟩
   ·have hs:stepNode x a=some {x with lw:=(n:Int)}:=by unfold stepNode;rw[h];show(getI 2147483647 a.v.data.toList).map _=_;unfold getI;rw[hn];rfl
    exact n_fit uU64 uI64 (fit_i64 (by have:=(rnum_ok hn).2.1;omega)) (n_inc (by omega) ⟨rfl,⟨({x with lw:=(n:Int)},i+1),inv.next ha hs⟩,hms,wk_x hr rfl,fun _ _ _ h=>h⟩)
   ·have hs:stepNode x a=none:=by unfold stepNode;rw[h];show(getI 2147483647 a.v.data.toList).map _=_;unfold getI;rw[hn];rfl
    exact n_fit (m:=0) uU64 uI64 (fit_i64 (by omega)) ⟨rfl,_,_,wk_y hr rfl,.inr ⟨inv.bad ha hs,rfl,rfl,rfl⟩⟩
  refine n_eqN (d:=5) (fun h=>?_) (fun hn5=>?_)
  ·refine⟨2147483647,rfl,fun n hn=>?_,fun hn=>?_⟩
   ·have hs:stepNode x a=some {x with lu:=(n:Int)}:=by unfold stepNode;rw[h];show(getI 2147483647 a.v.data.toList).map _=_;unfold getI;rw[hn];rfl
    exact n_fit uU64 uI64 (fit_i64 (by have:=(rnum_ok hn).2.1;omega)) (n_inc (by omega) ⟨rfl,⟨({x with lu:=(n:Int)},i+1),inv.next ha hs⟩,hms,wk_x hr rfl,fun _ _ _ h=>h⟩)
   ·have hs:stepNode x a=none:=by unfold stepNode;rw[h];show(getI 2147483647 a.v.data.toList).map _=_;unfold getI;rw[hn];rfl
    exact n_fit (m:=0) uU64 uI64 (fit_i64 (by omega)) ⟨rfl,_,_,wk_y hr rfl,.inr ⟨inv.bad ha hs,rfl,rfl,rfl⟩⟩
  refine n_eqN (d:=6) (fun h=>?_) (fun hn6=>?_)
  ·refine⟨2147483647,rfl,fun n hn=>?_,fun hn=>?_⟩
   ·have hs:stepNode x a=some {x with so:=(n:Int)}:=by unfold stepNode;rw[h];show(getI 2147483647 a.v.data.toList).map _=_;unfold getI;rw[hn];rfl
    exact n_fit uU64 uI64 (fit_i64 (by have:=(rnum_ok hn).2.1;omega)) (n_inc (by omega) ⟨rfl,⟨({x with so:=(n:Int)},i+1),inv.next ha hs⟩,hms,wk_x hr rfl,fun _ _ _ h=>h⟩)
   ·have hs:stepNode x a=none:=by unfold stepNode;rw[h];show(getI 2147483647 a.v.data.toList).map _=_;unfold getI;rw[hn];rfl
    exact n_fit (m:=0) uU64 uI64 (fit_i64 (by omega)) ⟨rfl,_,_,wk_y hr rfl,.inr ⟨inv.bad ha hs,rfl,rfl,rfl⟩⟩
  refine n_eqN (d:=7) (fun h=>?_) (fun hn7=>?_)
  ·refine⟨2147483647,rfl,fun n hn=>?_,fun hn=>?_⟩
   ·have hs:stepNode x a=some {x with sw:=(n:Int)}:=by unfold stepNode;rw[h];show(getI 2147483647 a.v.data.toList).map _=_;unfold getI;rw[hn];rfl
    exact n_fit uU64 uI64 (fit_i64 (by have:=(rnum_ok hn).2.1;omega)) (n_inc (by omega) ⟨rfl,⟨({x with sw:=(n:Int)},i+1),inv.next ha hs⟩,hms,wk_x hr rfl,fun _ _ _ h=>h⟩)
   ·have hs:stepNode x a=none:=by unfold stepNode;rw[h];show(getI 2147483647 a.v.data.toList).map _=_;unfold getI;rw[hn];rfl
    exact n_fit (m:=0) uU64 uI64 (fit_i64 (by omega)) ⟨rfl,_,_,wk_y hr rfl,.inr ⟨inv.bad ha hs,rfl,rfl,rfl⟩⟩
  refine n_eqN (d:=8) (fun h=>?_) (fun hn8=>?_)
  ·refine⟨2147483647,rfl,fun n hn=>?_,fun hn=>?_⟩
   ·have hs:stepNode x a=some {x with ot:=(n:Int)}:=by unfold stepNode;rw[h];show(getI 2147483647 a.v.data.toList).map _=_;unfold getI;rw[hn];rfl
    exact n_fit uU64 uI64 (fit_i64 (by have:=(rnum_ok hn).2.1;omega)) (n_inc (by omega) ⟨rfl,⟨({x with ot:=(n:Int)},i+1),inv.next ha hs⟩,hms,wk_x hr rfl,fun _ _ _ h=>h⟩)
   ·have hs:stepNode x a=none:=by unfold stepNode;rw[h];show(getI 2147483647 a.v.data.toList).map _=_;unfold getI;rw[hn];rfl
    exact n_fit (m:=0) uU64 uI64 (fit_i64 (by omega)) ⟨rfl,_,_,wk_y hr rfl,.inr ⟨inv.bad ha hs,rfl,rfl,rfl⟩⟩
  refine n_eqN (d:=9) (fun h=>?_) (fun hn9=>?_)
  ·refine⟨32,rfl,by omega,fun v hv=>?_,fun hv v=>?_⟩
   ·have hs:stepNode x a=some {x with arms:=v}:=by unfold stepNode;rw[h];show(getL rdArm 32 a.v.data.toList).map _=_;rw[hv];rfl
    exact n_inc (by omega) ⟨rfl,⟨({x with arms:=v},i+1),inv.next ha hs⟩,hms,wk_x hr rfl,fun _ _ _ h=>h⟩
   ·have hs:stepNode x a=none:=by unfold stepNode;rw[h];show(getL rdArm 32 a.v.data.toList).map _=_;rw[hv];rfl
    exact⟨rfl,_,_,wk_y hr rfl,.inr ⟨inv.bad ha hs,rfl,rfl,rfl⟩⟩
  have hs:stepNode x a=none:=by
   unfold stepNode
   split<;>first|rfl|contradiction
  exact⟨rfl,_,_,wk_y hr rfl,.inr ⟨inv.bad ha hs,rfl,rfl,rfl⟩⟩
 ·exact⟨rfl,_,_,Wk.refl _ _ _ _,.inl ⟨x,inv.last (by omega),rfl,rfl,rfl⟩⟩
def LXrNode(r:AObj):LXNode:=fun c n vals obs A E=>∃l:List At,l.length<=255/\c=loopIn Try.prog 59 5/\n=37/\vals=[.func (.func 69) ⟨[]⟩ ⟨[pA 101]⟩,dsl (rowsT l),.int .i64 (Int.ofNat l.length),.int .i64 (0:Int)]/\obs=[some r,some (.cells [.int .i64 0,.int .i64 0,.int .i64 0,.int .i64 0,.int .i64 0,.int .i64 0,.int .i64 0,.slice none 0 0,.int .i64 0] 27 9 false true)]/\
 (∀x,run stepNode zNode l=some x->A x.id x.size x.lo x.lw x.lu x.so x.sw (rowsOf cArm x.arms) x.ot)/\(run stepNode zNode l=none->E)
theorem lpXNode(r:AObj)(hr:belowO 102 (some r)=true):LoopOk Try.prog 100 [1,18,19,20] (sLoNode (LXrNode r)):=by
 show LoopOk Try.prog 100 [1,18,19,20] (lpS [4] _)
 refine lp_mk okp (W:=(howOf Z0 Zp [(70,sItems 71 (MItr rdArm cArm))] [] [(103,sRN MRN)] [(28,23),(37,16),(14,10)])) (kn_ok (fun x hx=>by simp only[List.mem_singleton]at hx;subst hx;exact okItArm) (pu_one1 puRN)) lp_none ?_
 intro c n vals obs K h
 split at h<;>try exact h.elim
 obtain⟨l,hl,hc,hn,hv,ho,hA,hE⟩:=h
 subst hc;subst hn;subst hv
 simp only[List.cons.injEq]at ho
 obtain⟨rfl,rfl⟩:=ho
 refine⟨StX stepNode zNode l,2,300,fun p=>l.length-p.1.2,IXNode r l,fun _ e v o=>RXNode r l e v o,⟨(zNode,0),⟨Nat.zero_le _,rfl⟩⟩,rfl,wk_weak (WeakL.refl _) (.cons (.refl _) (.cons (.cells (.cons (.refl _) (.cons (.refl _) (.cons (.refl _) (.cons (.refl _) (.cons (.refl _) (.cons (.refl _) (.cons (.refl _) (.cons .nilD (.cons (.refl _) (.nil))))))))))) .nil)),?_,rndXNode r hr l hl⟩
 intro e v o hR
 rcases hR with⟨x,h1,rfl,rfl,rfl⟩ | ⟨h1,rfl,rfl,rfl⟩
 ·exact hA x h1
 ·exact hE h1
def rcNode:AObj := .cells [.int .i64 0,.int .i64 0,.int .i64 0,.int .i64 0,.int .i64 0,.int .i64 0,.int .i64 0,.slice none 0 0,.int .i64 0] 27 9 false true
def rvNode(q:Nat×ONode):Value := .tuple ⟨[vNode q.2,.int .i64 (q.1:Int)]⟩
theorem rdNodeC(s:ByteArray):Is (gRdNode (real Try.prog) MD (LXrNode rcNode) s (fun v=>Weak v (rvNode (rdE stepNode zNode s.data.toList)))):=by
 refine⟨?_⟩
 rw[gRdNode_eq]
 refine⟨fun h0=>n_dlen _ (rowsT_len _) ⟨_,dec_len _,rfl,rfl,rfl,rfl,fun x hx=>?_,fun hx=>?_⟩,fun h3=>?_,fun h4=>?_⟩
 ·rw[rdE_ok h0 hx];exact Weak.refl _
 ·rw[rdE_no h0 hx];exact(.tup (.cons (.agg (.cons (.refl _) (.cons (.refl _) (.cons (.refl _) (.cons (.refl _) (.cons (.refl _) (.cons (.refl _) (.cons (.refl _) (.cons .nilD (.cons (.refl _) (.nil))))))))))) (WeakL.refl _)))
 ·rw[rdE_bad (by omega),h3];exact(.tup (.cons (.agg (.cons (.refl _) (.cons (.refl _) (.cons (.refl _) (.cons (.refl _) (.cons (.refl _) (.cons (.refl _) (.cons (.refl _) (.cons .nilD (.cons (.refl _) (.nil))))))))))) (WeakL.refl _)))
 ·rw[rdE_bad (by omega),h4];exact(.tup (.cons (.agg (.cons (.refl _) (.cons (.refl _) (.cons (.refl _) (.cons (.refl _) (.cons (.refl _) (.cons (.refl _) (.cons (.refl _) (.cons .nilD (.cons (.refl _) (.nil))))))))))) (WeakL.refl _)))
theorem rdNodeH(s:ByteArray)(B:Base)(H:Heap):CallH Try.prog 100 B 45 [.string s] H (.returned (rvNode (rdE stepNode zNode s.data.toList))) H:=
 pu_mkW (kn_pu (pu_one1 puDec)) (lp_ok (fun x hx=>by simp only[List.mem_singleton]at hx;subst hx;exact lpXNode rcNode rfl)) rfl rfl (rdNodeC s) B H
def xbField(x:OField):AObj := .cells [.int .i64 x.id,.int .u8 (x.base:Int),.int .i64 x.node,.int .i64 x.off,.int .i64 x.wid] 29 5 false true
def IXField(r:AObj)(l:List At)(p:StX stepField zField l):List Value×List (Option AObj):=([.func (.func 72) ⟨[]⟩ ⟨[pA 101]⟩,dsl (rowsT l),.int .i64 (l.length:Int),.int .i64 (p.1.2:Int)],[some r,some (xbField p.1.1)])
def RXField(r:AObj)(l:List At)(e:Exit)(v:List Value)(o:List (Option AObj)):Prop:=
 (∃x,run stepField zField l=some x/\e = .exit 0/\v=[top]/\o=[some r,some (xbField x)])∨(run stepField zField l=none/\e = .ret/\v=[.int .i64 3]/\o=[some r,none])
theorem rndXField(r:AObj)(hr:belowO 102 (some r)=true)(l:List At)(hl:l.length<=255)(p:StX stepField zField l):
  Is (wpe Try.prog (real Try.prog) (howOf Z0 Zp [] [] [(103,sRN MRN)] [(28,23),(37,16),(14,10)]) 300 (.code false (loopIn Try.prog 59 5) (stOf 100 37 [1,18,19,20] [] (IXField r l p))) (roundQ 100 [1,18,19,20] [4] 37 []
   (fun vals objs=>∃a':StX stepField zField l,l.length-a'.1.2<l.length-p.1.2/\Wk 100 (100+2) vals objs (IXField r l a').1 (IXField r l a').2/\∀e v o,RXField r l e v o->RXField r l e v o)
   (fun e vals objs=>∃v o,Wk 100 (100+2) vals objs v o/\RXField r l e v o))):=by
 refine⟨?_⟩
 obtain⟨⟨x,i⟩,inv⟩:=p
 have hle:i<=l.length:=inv.le
 show gRdFieldR (real Try.prog) MRN (some r) x.id (x.base:Int) x.node x.off x.wid (rowsT l) (l.length:Int) (i:Int) _ _
 rw[gRdFieldR_eq]
 refine n_ltN (fun hlt=>?_) (fun hge=>?_)
 ·have ha:l[i]?=some l[i]:=List.getElem?_eq_getElem hlt
  generalize l[i]=a at ha
  have hms:l.length-(i+1)<l.length-i:=by omega
  refine n_dget i rfl (rowsT_get ha) rfl (n_rdI (z:=(a.t:Int)) rfl (n_rdS (z:=a.v) rfl ?_))
  refine n_eqN (d:=1) (fun h=>?_) (fun hn1=>?_)
  ·refine⟨2147483647,rfl,fun n hn=>?_,fun hn=>?_⟩
   ·have hs:stepField x a=some {x with id:=(n:Int)}:=by unfold stepField;rw[h];show(getI 2147483647 a.v.data.toList).map _=_;unfold getI;rw[hn];rfl
    exact n_fit uU64 uI64 (fit_i64 (by have:=(rnum_ok hn).2.1;omega)) (n_inc (by omega) ⟨rfl,⟨({x with id:=(n:Int)},i+1),inv.next ha hs⟩,hms,wk_x hr rfl,fun _ _ _ h=>h⟩)
   ·have hs:stepField x a=none:=by unfold stepField;rw[h];show(getI 2147483647 a.v.data.toList).map _=_;unfold getI;rw[hn];rfl
    exact n_fit (m:=0) uU64 uI64 (fit_i64 (by omega)) ⟨rfl,_,_,wk_y hr rfl,.inr ⟨inv.bad ha hs,rfl,rfl,rfl⟩⟩
  refine n_eqN (d:=2) (fun h=>?_) (fun hn2=>?_)
  ·refine⟨255,rfl,fun n hn=>?_,fun hn=>?_⟩
   ·have hs:stepField x a=some {x with base:=n}:=by unfold stepField;rw[h];show(getN 255 a.v.data.toList).map _=_;unfold getN;rw[hn];rfl
    exact n_fit uU64 uU8 (fit_u8 (by have:=(rnum_ok hn).2.1;omega)) (n_inc (by omega) ⟨rfl,⟨({x with base:=n},i+1),inv.next ha hs⟩,hms,wk_x hr rfl,fun _ _ _ h=>h⟩)
   ·have hs:stepField x a=none:=by unfold stepField;rw[h];show(getN 255 a.v.data.toList).map _=_;unfold getN;rw[hn];rfl
    exact n_fit (m:=0) uU64 uU8 (fit_u8 (by omega)) ⟨rfl,_,_,wk_y hr rfl,.inr ⟨inv.bad ha hs,rfl,rfl,rfl⟩⟩
  refine n_eqN (d:=3) (fun h=>?_) (fun hn3=>?_)
  ·refine⟨2147483647,rfl,fun n hn=>?_,fun hn=>?_⟩
   ·have hs:stepField x a=some {x with node:=(n:Int)}:=by unfold stepField;rw[h];show(getI 2147483647 a.v.data.toList).map _=_;unfold getI;rw[hn];rfl
    exact n_fit uU64 uI64 (fit_i64 (by have:=(rnum_ok hn).2.1;omega)) (n_inc (by omega) ⟨rfl,⟨({x with node:=(n:Int)},i+1),inv.next ha hs⟩,hms,wk_x hr rfl,fun _ _ _ h=>h⟩)
   ·have hs:stepField x a=none:=by unfold stepField;rw[h];show(getI 2147483647 a.v.data.toList).map _=_;unfold getI;rw[hn];rfl
    exact n_fit (m:=0) uU64 uI64 (fit_i64 (by omega)) ⟨rfl,_,_,wk_y hr rfl,.inr ⟨inv.bad ha hs,rfl,rfl,rfl⟩⟩
  refine n_eqN (d:=4) (fun h=>?_) (fun hn4=>?_)
  ·refine⟨2147483647,rfl,fun n hn=>?_,fun hn=>?_⟩
   ·have hs:stepField x a=some {x with off:=(n:Int)}:=by unfold stepField;rw[h];show(getI 2147483647 a.v.data.toList).map _=_;unfold getI;rw[hn];rfl
    exact n_fit uU64 uI64 (fit_i64 (by have:=(rnum_ok hn).2.1;omega)) (n_inc (by omega) ⟨rfl,⟨({x with off:=(n:Int)},i+1),inv.next ha hs⟩,hms,wk_x hr rfl,fun _ _ _ h=>h⟩)
   ·have hs:stepField x a=none:=by unfold stepField;rw[h];show(getI 2147483647 a.v.data.toList).map _=_;unfold getI;rw[hn];rfl
    exact n_fit (m:=0) uU64 uI64 (fit_i64 (by omega)) ⟨rfl,_,_,wk_y hr rfl,.inr ⟨inv.bad ha hs,rfl,rfl,rfl⟩⟩
  refine n_eqN (d:=5) (fun h=>?_) (fun hn5=>?_)
  ·refine⟨2147483647,rfl,fun n hn=>?_,fun hn=>?_⟩
   ·have hs:stepField x a=some {x with wid:=(n:Int)}:=by unfold stepField;rw[h];show(getI 2147483647 a.v.data.toList).map _=_;unfold getI;rw[hn];rfl
    exact n_fit uU64 uI64 (fit_i64 (by have:=(rnum_ok hn).2.1;omega)) (n_inc (by omega) ⟨rfl,⟨({x with wid:=(n:Int)},i+1),inv.next ha hs⟩,hms,wk_x hr rfl,fun _ _ _ h=>h⟩)
   ·have hs:stepField x a=none:=by unfold stepField;rw[h];show(getI 2147483647 a.v.data.toList).map _=_;unfold getI;rw[hn];rfl
    exact n_fit (m:=0) uU64 uI64 (fit_i64 (by omega)) ⟨rfl,_,_,wk_y hr rfl,.inr ⟨inv.bad ha hs,rfl,rfl,rfl⟩⟩
  have hs:stepField x a=none:=by
   unfold stepField
   split<;>first|rfl|contradiction
  exact⟨rfl,_,_,wk_y hr rfl,.inr ⟨inv.bad ha hs,rfl,rfl,rfl⟩⟩
 ·exact⟨rfl,_,_,Wk.refl _ _ _ _,.inl ⟨x,inv.last (by omega),rfl,rfl,rfl⟩⟩
def LXrField(r:AObj):LXField:=fun c n vals obs A E=>∃l:List At,l.length<=255/\c=loopIn Try.prog 59 5/\n=37/\vals=[.func (.func 72) ⟨[]⟩ ⟨[pA 101]⟩,dsl (rowsT l),.int .i64 (Int.ofNat l.length),.int .i64 (0:Int)]/\obs=[some r,some (.cells [.int .i64 0,.int .u8 0,.int .i64 0,.int .i64 0,.int .i64 0] 29 5 false true)]/\
 (∀x,run stepField zField l=some x->A x.id (x.base:Int) x.node x.off x.wid)/\(run stepField zField l=none->E)
theorem lpXField(r:AObj)(hr:belowO 102 (some r)=true):LoopOk Try.prog 100 [1,18,19,20] (sLoField (LXrField r)):=by
 show LoopOk Try.prog 100 [1,18,19,20] (lpS [4] _)
 refine lp_mk okp (W:=(howOf Z0 Zp [] [] [(103,sRN MRN)] [(28,23),(37,16),(14,10)])) (kn_pu (pu_one1 puRN)) lp_none ?_
 intro c n vals obs K h
 split at h<;>try exact h.elim
 obtain⟨l,hl,hc,hn,hv,ho,hA,hE⟩:=h
 subst hc;subst hn;subst hv
 simp only[List.cons.injEq]at ho
 obtain⟨rfl,rfl⟩:=ho
 refine⟨StX stepField zField l,2,300,fun p=>l.length-p.1.2,IXField r l,fun _ e v o=>RXField r l e v o,⟨(zField,0),⟨Nat.zero_le _,rfl⟩⟩,rfl,Wk.refl _ _ _ _,?_,rndXField r hr l hl⟩
 intro e v o hR
 rcases hR with⟨x,h1,rfl,rfl,rfl⟩ | ⟨h1,rfl,rfl,rfl⟩
 ·exact hA x h1
 ·exact hE h1
def rcField:AObj := .cells [.int .i64 0,.int .u8 0,.int .i64 0,.int .i64 0,.int .i64 0] 29 5 false true
def rvField(q:Nat×OField):Value := .tuple ⟨[vField q.2,.int .i64 (q.1:Int)]⟩
theorem rdFieldC(s:ByteArray):Is (gRdField (real Try.prog) MD (LXrField rcField) s (fun v=>Weak v (rvField (rdE stepField zField s.data.toList)))):=by
 refine⟨?_⟩
 rw[gRdField_eq]
 refine⟨fun h0=>n_dlen _ (rowsT_len _) ⟨_,dec_len _,rfl,rfl,rfl,rfl,fun x hx=>?_,fun hx=>?_⟩,fun h3=>?_,fun h4=>?_⟩
 ·rw[rdE_ok h0 hx];exact Weak.refl _
 ·rw[rdE_no h0 hx];exact(Weak.refl _)
 ·rw[rdE_bad (by omega),h3];exact(Weak.refl _)
 ·rw[rdE_bad (by omega),h4];exact(Weak.refl _)
theorem rdFieldH(s:ByteArray)(B:Base)(H:Heap):CallH Try.prog 100 B 46 [.string s] H (.returned (rvField (rdE stepField zField s.data.toList))) H:=
 pu_mkW (kn_pu (pu_one1 puDec)) (lp_ok (fun x hx=>by simp only[List.mem_singleton]at hx;subst hx;exact lpXField rcField rfl)) rfl rfl (rdFieldC s) B H
def xbTable(x:OTable):AObj := .cells [.int .i64 x.id,.int .u8 (x.kind:Int),dsl (rowsOf cInt x.keys),.int .i64 x.cap,.int .i64 x.miss] 32 5 false true
def IXTable(r:AObj)(l:List At)(p:StX stepTable zTable l):List Value×List (Option AObj):=([.func (.func 74) ⟨[]⟩ ⟨[pA 101]⟩,dsl (rowsT l),.int .i64 (l.length:Int),.int .i64 (p.1.2:Int)],[some r,some (xbTable p.1.1)])
def RXTable(r:AObj)(l:List At)(e:Exit)(v:List Value)(o:List (Option AObj)):Prop:=
 (∃x,run stepTable zTable l=some x/\e = .exit 0/\v=[top]/\o=[some r,some (xbTable x)])∨(run stepTable zTable l=none/\e = .ret/\v=[.int .i64 3]/\o=[some r,none])
theorem rndXTable(r:AObj)(hr:belowO 102 (some r)=true)(l:List At)(hl:l.length<=255)(p:StX stepTable zTable l):
  Is (wpe Try.prog (real Try.prog) (howOf Z0 Zp [(75,sItems 61 (MItr rdInt cInt))] [] [(103,sRN MRN)] [(28,23),(37,16),(14,10)]) 300 (.code false (loopIn Try.prog 59 5) (stOf 100 37 [1,18,19,20] [] (IXTable r l p))) (roundQ 100 [1,18,19,20] [4] 37 []
   (fun vals objs=>∃a':StX stepTable zTable l,l.length-a'.1.2<l.length-p.1.2/\Wk 100 (100+2) vals objs (IXTable r l a').1 (IXTable r l a').2/\∀e v o,RXTable r l e v o->RXTable r l e v o)
   (fun e vals objs=>∃v o,Wk 100 (100+2) vals objs v o/\RXTable r l e v o))):=by
 refine⟨?_⟩
 obtain⟨⟨x,i⟩,inv⟩:=p
 have hle:i<=l.length:=inv.le
 show gRdTableR (real Try.prog) (MItr rdInt cInt) MRN (some r) x.id (x.kind:Int) (rowsOf cInt x.keys) x.cap x.miss (rowsT l) (l.length:Int) (i:Int) _ _
 rw[gRdTableR_eq]
 refine n_ltN (fun hlt=>?_) (fun hge=>?_)
 ·have ha:l[i]?=some l[i]:=List.getElem?_eq_getElem hlt
  generalize l[i]=a at ha
  have hms:l.length-(i+1)<l.length-i:=by omega
  refine n_dget i rfl (rowsT_get ha) rfl (n_rdI (z:=(a.t:Int)) rfl (n_rdS (z:=a.v) rfl ?_))
  refine n_eqN (d:=1) (fun h=>?_) (fun hn1=>?_)
  ·refine⟨2147483647,rfl,fun n hn=>?_,fun hn=>?_⟩
   ·have hs:stepTable x a=some {x with id:=(n:Int)}:=by unfold stepTable;rw[h];show(getI 2147483647 a.v.data.toList).map _=_;unfold getI;rw[hn];rfl
    exact n_fit uU64 uI64 (fit_i64 (by have:=(rnum_ok hn).2.1;omega)) (n_inc (by omega) ⟨rfl,⟨({x with id:=(n:Int)},i+1),inv.next ha hs⟩,hms,wk_x hr rfl,fun _ _ _ h=>h⟩)
   ·have hs:stepTable x a=none:=by unfold stepTable;rw[h];show(getI 2147483647 a.v.data.toList).map _=_;unfold getI;rw[hn];rfl
    exact n_fit (m:=0) uU64 uI64 (fit_i64 (by omega)) ⟨rfl,_,_,wk_y hr rfl,.inr ⟨inv.bad ha hs,rfl,rfl,rfl⟩⟩
  refine n_eqN (d:=2) (fun h=>?_) (fun hn2=>?_)
  ·refine⟨255,rfl,fun n hn=>?_,fun hn=>?_⟩
   ·have hs:stepTable x a=some {x with kind:=n}:=by unfold stepTable;rw[h];show(getN 255 a.v.data.toList).map _=_;unfold getN;rw[hn];rfl
    exact n_fit uU64 uU8 (fit_u8 (by have:=(rnum_ok hn).2.1;omega)) (n_inc (by omega) ⟨rfl,⟨({x with kind:=n},i+1),inv.next ha hs⟩,hms,wk_x hr rfl,fun _ _ _ h=>h⟩)
   ·have hs:stepTable x a=none:=by unfold stepTable;rw[h];show(getN 255 a.v.data.toList).map _=_;unfold getN;rw[hn];rfl
    exact n_fit (m:=0) uU64 uU8 (fit_u8 (by omega)) ⟨rfl,_,_,wk_y hr rfl,.inr ⟨inv.bad ha hs,rfl,rfl,rfl⟩⟩
  refine n_eqN (d:=3) (fun h=>?_) (fun hn3=>?_)
  ·refine⟨4,rfl,by omega,fun v hv=>?_,fun hv v=>?_⟩
   ·have hs:stepTable x a=some {x with keys:=v}:=by unfold stepTable;rw[h];show(getL rdInt 4 a.v.data.toList).map _=_;rw[hv];rfl
    exact n_inc (by omega) ⟨rfl,⟨({x with keys:=v},i+1),inv.next ha hs⟩,hms,wk_x hr rfl,fun _ _ _ h=>h⟩
   ·have hs:stepTable x a=none:=by unfold stepTable;rw[h];show(getL rdInt 4 a.v.data.toList).map _=_;rw[hv];rfl
    exact⟨rfl,_,_,wk_y hr rfl,.inr ⟨inv.bad ha hs,rfl,rfl,rfl⟩⟩
  refine n_eqN (d:=4) (fun h=>?_) (fun hn4=>?_)
  ·refine⟨2147483647,rfl,fun n hn=>?_,fun hn=>?_⟩
   ·have hs:stepTable x a=some {x with cap:=(n:Int)}:=by unfold stepTable;rw[h];show(getI 2147483647 a.v.data.toList).map _=_;unfold getI;rw[hn];rfl
    exact n_fit uU64 uI64 (fit_i64 (by have:=(rnum_ok hn).2.1;omega)) (n_inc (by omega) ⟨rfl,⟨({x with cap:=(n:Int)},i+1),inv.next ha hs⟩,hms,wk_x hr rfl,fun _ _ _ h=>h⟩)
   ·have hs:stepTable x a=none:=by unfold stepTable;rw[h];show(getI 2147483647 a.v.data.toList).map _=_;unfold getI;rw[hn];rfl
    exact n_fit (m:=0) uU64 uI64 (fit_i64 (by omega)) ⟨rfl,_,_,wk_y hr rfl,.inr ⟨inv.bad ha hs,rfl,rfl,rfl⟩⟩
  refine n_eqN (d:=5) (fun h=>?_) (fun hn5=>?_)
  ·refine⟨2147483647,rfl,fun n hn=>?_,fun hn=>?_⟩
   ·have hs:stepTable x a=some {x with miss:=(n:Int)}:=by unfold stepTable;rw[h];show(getI 2147483647 a.v.data.toList).map _=_;unfold getI;rw[hn];rfl
    exact n_fit uU64 uI64 (fit_i64 (by have:=(rnum_ok hn).2.1;omega)) (n_inc (by omega) ⟨rfl,⟨({x with miss:=(n:Int)},i+1),inv.next ha hs⟩,hms,wk_x hr rfl,fun _ _ _ h=>h⟩)
   ·have hs:stepTable x a=none:=by unfold stepTable;rw[h];show(getI 2147483647 a.v.data.toList).map _=_;unfold getI;rw[hn];rfl
    exact n_fit (m:=0) uU64 uI64 (fit_i64 (by omega)) ⟨rfl,_,_,wk_y hr rfl,.inr ⟨inv.bad ha hs,rfl,rfl,rfl⟩⟩
  have hs:stepTable x a=none:=by
   unfold stepTable
   split<;>first|rfl|contradiction
  exact⟨rfl,_,_,wk_y hr rfl,.inr ⟨inv.bad ha hs,rfl,rfl,rfl⟩⟩
 ·exact⟨rfl,_,_,Wk.refl _ _ _ _,.inl ⟨x,inv.last (by omega),rfl,rfl,rfl⟩⟩
def LXrTable(r:AObj):LXTable:=fun c n vals obs A E=>∃l:List At,l.length<=255/\c=loopIn Try.prog 59 5/\n=37/\vals=[.func (.func 74) ⟨[]⟩ ⟨[pA 101]⟩,dsl (rowsT l),.int .i64 (Int.ofNat l.length),.int .i64 (0:Int)]/\obs=[some r,some (.cells [.int .i64 0,.int .u8 0,.slice none 0 0,.int .i64 0,.int .i64 0] 32 5 false true)]/\
 (∀x,run stepTable zTable l=some x->A x.id (x.kind:Int) (rowsOf cInt x.keys) x.cap x.miss)/\(run stepTable zTable l=none->E)
theorem lpXTable(r:AObj)(hr:belowO 102 (some r)=true):LoopOk Try.prog 100 [1,18,19,20] (sLoTable (LXrTable r)):=by
 show LoopOk Try.prog 100 [1,18,19,20] (lpS [4] _)
 refine lp_mk okp (W:=(howOf Z0 Zp [(75,sItems 61 (MItr rdInt cInt))] [] [(103,sRN MRN)] [(28,23),(37,16),(14,10)])) (kn_ok (fun x hx=>by simp only[List.mem_singleton]at hx;subst hx;exact okItInt) (pu_one1 puRN)) lp_none ?_
 intro c n vals obs K h
 split at h<;>try exact h.elim
 obtain⟨l,hl,hc,hn,hv,ho,hA,hE⟩:=h
 subst hc;subst hn;subst hv
 simp only[List.cons.injEq]at ho
 obtain⟨rfl,rfl⟩:=ho
 refine⟨StX stepTable zTable l,2,300,fun p=>l.length-p.1.2,IXTable r l,fun _ e v o=>RXTable r l e v o,⟨(zTable,0),⟨Nat.zero_le _,rfl⟩⟩,rfl,wk_weak (WeakL.refl _) (.cons (.refl _) (.cons (.cells (.cons (.refl _) (.cons (.refl _) (.cons .nilD (.cons (.refl _) (.cons (.refl _) (.nil))))))) .nil)),?_,rndXTable r hr l hl⟩
 intro e v o hR
 rcases hR with⟨x,h1,rfl,rfl,rfl⟩ | ⟨h1,rfl,rfl,rfl⟩
 ·exact hA x h1
 ·exact hE h1
def rcTable:AObj := .cells [.int .i64 0,.int .u8 0,.slice none 0 0,.int .i64 0,.int .i64 0] 32 5 false true
def rvTable(q:Nat×OTable):Value := .tuple ⟨[vTable q.2,.int .i64 (q.1:Int)]⟩
theorem rdTableC(s:ByteArray):Is (gRdTable (real Try.prog) MD (LXrTable rcTable) s (fun v=>Weak v (rvTable (rdE stepTable zTable s.data.toList)))):=by
 refine⟨?_⟩
 rw[gRdTable_eq]
 refine⟨fun h0=>n_dlen _ (rowsT_len _) ⟨_,dec_len _,rfl,rfl,rfl,rfl,fun x hx=>?_,fun hx=>?_⟩,fun h3=>?_,fun h4=>?_⟩
 ·rw[rdE_ok h0 hx];exact Weak.refl _
 ·rw[rdE_no h0 hx];exact(.tup (.cons (.agg (.cons (.refl _) (.cons (.refl _) (.cons .nilD (.cons (.refl _) (.cons (.refl _) (.nil))))))) (WeakL.refl _)))
 ·rw[rdE_bad (by omega),h3];exact(.tup (.cons (.agg (.cons (.refl _) (.cons (.refl _) (.cons .nilD (.cons (.refl _) (.cons (.refl _) (.nil))))))) (WeakL.refl _)))
 ·rw[rdE_bad (by omega),h4];exact(.tup (.cons (.agg (.cons (.refl _) (.cons (.refl _) (.cons .nilD (.cons (.refl _) (.cons (.refl _) (.nil))))))) (WeakL.refl _)))
theorem rdTableH(s:ByteArray)(B:Base)(H:Heap):CallH Try.prog 100 B 47 [.string s] H (.returned (rvTable (rdE stepTable zTable s.data.toList))) H:=
 pu_mkW (kn_pu (pu_one1 puDec)) (lp_ok (fun x hx=>by simp only[List.mem_singleton]at hx;subst hx;exact lpXTable rcTable rfl)) rfl rfl (rdTableC s) B H
def xbEntry(x:OEntry):AObj := .cells [.int .i64 x.tab,.string x.key,.string x.oth,.int .i64 x.len,.int .i64 x.prio,.int .i64 x.blk,dsl (rowsOf cNat x.args),.int .i64 x.idle,.int .i64 x.hard,.int .u64 (x.cook:Int),.bool x.tell] 34 11 false true
def IXEntry(r:AObj)(l:List At)(p:StX stepEntry zEntry l):List Value×List (Option AObj):=([.func (.func 76) ⟨[]⟩ ⟨[pA 101]⟩,dsl (rowsT l),.int .i64 (l.length:Int),.int .i64 (p.1.2:Int)],[some r,some (xbEntry p.1.1)])
def RXEntry(r:AObj)(l:List At)(e:Exit)(v:List Value)(o:List (Option AObj)):Prop:=
 (∃x,run stepEntry zEntry l=some x/\e = .exit 0/\v=[top]/\o=[some r,some (xbEntry x)])∨(run stepEntry zEntry l=none/\e = .ret/\v=[.int .i64 3]/\o=[some r,none])
theorem rndXEntry(r:AObj)(hr:belowO 102 (some r)=true)(l:List At)(hl:l.length<=255)(p:StX stepEntry zEntry l):
  Is (wpe Try.prog (real Try.prog) (howOf Z0 Zp [(78,sItems 79 (MItr rdNat cNat))] [] [(103,sRN MRN)] [(28,23),(37,16),(14,10)]) 300 (.code false (loopIn Try.prog 59 5) (stOf 100 37 [1,18,19,20] [] (IXEntry r l p))) (roundQ 100 [1,18,19,20] [4] 37 []
   (fun vals objs=>∃a':StX stepEntry zEntry l,l.length-a'.1.2<l.length-p.1.2/\Wk 100 (100+2) vals objs (IXEntry r l a').1 (IXEntry r l a').2/\∀e v o,RXEntry r l e v o->RXEntry r l e v o)
   (fun e vals objs=>∃v o,Wk 100 (100+2) vals objs v o/\RXEntry r l e v o))):=by
 refine⟨?_⟩
 obtain⟨⟨x,i⟩,inv⟩:=p
 have hle:i<=l.length:=inv.le
 show gRdEntryR (real Try.prog) (MItr rdNat cNat) MRN (some r) x.tab x.key x.oth x.len x.prio x.blk (rowsOf cNat x.args) x.idle x.hard (x.cook:Int) x.tell (rowsT l) (l.length:Int) (i:Int) _ _
 rw[gRdEntryR_eq]
 refine n_ltN (fun hlt=>?_) (fun hge=>?_)
 ·have ha:l[i]?=some l[i]:=List.getElem?_eq_getElem hlt
  generalize l[i]=a at ha
  have hms:l.length-(i+1)<l.length-i:=by omega
  refine n_dget i rfl (rowsT_get ha) rfl (n_rdI (z:=(a.t:Int)) rfl (n_rdS (z:=a.v) rfl ?_))
  refine n_eqN (d:=1) (fun h=>?_) (fun hn1=>?_)
  ·refine⟨2147483647,rfl,fun n hn=>?_,fun hn=>?_⟩
   ·have hs:stepEntry x a=some {x with tab:=(n:Int)}:=by unfold stepEntry;rw[h];show(getI 2147483647 a.v.data.toList).map _=_;unfold getI;rw[hn];rfl
    exact n_fit uU64 uI64 (fit_i64 (by have:=(rnum_ok hn).2.1;omega)) (n_inc (by omega) ⟨rfl,⟨({x with tab:=(n:Int)},i+1),inv.next ha hs⟩,hms,wk_x hr rfl,fun _ _ _ h=>h⟩)
   ·have hs:stepEntry x a=none:=by unfold stepEntry;rw[h];show(getI 2147483647 a.v.data.toList).map _=_;unfold getI;rw[hn];rfl
    exact n_fit (m:=0) uU64 uI64 (fit_i64 (by omega)) ⟨rfl,_,_,wk_y hr rfl,.inr ⟨inv.bad ha hs,rfl,rfl,rfl⟩⟩
  refine n_eqN (d:=2) (fun h=>?_) (fun hn2=>?_)
  ·refine n_slen (n_gtN (d:=32) (fun hb=>?_) (fun hg=>?_))
   ·have hs:stepEntry x a=none:=by unfold stepEntry;rw[h];show(getS 32 a.v.data.toList).map _=_;unfold getS;rw[if_neg (by omega)];rfl
    exact⟨rfl,_,_,wk_y hr rfl,.inr ⟨inv.bad ha hs,rfl,rfl,rfl⟩⟩
   ·have hs:stepEntry x a=some {x with key:=a.v}:=by unfold stepEntry;rw[h];show(getS 32 a.v.data.toList).map _=_;unfold getS;rw[if_pos hg,bytes_eta];rfl
    exact n_inc (by omega) ⟨rfl,⟨({x with key:=a.v},i+1),inv.next ha hs⟩,hms,wk_x hr rfl,fun _ _ _ h=>h⟩
  refine n_eqN (d:=3) (fun h=>?_) (fun hn3=>?_)
  ·refine n_slen (n_gtN (d:=32) (fun hb=>?_) (fun hg=>?_))
   ·have hs:stepEntry x a=none:=by unfold stepEntry;rw[h];show(getS 32 a.v.data.toList).map _=_;unfold getS;rw[if_neg (by omega)];rfl
    exact⟨rfl,_,_,wk_y hr rfl,.inr ⟨inv.bad ha hs,rfl,rfl,rfl⟩⟩
   ·have hs:stepEntry x a=some {x with oth:=a.v}:=by unfold stepEntry;rw[h];show(getS 32 a.v.data.toList).map _=_;unfold getS;rw[if_pos hg,bytes_eta];rfl
    exact n_inc (by omega) ⟨rfl,⟨({x with oth:=a.v},i+1),inv.next ha hs⟩,hms,wk_x hr rfl,fun _ _ _ h=>h⟩
  refine n_eqN (d:=4) (fun h=>?_) (fun hn4=>?_)
  ·refine⟨2147483647,rfl,fun n hn=>?_,fun hn=>?_⟩
   ·have hs:stepEntry x a=some {x with len:=(n:Int)}:=by unfold stepEntry;rw[h];show(getI 2147483647 a.v.data.toList).map _=_;unfold getI;rw[hn];rfl
    exact n_fit uU64 uI64 (fit_i64 (by have:=(rnum_ok hn).2.1;omega)) (n_inc (by omega) ⟨rfl,⟨({x with len:=(n:Int)},i+1),inv.next ha hs⟩,hms,wk_x hr rfl,fun _ _ _ h=>h⟩)
   ·have hs:stepEntry x a=none:=by unfold stepEntry;rw[h];show(getI 2147483647 a.v.data.toList).map _=_;unfold getI;rw[hn];rfl
    exact n_fit (m:=0) uU64 uI64 (fit_i64 (by omega)) ⟨rfl,_,_,wk_y hr rfl,.inr ⟨inv.bad ha hs,rfl,rfl,rfl⟩⟩
  refine n_eqN (d:=5) (fun h=>?_) (fun hn5=>?_)
  ·refine⟨2147483647,rfl,fun n hn=>?_,fun hn=>?_⟩
   ·have hs:stepEntry x a=some {x with prio:=(n:Int)}:=by unfold stepEntry;rw[h];show(getI 2147483647 a.v.data.toList).map _=_;unfold getI;rw[hn];rfl
    exact n_fit uU64 uI64 (fit_i64 (by have:=(rnum_ok hn).2.1;omega)) (n_inc (by omega) ⟨rfl,⟨({x with prio:=(n:Int)},i+1),inv.next ha hs⟩,hms,wk_x hr rfl,fun _ _ _ h=>h⟩)
   ·have hs:stepEntry x a=none:=by unfold stepEntry;rw[h];show(getI 2147483647 a.v.data.toList).map _=_;unfold getI;rw[hn];rfl
    exact n_fit (m:=0) uU64 uI64 (fit_i64 (by omega)) ⟨rfl,_,_,wk_y hr rfl,.inr ⟨inv.bad ha hs,rfl,rfl,rfl⟩⟩
  refine n_eqN (d:=6) (fun h=>?_) (fun hn6=>?_)
  ·refine⟨2147483647,rfl,fun n hn=>?_,fun hn=>?_⟩
   ·have hs:stepEntry x a=some {x with blk:=(n:Int)}:=by unfold stepEntry;rw[h];show(getI 2147483647 a.v.data.toList).map _=_;unfold getI;rw[hn];rfl
    exact n_fit uU64 uI64 (fit_i64 (by have:=(rnum_ok hn).2.1;omega)) (n_inc (by omega) ⟨rfl,⟨({x with blk:=(n:Int)},i+1),inv.next ha hs⟩,hms,wk_x hr rfl,fun _ _ _ h=>h⟩)
   ·have hs:stepEntry x a=none:=by unfold stepEntry;rw[h];show(getI 2147483647 a.v.data.toList).map _=_;unfold getI;rw[hn];rfl
    exact n_fit (m:=0) uU64 uI64 (fit_i64 (by omega)) ⟨rfl,_,_,wk_y hr rfl,.inr ⟨inv.bad ha hs,rfl,rfl,rfl⟩⟩
  refine n_eqN (d:=7) (fun h=>?_) (fun hn7=>?_)
  ·refine⟨4,rfl,by omega,fun v hv=>?_,fun hv v=>?_⟩
   ·have hs:stepEntry x a=some {x with args:=v}:=by unfold stepEntry;rw[h];show(getL rdNat 4 a.v.data.toList).map _=_;rw[hv];rfl
    exact n_inc (by omega) ⟨rfl,⟨({x with args:=v},i+1),inv.next ha hs⟩,hms,wk_x hr rfl,fun _ _ _ h=>h⟩
   ·have hs:stepEntry x a=none:=by unfold stepEntry;rw[h];show(getL rdNat 4 a.v.data.toList).map _=_;rw[hv];rfl
    exact⟨rfl,_,_,wk_y hr rfl,.inr ⟨inv.bad ha hs,rfl,rfl,rfl⟩⟩
  refine n_eqN (d:=8) (fun h=>?_) (fun hn8=>?_)
  ·refine⟨9223372036854775807,rfl,fun n hn=>?_,fun hn=>?_⟩
   ·have hs:stepEntry x a=some {x with idle:=(n:Int)}:=by unfold stepEntry;rw[h];show(getI 9223372036854775807 a.v.data.toList).map _=_;unfold getI;rw[hn];rfl
    exact n_fit uU64 uLong (fit_i64 (by have:=(rnum_ok hn).2.1;omega)) (n_inc (by omega) ⟨rfl,⟨({x with idle:=(n:Int)},i+1),inv.next ha hs⟩,hms,wk_x hr rfl,fun _ _ _ h=>h⟩)
   ·have hs:stepEntry x a=none:=by unfold stepEntry;rw[h];show(getI 9223372036854775807 a.v.data.toList).map _=_;unfold getI;rw[hn];rfl
    exact n_fit (m:=0) uU64 uLong (fit_i64 (by omega)) ⟨rfl,_,_,wk_y hr rfl,.inr ⟨inv.bad ha hs,rfl,rfl,rfl⟩⟩
  refine n_eqN (d:=9) (fun h=>?_) (fun hn9=>?_)
  ·refine⟨9223372036854775807,rfl,fun n hn=>?_,fun hn=>?_⟩
   ·have hs:stepEntry x a=some {x with hard:=(n:Int)}:=by unfold stepEntry;rw[h];show(getI 9223372036854775807 a.v.data.toList).map _=_;unfold getI;rw[hn];rfl
    exact n_fit uU64 uLong (fit_i64 (by have:=(rnum_ok hn).2.1;omega)) (n_inc (by omega) ⟨rfl,⟨({x with hard:=(n:Int)},i+1),inv.next ha hs⟩,hms,wk_x hr rfl,fun _ _ _ h=>h⟩)
   ·have hs:stepEntry x a=none:=by unfold stepEntry;rw[h];show(getI 9223372036854775807 a.v.data.toList).map _=_;unfold getI;rw[hn];rfl
    exact n_fit (m:=0) uU64 uLong (fit_i64 (by omega)) ⟨rfl,_,_,wk_y hr rfl,.inr ⟨inv.bad ha hs,rfl,rfl,rfl⟩⟩
  refine n_eqN (d:=10) (fun h=>?_) (fun hn10=>?_)
  ·refine⟨18446744073709551615,rfl,fun n hn=>?_,fun hn=>?_⟩
   ·have hs:stepEntry x a=some {x with cook:=n}:=by unfold stepEntry;rw[h];show(getN 18446744073709551615 a.v.data.toList).map _=_;unfold getN;rw[hn];rfl
    exact n_inc (by omega) ⟨rfl,⟨({x with cook:=n},i+1),inv.next ha hs⟩,hms,wk_x hr rfl,fun _ _ _ h=>h⟩
   ·have hs:stepEntry x a=none:=by unfold stepEntry;rw[h];show(getN 18446744073709551615 a.v.data.toList).map _=_;unfold getN;rw[hn];rfl
    exact⟨rfl,_,_,wk_y hr rfl,.inr ⟨inv.bad ha hs,rfl,rfl,rfl⟩⟩
  refine n_eqN (d:=11) (fun h=>?_) (fun hn11=>?_)
  ·refine⟨1,rfl,fun n hn=>?_,fun hn=>?_⟩
   ·have hs:stepEntry x a=some {x with tell:=n==1}:=by unfold stepEntry;rw[h];show(getB a.v.data.toList).map _=_;unfold getB;rw[hn];rfl
    refine n_eqN (d:=1) (fun hb=>?_) (fun hb=>?_)
    ·rw[show(n==1)=true by simpa using hb]at hs
     exact n_inc (by omega) ⟨rfl,⟨({x with tell:=true},i+1),inv.next ha hs⟩,hms,wk_x hr rfl,fun _ _ _ h=>h⟩
    ·rw[show(n==1)=false by simpa using hb]at hs
     exact n_inc (by omega) ⟨rfl,⟨({x with tell:=false},i+1),inv.next ha hs⟩,hms,wk_x hr rfl,fun _ _ _ h=>h⟩
   ·have hs:stepEntry x a=none:=by unfold stepEntry;rw[h];show(getB a.v.data.toList).map _=_;unfold getB;rw[hn];rfl
    exact n_eqN (m:=0) (d:=1) (fun hb=>absurd hb (by decide)) (fun _=>⟨rfl,_,_,wk_y hr rfl,.inr ⟨inv.bad ha hs,rfl,rfl,rfl⟩⟩)
  have hs:stepEntry x a=none:=by
   unfold stepEntry
   split<;>first|rfl|contradiction
  exact⟨rfl,_,_,wk_y hr rfl,.inr ⟨inv.bad ha hs,rfl,rfl,rfl⟩⟩
 ·exact⟨rfl,_,_,Wk.refl _ _ _ _,.inl ⟨x,inv.last (by omega),rfl,rfl,rfl⟩⟩
def LXrEntry(r:AObj):LXEntry:=fun c n vals obs A E=>∃l:List At,l.length<=255/\c=loopIn Try.prog 59 5/\n=37/\vals=[.func (.func 76) ⟨[]⟩ ⟨[pA 101]⟩,dsl (rowsT l),.int .i64 (Int.ofNat l.length),.int .i64 (0:Int)]/\obs=[some r,some (.cells [.int .i64 0,.string (bytesOf []),.string (bytesOf []),.int .i64 0,.int .i64 0,.int .i64 0,.slice none 0 0,.int .i64 0,.int .i64 0,.int .u64 0,.bool false] 34 11 false true)]/\
 (∀x,run stepEntry zEntry l=some x->A x.tab x.key x.oth x.len x.prio x.blk (rowsOf cNat x.args) x.idle x.hard (x.cook:Int) x.tell)/\(run stepEntry zEntry l=none->E)
theorem lpXEntry(r:AObj)(hr:belowO 102 (some r)=true):LoopOk Try.prog 100 [1,18,19,20] (sLoEntry (LXrEntry r)):=by
 show LoopOk Try.prog 100 [1,18,19,20] (lpS [4] _)
 refine lp_mk okp (W:=(howOf Z0 Zp [(78,sItems 79 (MItr rdNat cNat))] [] [(103,sRN MRN)] [(28,23),(37,16),(14,10)])) (kn_ok (fun x hx=>by simp only[List.mem_singleton]at hx;subst hx;exact okItNat) (pu_one1 puRN)) lp_none ?_
 intro c n vals obs K h
 split at h<;>try exact h.elim
 obtain⟨l,hl,hc,hn,hv,ho,hA,hE⟩:=h
 subst hc;subst hn;subst hv
 simp only[List.cons.injEq]at ho
 obtain⟨rfl,rfl⟩:=ho
 refine⟨StX stepEntry zEntry l,2,300,fun p=>l.length-p.1.2,IXEntry r l,fun _ e v o=>RXEntry r l e v o,⟨(zEntry,0),⟨Nat.zero_le _,rfl⟩⟩,rfl,wk_weak (WeakL.refl _) (.cons (.refl _) (.cons (.cells (.cons (.refl _) (.cons (.refl _) (.cons (.refl _) (.cons (.refl _) (.cons (.refl _) (.cons (.refl _) (.cons .nilD (.cons (.refl _) (.cons (.refl _) (.cons (.refl _) (.cons (.refl _) (.nil))))))))))))) .nil)),?_,rndXEntry r hr l hl⟩
 intro e v o hR
 rcases hR with⟨x,h1,rfl,rfl,rfl⟩ | ⟨h1,rfl,rfl,rfl⟩
 ·exact hA x h1
 ·exact hE h1
def rcEntry:AObj := .cells [.int .i64 0,.string (bytesOf []),.string (bytesOf []),.int .i64 0,.int .i64 0,.int .i64 0,.slice none 0 0,.int .i64 0,.int .i64 0,.int .u64 0,.bool false] 34 11 false true
def rvEntry(q:Nat×OEntry):Value := .tuple ⟨[vEntry q.2,.int .i64 (q.1:Int)]⟩
theorem rdEntryC(s:ByteArray):Is (gRdEntry (real Try.prog) MD (LXrEntry rcEntry) s (fun v=>Weak v (rvEntry (rdE stepEntry zEntry s.data.toList)))):=by
 refine⟨?_⟩
 rw[gRdEntry_eq]
 refine⟨fun h0=>n_dlen _ (rowsT_len _) ⟨_,dec_len _,rfl,rfl,rfl,rfl,fun x hx=>?_,fun hx=>?_⟩,fun h3=>?_,fun h4=>?_⟩
 ·rw[rdE_ok h0 hx];exact Weak.refl _
 ·rw[rdE_no h0 hx];exact(.tup (.cons (.agg (.cons (.refl _) (.cons (.refl _) (.cons (.refl _) (.cons (.refl _) (.cons (.refl _) (.cons (.refl _) (.cons .nilD (.cons (.refl _) (.cons (.refl _) (.cons (.refl _) (.cons (.refl _) (.nil))))))))))))) (WeakL.refl _)))
 ·rw[rdE_bad (by omega),h3];exact(.tup (.cons (.agg (.cons (.refl _) (.cons (.refl _) (.cons (.refl _) (.cons (.refl _) (.cons (.refl _) (.cons (.refl _) (.cons .nilD (.cons (.refl _) (.cons (.refl _) (.cons (.refl _) (.cons (.refl _) (.nil))))))))))))) (WeakL.refl _)))
 ·rw[rdE_bad (by omega),h4];exact(.tup (.cons (.agg (.cons (.refl _) (.cons (.refl _) (.cons (.refl _) (.cons (.refl _) (.cons (.refl _) (.cons (.refl _) (.cons .nilD (.cons (.refl _) (.cons (.refl _) (.cons (.refl _) (.cons (.refl _) (.nil))))))))))))) (WeakL.refl _)))
theorem rdEntryH(s:ByteArray)(B:Base)(H:Heap):CallH Try.prog 100 B 48 [.string s] H (.returned (rvEntry (rdE stepEntry zEntry s.data.toList))) H:=
 pu_mkW (kn_pu (pu_one1 puDec)) (lp_ok (fun x hx=>by simp only[List.mem_singleton]at hx;subst hx;exact lpXEntry rcEntry rfl)) rfl rfl (rdEntryC s) B H
def xbBlock(x:OBlock):AObj := .cells [.int .i64 x.id,dsl (rowsOf cInstr x.code)] 37 2 false true
def IXBlock(r:AObj)(l:List At)(p:StX stepBlock zBlock l):List Value×List (Option AObj):=([.func (.func 81) ⟨[]⟩ ⟨[pA 101]⟩,dsl (rowsT l),.int .i64 (l.length:Int),.int .i64 (p.1.2:Int)],[some r,some (xbBlock p.1.1)])
def RXBlock(r:AObj)(l:List At)(e:Exit)(v:List Value)(o:List (Option AObj)):Prop:=
 (∃x,run stepBlock zBlock l=some x/\e = .exit 0/\v=[top]/\o=[some r,some (xbBlock x)])∨(run stepBlock zBlock l=none/\e = .ret/\v=[.int .i64 3]/\o=[some r,none])
theorem rndXBlock(r:AObj)(hr:belowO 102 (some r)=true)(l:List At)(hl:l.length<=255)(p:StX stepBlock zBlock l):
  Is (wpe Try.prog (real Try.prog) (howOf Z0 Zp [(82,sItems 83 (MItr rdInstr cInstr))] [] [(103,sRN MRN)] [(28,23),(37,16),(14,10)]) 300 (.code false (loopIn Try.prog 59 5) (stOf 100 37 [1,18,19,20] [] (IXBlock r l p))) (roundQ 100 [1,18,19,20] [4] 37 []
   (fun vals objs=>∃a':StX stepBlock zBlock l,l.length-a'.1.2<l.length-p.1.2/\Wk 100 (100+2) vals objs (IXBlock r l a').1 (IXBlock r l a').2/\∀e v o,RXBlock r l e v o->RXBlock r l e v o)
   (fun e vals objs=>∃v o,Wk 100 (100+2) vals objs v o/\RXBlock r l e v o))):=by
 refine⟨?_⟩
 obtain⟨⟨x,i⟩,inv⟩:=p
 have hle:i<=l.length:=inv.le
 show gRdBlockR (real Try.prog) (MItr rdInstr cInstr) MRN (some r) x.id (rowsOf cInstr x.code) (rowsT l) (l.length:Int) (i:Int) _ _
 rw[gRdBlockR_eq]
 refine n_ltN (fun hlt=>?_) (fun hge=>?_)
 ·have ha:l[i]?=some l[i]:=List.getElem?_eq_getElem hlt
  generalize l[i]=a at ha
  have hms:l.length-(i+1)<l.length-i:=by omega
  refine n_dget i rfl (rowsT_get ha) rfl (n_rdI (z:=(a.t:Int)) rfl (n_rdS (z:=a.v) rfl ?_))
  refine n_eqN (d:=1) (fun h=>?_) (fun hn1=>?_)
  ·refine⟨2147483647,rfl,fun n hn=>?_,fun hn=>?_⟩
   ·have hs:stepBlock x a=some {x with id:=(n:Int)}:=by unfold stepBlock;rw[h];show(getI 2147483647 a.v.data.toList).map _=_;unfold getI;rw[hn];rfl
    exact n_fit uU64 uI64 (fit_i64 (by have:=(rnum_ok hn).2.1;omega)) (n_inc (by omega) ⟨rfl,⟨({x with id:=(n:Int)},i+1),inv.next ha hs⟩,hms,wk_x hr rfl,fun _ _ _ h=>h⟩)
   ·have hs:stepBlock x a=none:=by unfold stepBlock;rw[h];show(getI 2147483647 a.v.data.toList).map _=_;unfold getI;rw[hn];rfl
    exact n_fit (m:=0) uU64 uI64 (fit_i64 (by omega)) ⟨rfl,_,_,wk_y hr rfl,.inr ⟨inv.bad ha hs,rfl,rfl,rfl⟩⟩
  refine n_eqN (d:=2) (fun h=>?_) (fun hn2=>?_)
  ·refine⟨32,rfl,by omega,fun v hv=>?_,fun hv v=>?_⟩
   ·have hs:stepBlock x a=some {x with code:=v}:=by unfold stepBlock;rw[h];show(getL rdInstr 32 a.v.data.toList).map _=_;rw[hv];rfl
    exact n_inc (by omega) ⟨rfl,⟨({x with code:=v},i+1),inv.next ha hs⟩,hms,wk_x hr rfl,fun _ _ _ h=>h⟩
   ·have hs:stepBlock x a=none:=by unfold stepBlock;rw[h];show(getL rdInstr 32 a.v.data.toList).map _=_;rw[hv];rfl
    exact⟨rfl,_,_,wk_y hr rfl,.inr ⟨inv.bad ha hs,rfl,rfl,rfl⟩⟩
  have hs:stepBlock x a=none:=by
   unfold stepBlock
   split<;>first|rfl|contradiction
  exact⟨rfl,_,_,wk_y hr rfl,.inr ⟨inv.bad ha hs,rfl,rfl,rfl⟩⟩
 ·exact⟨rfl,_,_,Wk.refl _ _ _ _,.inl ⟨x,inv.last (by omega),rfl,rfl,rfl⟩⟩
def LXrBlock(r:AObj):LXBlock:=fun c n vals obs A E=>∃l:List At,l.length<=255/\c=loopIn Try.prog 59 5/\n=37/\vals=[.func (.func 81) ⟨[]⟩ ⟨[pA 101]⟩,dsl (rowsT l),.int .i64 (Int.ofNat l.length),.int .i64 (0:Int)]/\obs=[some r,some (.cells [.int .i64 0,.slice none 0 0] 37 2 false true)]/\
 (∀x,run stepBlock zBlock l=some x->A x.id (rowsOf cInstr x.code))/\(run stepBlock zBlock l=none->E)
theorem lpXBlock(r:AObj)(hr:belowO 102 (some r)=true):LoopOk Try.prog 100 [1,18,19,20] (sLoBlock (LXrBlock r)):=by
 show LoopOk Try.prog 100 [1,18,19,20] (lpS [4] _)
 refine lp_mk okp (W:=(howOf Z0 Zp [(82,sItems 83 (MItr rdInstr cInstr))] [] [(103,sRN MRN)] [(28,23),(37,16),(14,10)])) (kn_ok (fun x hx=>by simp only[List.mem_singleton]at hx;subst hx;exact okItInstr) (pu_one1 puRN)) lp_none ?_
 intro c n vals obs K h
 split at h<;>try exact h.elim
 obtain⟨l,hl,hc,hn,hv,ho,hA,hE⟩:=h
 subst hc;subst hn;subst hv
 simp only[List.cons.injEq]at ho
 obtain⟨rfl,rfl⟩:=ho
 refine⟨StX stepBlock zBlock l,2,300,fun p=>l.length-p.1.2,IXBlock r l,fun _ e v o=>RXBlock r l e v o,⟨(zBlock,0),⟨Nat.zero_le _,rfl⟩⟩,rfl,wk_weak (WeakL.refl _) (.cons (.refl _) (.cons (.cells (.cons (.refl _) (.cons .nilD (.nil)))) .nil)),?_,rndXBlock r hr l hl⟩
 intro e v o hR
 rcases hR with⟨x,h1,rfl,rfl,rfl⟩ | ⟨h1,rfl,rfl,rfl⟩
 ·exact hA x h1
 ·exact hE h1
def rcBlock:AObj := .cells [.int .i64 0,.slice none 0 0] 37 2 false true
def rvBlock(q:Nat×OBlock):Value := .tuple ⟨[vBlock q.2,.int .i64 (q.1:Int)]⟩
theorem rdBlockC(s:ByteArray):Is (gRdBlock (real Try.prog) MD (LXrBlock rcBlock) s (fun v=>Weak v (rvBlock (rdE stepBlock zBlock s.data.toList)))):=by
 refine⟨?_⟩
 rw[gRdBlock_eq]
 refine⟨fun h0=>n_dlen _ (rowsT_len _) ⟨_,dec_len _,rfl,rfl,rfl,rfl,fun x hx=>?_,fun hx=>?_⟩,fun h3=>?_,fun h4=>?_⟩
 ·rw[rdE_ok h0 hx];exact Weak.refl _
 ·rw[rdE_no h0 hx];exact(.tup (.cons (.agg (.cons (.refl _) (.cons .nilD (.nil)))) (WeakL.refl _)))
 ·rw[rdE_bad (by omega),h3];exact(.tup (.cons (.agg (.cons (.refl _) (.cons .nilD (.nil)))) (WeakL.refl _)))
 ·rw[rdE_bad (by omega),h4];exact(.tup (.cons (.agg (.cons (.refl _) (.cons .nilD (.nil)))) (WeakL.refl _)))
theorem rdBlockH(s:ByteArray)(B:Base)(H:Heap):CallH Try.prog 100 B 49 [.string s] H (.returned (rvBlock (rdE stepBlock zBlock s.data.toList))) H:=
 pu_mkW (kn_pu (pu_one1 puDec)) (lp_ok (fun x hx=>by simp only[List.mem_singleton]at hx;subst hx;exact lpXBlock rcBlock rfl)) rfl rfl (rdBlockC s) B H
def xbGroup(x:OGroup):AObj := .cells [.int .i64 x.id,.int .u8 (x.kind:Int),.int .i64 x.fld,dsl (rowsOf cBucket x.bks)] 40 4 false true
def IXGroup(r:AObj)(l:List At)(p:StX stepGroup zGroup l):List Value×List (Option AObj):=([.func (.func 84) ⟨[]⟩ ⟨[pA 101]⟩,dsl (rowsT l),.int .i64 (l.length:Int),.int .i64 (p.1.2:Int)],[some r,some (xbGroup p.1.1)])
def RXGroup(r:AObj)(l:List At)(e:Exit)(v:List Value)(o:List (Option AObj)):Prop:=
 (∃x,run stepGroup zGroup l=some x/\e = .exit 0/\v=[top]/\o=[some r,some (xbGroup x)])∨(run stepGroup zGroup l=none/\e = .ret/\v=[.int .i64 3]/\o=[some r,none])
theorem rndXGroup(r:AObj)(hr:belowO 102 (some r)=true)(l:List At)(hl:l.length<=255)(p:StX stepGroup zGroup l):
  Is (wpe Try.prog (real Try.prog) (howOf Z0 Zp [(85,sItems 86 (MItr rdBucket cBucket))] [] [(103,sRN MRN)] [(28,23),(37,16),(14,10)]) 300 (.code false (loopIn Try.prog 59 5) (stOf 100 37 [1,18,19,20] [] (IXGroup r l p))) (roundQ 100 [1,18,19,20] [4] 37 []
   (fun vals objs=>∃a':StX stepGroup zGroup l,l.length-a'.1.2<l.length-p.1.2/\Wk 100 (100+2) vals objs (IXGroup r l a').1 (IXGroup r l a').2/\∀e v o,RXGroup r l e v o->RXGroup r l e v o)
   (fun e vals objs=>∃v o,Wk 100 (100+2) vals objs v o/\RXGroup r l e v o))):=by
 refine⟨?_⟩
 obtain⟨⟨x,i⟩,inv⟩:=p
 have hle:i<=l.length:=inv.le
 show gRdGroupR (real Try.prog) (MItr rdBucket cBucket) MRN (some r) x.id (x.kind:Int) x.fld (rowsOf cBucket x.bks) (rowsT l) (l.length:Int) (i:Int) _ _
 rw[gRdGroupR_eq]
 refine n_ltN (fun hlt=>?_) (fun hge=>?_)
 ·have ha:l[i]?=some l[i]:=List.getElem?_eq_getElem hlt
  generalize l[i]=a at ha
  have hms:l.length-(i+1)<l.length-i:=by omega
  refine n_dget i rfl (rowsT_get ha) rfl (n_rdI (z:=(a.t:Int)) rfl (n_rdS (z:=a.v) rfl ?_))
  refine n_eqN (d:=1) (fun h=>?_) (fun hn1=>?_)
  ·refine⟨2147483647,rfl,fun n hn=>?_,fun hn=>?_⟩
   ·have hs:stepGroup x a=some {x with id:=(n:Int)}:=by unfold stepGroup;rw[h];show(getI 2147483647 a.v.data.toList).map _=_;unfold getI;rw[hn];rfl
    exact n_fit uU64 uI64 (fit_i64 (by have:=(rnum_ok hn).2.1;omega)) (n_inc (by omega) ⟨rfl,⟨({x with id:=(n:Int)},i+1),inv.next ha hs⟩,hms,wk_x hr rfl,fun _ _ _ h=>h⟩)
   ·have hs:stepGroup x a=none:=by unfold stepGroup;rw[h];show(getI 2147483647 a.v.data.toList).map _=_;unfold getI;rw[hn];rfl
    exact n_fit (m:=0) uU64 uI64 (fit_i64 (by omega)) ⟨rfl,_,_,wk_y hr rfl,.inr ⟨inv.bad ha hs,rfl,rfl,rfl⟩⟩
  refine n_eqN (d:=2) (fun h=>?_) (fun hn2=>?_)
  ·refine⟨255,rfl,fun n hn=>?_,fun hn=>?_⟩
   ·have hs:stepGroup x a=some {x with kind:=n}:=by unfold stepGroup;rw[h];show(getN 255 a.v.data.toList).map _=_;unfold getN;rw[hn];rfl
    exact n_fit uU64 uU8 (fit_u8 (by have:=(rnum_ok hn).2.1;omega)) (n_inc (by omega) ⟨rfl,⟨({x with kind:=n},i+1),inv.next ha hs⟩,hms,wk_x hr rfl,fun _ _ _ h=>h⟩)
   ·have hs:stepGroup x a=none:=by unfold stepGroup;rw[h];show(getN 255 a.v.data.toList).map _=_;unfold getN;rw[hn];rfl
    exact n_fit (m:=0) uU64 uU8 (fit_u8 (by omega)) ⟨rfl,_,_,wk_y hr rfl,.inr ⟨inv.bad ha hs,rfl,rfl,rfl⟩⟩
  refine n_eqN (d:=3) (fun h=>?_) (fun hn3=>?_)
  ·refine⟨2147483647,rfl,fun n hn=>?_,fun hn=>?_⟩
   ·have hs:stepGroup x a=some {x with fld:=(n:Int)}:=by unfold stepGroup;rw[h];show(getI 2147483647 a.v.data.toList).map _=_;unfold getI;rw[hn];rfl
    exact n_fit uU64 uI64 (fit_i64 (by have:=(rnum_ok hn).2.1;omega)) (n_inc (by omega) ⟨rfl,⟨({x with fld:=(n:Int)},i+1),inv.next ha hs⟩,hms,wk_x hr rfl,fun _ _ _ h=>h⟩)
   ·have hs:stepGroup x a=none:=by unfold stepGroup;rw[h];show(getI 2147483647 a.v.data.toList).map _=_;unfold getI;rw[hn];rfl
    exact n_fit (m:=0) uU64 uI64 (fit_i64 (by omega)) ⟨rfl,_,_,wk_y hr rfl,.inr ⟨inv.bad ha hs,rfl,rfl,rfl⟩⟩
  refine n_eqN (d:=4) (fun h=>?_) (fun hn4=>?_)
  ·refine⟨16,rfl,by omega,fun v hv=>?_,fun hv v=>?_⟩
   ·have hs:stepGroup x a=some {x with bks:=v}:=by unfold stepGroup;rw[h];show(getL rdBucket 16 a.v.data.toList).map _=_;rw[hv];rfl
    exact n_inc (by omega) ⟨rfl,⟨({x with bks:=v},i+1),inv.next ha hs⟩,hms,wk_x hr rfl,fun _ _ _ h=>h⟩
   ·have hs:stepGroup x a=none:=by unfold stepGroup;rw[h];show(getL rdBucket 16 a.v.data.toList).map _=_;rw[hv];rfl
    exact⟨rfl,_,_,wk_y hr rfl,.inr ⟨inv.bad ha hs,rfl,rfl,rfl⟩⟩
  have hs:stepGroup x a=none:=by
   unfold stepGroup
   split<;>first|rfl|contradiction
  exact⟨rfl,_,_,wk_y hr rfl,.inr ⟨inv.bad ha hs,rfl,rfl,rfl⟩⟩
 ·exact⟨rfl,_,_,Wk.refl _ _ _ _,.inl ⟨x,inv.last (by omega),rfl,rfl,rfl⟩⟩
def LXrGroup(r:AObj):LXGroup:=fun c n vals obs A E=>∃l:List At,l.length<=255/\c=loopIn Try.prog 59 5/\n=37/\vals=[.func (.func 84) ⟨[]⟩ ⟨[pA 101]⟩,dsl (rowsT l),.int .i64 (Int.ofNat l.length),.int .i64 (0:Int)]/\obs=[some r,some (.cells [.int .i64 0,.int .u8 0,.int .i64 0,.slice none 0 0] 40 4 false true)]/\
 (∀x,run stepGroup zGroup l=some x->A x.id (x.kind:Int) x.fld (rowsOf cBucket x.bks))/\(run stepGroup zGroup l=none->E)
theorem lpXGroup(r:AObj)(hr:belowO 102 (some r)=true):LoopOk Try.prog 100 [1,18,19,20] (sLoGroup (LXrGroup r)):=by
 show LoopOk Try.prog 100 [1,18,19,20] (lpS [4] _)
 refine lp_mk okp (W:=(howOf Z0 Zp [(85,sItems 86 (MItr rdBucket cBucket))] [] [(103,sRN MRN)] [(28,23),(37,16),(14,10)])) (kn_ok (fun x hx=>by simp only[List.mem_singleton]at hx;subst hx;exact okItBucket) (pu_one1 puRN)) lp_none ?_
 intro c n vals obs K h
 split at h<;>try exact h.elim
 obtain⟨l,hl,hc,hn,hv,ho,hA,hE⟩:=h
 subst hc;subst hn;subst hv
 simp only[List.cons.injEq]at ho
 obtain⟨rfl,rfl⟩:=ho
 refine⟨StX stepGroup zGroup l,2,300,fun p=>l.length-p.1.2,IXGroup r l,fun _ e v o=>RXGroup r l e v o,⟨(zGroup,0),⟨Nat.zero_le _,rfl⟩⟩,rfl,wk_weak (WeakL.refl _) (.cons (.refl _) (.cons (.cells (.cons (.refl _) (.cons (.refl _) (.cons (.refl _) (.cons .nilD (.nil)))))) .nil)),?_,rndXGroup r hr l hl⟩
 intro e v o hR
 rcases hR with⟨x,h1,rfl,rfl,rfl⟩ | ⟨h1,rfl,rfl,rfl⟩
 ·exact hA x h1
 ·exact hE h1
def rcGroup:AObj := .cells [.int .i64 0,.int .u8 0,.int .i64 0,.slice none 0 0] 40 4 false true
def rvGroup(q:Nat×OGroup):Value := .tuple ⟨[vGroup q.2,.int .i64 (q.1:Int)]⟩
theorem rdGroupC(s:ByteArray):Is (gRdGroup (real Try.prog) MD (LXrGroup rcGroup) s (fun v=>Weak v (rvGroup (rdE stepGroup zGroup s.data.toList)))):=by
 refine⟨?_⟩
 rw[gRdGroup_eq]
 refine⟨fun h0=>n_dlen _ (rowsT_len _) ⟨_,dec_len _,rfl,rfl,rfl,rfl,fun x hx=>?_,fun hx=>?_⟩,fun h3=>?_,fun h4=>?_⟩
 ·rw[rdE_ok h0 hx];exact Weak.refl _
 ·rw[rdE_no h0 hx];exact(.tup (.cons (.agg (.cons (.refl _) (.cons (.refl _) (.cons (.refl _) (.cons .nilD (.nil)))))) (WeakL.refl _)))
 ·rw[rdE_bad (by omega),h3];exact(.tup (.cons (.agg (.cons (.refl _) (.cons (.refl _) (.cons (.refl _) (.cons .nilD (.nil)))))) (WeakL.refl _)))
 ·rw[rdE_bad (by omega),h4];exact(.tup (.cons (.agg (.cons (.refl _) (.cons (.refl _) (.cons (.refl _) (.cons .nilD (.nil)))))) (WeakL.refl _)))
theorem rdGroupH(s:ByteArray)(B:Base)(H:Heap):CallH Try.prog 100 B 50 [.string s] H (.returned (rvGroup (rdE stepGroup zGroup s.data.toList))) H:=
 pu_mkW (kn_pu (pu_one1 puDec)) (lp_ok (fun x hx=>by simp only[List.mem_singleton]at hx;subst hx;exact lpXGroup rcGroup rfl)) rfl rfl (rdGroupC s) B H
def xbMeter(x:OMeter):AObj := .cells [.int .i64 x.id,.int .i64 x.rate,.int .i64 x.burst] 42 3 false true
def IXMeter(r:AObj)(l:List At)(p:StX stepMeter zMeter l):List Value×List (Option AObj):=([.func (.func 60) ⟨[]⟩ ⟨[pA 101]⟩,dsl (rowsT l),.int .i64 (l.length:Int),.int .i64 (p.1.2:Int)],[some r,some (xbMeter p.1.1)])
def RXMeter(r:AObj)(l:List At)(e:Exit)(v:List Value)(o:List (Option AObj)):Prop:=
 (∃x,run stepMeter zMeter l=some x/\e = .exit 0/\v=[top]/\o=[some r,some (xbMeter x)])∨(run stepMeter zMeter l=none/\e = .ret/\v=[.int .i64 3]/\o=[some r,none])
theorem rndXMeter(r:AObj)(hr:belowO 102 (some r)=true)(l:List At)(hl:l.length<=255)(p:StX stepMeter zMeter l):
  Is (wpe Try.prog (real Try.prog) (howOf Z0 Zp [] [] [(103,sRN MRN)] [(28,23),(37,16),(14,10)]) 300 (.code false (loopIn Try.prog 59 5) (stOf 100 37 [1,18,19,20] [] (IXMeter r l p))) (roundQ 100 [1,18,19,20] [4] 37 []
   (fun vals objs=>∃a':StX stepMeter zMeter l,l.length-a'.1.2<l.length-p.1.2/\Wk 100 (100+2) vals objs (IXMeter r l a').1 (IXMeter r l a').2/\∀e v o,RXMeter r l e v o->RXMeter r l e v o)
   (fun e vals objs=>∃v o,Wk 100 (100+2) vals objs v o/\RXMeter r l e v o))):=by
 refine⟨?_⟩
 obtain⟨⟨x,i⟩,inv⟩:=p
 have hle:i<=l.length:=inv.le
 show gRdMeterR (real Try.prog) MRN (some r) x.id x.rate x.burst (rowsT l) (l.length:Int) (i:Int) _ _
 rw[gRdMeterR_eq]
 refine n_ltN (fun hlt=>?_) (fun hge=>?_)
 ·have ha:l[i]?=some l[i]:=List.getElem?_eq_getElem hlt
  generalize l[i]=a at ha
  have hms:l.length-(i+1)<l.length-i:=by omega
  refine n_dget i rfl (rowsT_get ha) rfl (n_rdI (z:=(a.t:Int)) rfl (n_rdS (z:=a.v) rfl ?_))
  refine n_eqN (d:=1) (fun h=>?_) (fun hn1=>?_)
  ·refine⟨2147483647,rfl,fun n hn=>?_,fun hn=>?_⟩
   ·have hs:stepMeter x a=some {x with id:=(n:Int)}:=by unfold stepMeter;rw[h];show(getI 2147483647 a.v.data.toList).map _=_;unfold getI;rw[hn];rfl
    exact n_fit uU64 uI64 (fit_i64 (by have:=(rnum_ok hn).2.1;omega)) (n_inc (by omega) ⟨rfl,⟨({x with id:=(n:Int)},i+1),inv.next ha hs⟩,hms,wk_x hr rfl,fun _ _ _ h=>h⟩)
   ·have hs:stepMeter x a=none:=by unfold stepMeter;rw[h];show(getI 2147483647 a.v.data.toList).map _=_;unfold getI;rw[hn];rfl
    exact n_fit (m:=0) uU64 uI64 (fit_i64 (by omega)) ⟨rfl,_,_,wk_y hr rfl,.inr ⟨inv.bad ha hs,rfl,rfl,rfl⟩⟩
  refine n_eqN (d:=2) (fun h=>?_) (fun hn2=>?_)
  ·refine⟨9223372036854775807,rfl,fun n hn=>?_,fun hn=>?_⟩
   ·have hs:stepMeter x a=some {x with rate:=(n:Int)}:=by unfold stepMeter;rw[h];show(getI 9223372036854775807 a.v.data.toList).map _=_;unfold getI;rw[hn];rfl
    exact n_fit uU64 uLong (fit_i64 (by have:=(rnum_ok hn).2.1;omega)) (n_inc (by omega) ⟨rfl,⟨({x with rate:=(n:Int)},i+1),inv.next ha hs⟩,hms,wk_x hr rfl,fun _ _ _ h=>h⟩)
   ·have hs:stepMeter x a=none:=by unfold stepMeter;rw[h];show(getI 9223372036854775807 a.v.data.toList).map _=_;unfold getI;rw[hn];rfl
    exact n_fit (m:=0) uU64 uLong (fit_i64 (by omega)) ⟨rfl,_,_,wk_y hr rfl,.inr ⟨inv.bad ha hs,rfl,rfl,rfl⟩⟩
  refine n_eqN (d:=3) (fun h=>?_) (fun hn3=>?_)
  ·refine⟨9223372036854775807,rfl,fun n hn=>?_,fun hn=>?_⟩
   ·have hs:stepMeter x a=some {x with burst:=(n:Int)}:=by unfold stepMeter;rw[h];show(getI 9223372036854775807 a.v.data.toList).map _=_;unfold getI;rw[hn];rfl
    exact n_fit uU64 uLong (fit_i64 (by have:=(rnum_ok hn).2.1;omega)) (n_inc (by omega) ⟨rfl,⟨({x with burst:=(n:Int)},i+1),inv.next ha hs⟩,hms,wk_x hr rfl,fun _ _ _ h=>h⟩)
   ·have hs:stepMeter x a=none:=by unfold stepMeter;rw[h];show(getI 9223372036854775807 a.v.data.toList).map _=_;unfold getI;rw[hn];rfl
    exact n_fit (m:=0) uU64 uLong (fit_i64 (by omega)) ⟨rfl,_,_,wk_y hr rfl,.inr ⟨inv.bad ha hs,rfl,rfl,rfl⟩⟩
  have hs:stepMeter x a=none:=by
   unfold stepMeter
   split<;>first|rfl|contradiction
  exact⟨rfl,_,_,wk_y hr rfl,.inr ⟨inv.bad ha hs,rfl,rfl,rfl⟩⟩
 ·exact⟨rfl,_,_,Wk.refl _ _ _ _,.inl ⟨x,inv.last (by omega),rfl,rfl,rfl⟩⟩
def LXrMeter(r:AObj):LXMeter:=fun c n vals obs A E=>∃l:List At,l.length<=255/\c=loopIn Try.prog 59 5/\n=37/\vals=[.func (.func 60) ⟨[]⟩ ⟨[pA 101]⟩,dsl (rowsT l),.int .i64 (Int.ofNat l.length),.int .i64 (0:Int)]/\obs=[some r,some (.cells [.int .i64 0,.int .i64 0,.int .i64 0] 42 3 false true)]/\
 (∀x,run stepMeter zMeter l=some x->A x.id x.rate x.burst)/\(run stepMeter zMeter l=none->E)
theorem lpXMeter(r:AObj)(hr:belowO 102 (some r)=true):LoopOk Try.prog 100 [1,18,19,20] (sLoMeter (LXrMeter r)):=by
 show LoopOk Try.prog 100 [1,18,19,20] (lpS [4] _)
 refine lp_mk okp (W:=(howOf Z0 Zp [] [] [(103,sRN MRN)] [(28,23),(37,16),(14,10)])) (kn_pu (pu_one1 puRN)) lp_none ?_
 intro c n vals obs K h
 split at h<;>try exact h.elim
 obtain⟨l,hl,hc,hn,hv,ho,hA,hE⟩:=h
 subst hc;subst hn;subst hv
 simp only[List.cons.injEq]at ho
 obtain⟨rfl,rfl⟩:=ho
 refine⟨StX stepMeter zMeter l,2,300,fun p=>l.length-p.1.2,IXMeter r l,fun _ e v o=>RXMeter r l e v o,⟨(zMeter,0),⟨Nat.zero_le _,rfl⟩⟩,rfl,Wk.refl _ _ _ _,?_,rndXMeter r hr l hl⟩
 intro e v o hR
 rcases hR with⟨x,h1,rfl,rfl,rfl⟩ | ⟨h1,rfl,rfl,rfl⟩
 ·exact hA x h1
 ·exact hE h1
def rcMeter:AObj := .cells [.int .i64 0,.int .i64 0,.int .i64 0] 42 3 false true
def rvMeter(q:Nat×OMeter):Value := .tuple ⟨[vMeter q.2,.int .i64 (q.1:Int)]⟩
theorem rdMeterC(s:ByteArray):Is (gRdMeter (real Try.prog) MD (LXrMeter rcMeter) s (fun v=>Weak v (rvMeter (rdE stepMeter zMeter s.data.toList)))):=by
 refine⟨?_⟩
 rw[gRdMeter_eq]
 refine⟨fun h0=>n_dlen _ (rowsT_len _) ⟨_,dec_len _,rfl,rfl,rfl,rfl,fun x hx=>?_,fun hx=>?_⟩,fun h3=>?_,fun h4=>?_⟩
 ·rw[rdE_ok h0 hx];exact Weak.refl _
 ·rw[rdE_no h0 hx];exact(Weak.refl _)
 ·rw[rdE_bad (by omega),h3];exact(Weak.refl _)
 ·rw[rdE_bad (by omega),h4];exact(Weak.refl _)
theorem rdMeterH(s:ByteArray)(B:Base)(H:Heap):CallH Try.prog 100 B 31 [.string s] H (.returned (rvMeter (rdE stepMeter zMeter s.data.toList))) H:=
 pu_mkW (kn_pu (pu_one1 puDec)) (lp_ok (fun x hx=>by simp only[List.mem_singleton]at hx;subst hx;exact lpXMeter rcMeter rfl)) rfl rfl (rdMeterC s) B H
def xbRegs(x:ORegs):AObj := .cells [.int .i64 x.id,.int .i64 x.size] 44 2 false true
def IXRegs(r:AObj)(l:List At)(p:StX stepRegs zRegs l):List Value×List (Option AObj):=([.func (.func 87) ⟨[]⟩ ⟨[pA 101]⟩,dsl (rowsT l),.int .i64 (l.length:Int),.int .i64 (p.1.2:Int)],[some r,some (xbRegs p.1.1)])
def RXRegs(r:AObj)(l:List At)(e:Exit)(v:List Value)(o:List (Option AObj)):Prop:=
 (∃x,run stepRegs zRegs l=some x/\e = .exit 0/\v=[top]/\o=[some r,some (xbRegs x)])∨(run stepRegs zRegs l=none/\e = .ret/\v=[.int .i64 3]/\o=[some r,none])
theorem rndXRegs(r:AObj)(hr:belowO 102 (some r)=true)(l:List At)(hl:l.length<=255)(p:StX stepRegs zRegs l):
  Is (wpe Try.prog (real Try.prog) (howOf Z0 Zp [] [] [(103,sRN MRN)] [(28,23),(37,16),(14,10)]) 300 (.code false (loopIn Try.prog 59 5) (stOf 100 37 [1,18,19,20] [] (IXRegs r l p))) (roundQ 100 [1,18,19,20] [4] 37 []
   (fun vals objs=>∃a':StX stepRegs zRegs l,l.length-a'.1.2<l.length-p.1.2/\Wk 100 (100+2) vals objs (IXRegs r l a').1 (IXRegs r l a').2/\∀e v o,RXRegs r l e v o->RXRegs r l e v o)
   (fun e vals objs=>∃v o,Wk 100 (100+2) vals objs v o/\RXRegs r l e v o))):=by
 refine⟨?_⟩
 obtain⟨⟨x,i⟩,inv⟩:=p
 have hle:i<=l.length:=inv.le
 show gRdRegsR (real Try.prog) MRN (some r) x.id x.size (rowsT l) (l.length:Int) (i:Int) _ _
 rw[gRdRegsR_eq]
 refine n_ltN (fun hlt=>?_) (fun hge=>?_)
 ·have ha:l[i]?=some l[i]:=List.getElem?_eq_getElem hlt
  generalize l[i]=a at ha
  have hms:l.length-(i+1)<l.length-i:=by omega
  refine n_dget i rfl (rowsT_get ha) rfl (n_rdI (z:=(a.t:Int)) rfl (n_rdS (z:=a.v) rfl ?_))
  refine n_eqN (d:=1) (fun h=>?_) (fun hn1=>?_)
  ·refine⟨2147483647,rfl,fun n hn=>?_,fun hn=>?_⟩
   ·have hs:stepRegs x a=some {x with id:=(n:Int)}:=by unfold stepRegs;rw[h];show(getI 2147483647 a.v.data.toList).map _=_;unfold getI;rw[hn];rfl
    exact n_fit uU64 uI64 (fit_i64 (by have:=(rnum_ok hn).2.1;omega)) (n_inc (by omega) ⟨rfl,⟨({x with id:=(n:Int)},i+1),inv.next ha hs⟩,hms,wk_x hr rfl,fun _ _ _ h=>h⟩)
   ·have hs:stepRegs x a=none:=by unfold stepRegs;rw[h];show(getI 2147483647 a.v.data.toList).map _=_;unfold getI;rw[hn];rfl
    exact n_fit (m:=0) uU64 uI64 (fit_i64 (by omega)) ⟨rfl,_,_,wk_y hr rfl,.inr ⟨inv.bad ha hs,rfl,rfl,rfl⟩⟩
  refine n_eqN (d:=2) (fun h=>?_) (fun hn2=>?_)
  ·refine⟨2147483647,rfl,fun n hn=>?_,fun hn=>?_⟩
   ·have hs:stepRegs x a=some {x with size:=(n:Int)}:=by unfold stepRegs;rw[h];show(getI 2147483647 a.v.data.toList).map _=_;unfold getI;rw[hn];rfl
    exact n_fit uU64 uI64 (fit_i64 (by have:=(rnum_ok hn).2.1;omega)) (n_inc (by omega) ⟨rfl,⟨({x with size:=(n:Int)},i+1),inv.next ha hs⟩,hms,wk_x hr rfl,fun _ _ _ h=>h⟩)
   ·have hs:stepRegs x a=none:=by unfold stepRegs;rw[h];show(getI 2147483647 a.v.data.toList).map _=_;unfold getI;rw[hn];rfl
    exact n_fit (m:=0) uU64 uI64 (fit_i64 (by omega)) ⟨rfl,_,_,wk_y hr rfl,.inr ⟨inv.bad ha hs,rfl,rfl,rfl⟩⟩
  have hs:stepRegs x a=none:=by
   unfold stepRegs
   split<;>first|rfl|contradiction
  exact⟨rfl,_,_,wk_y hr rfl,.inr ⟨inv.bad ha hs,rfl,rfl,rfl⟩⟩
 ·exact⟨rfl,_,_,Wk.refl _ _ _ _,.inl ⟨x,inv.last (by omega),rfl,rfl,rfl⟩⟩
def LXrRegs(r:AObj):LXRegs:=fun c n vals obs A E=>∃l:List At,l.length<=255/\c=loopIn Try.prog 59 5/\n=37/\vals=[.func (.func 87) ⟨[]⟩ ⟨[pA 101]⟩,dsl (rowsT l),.int .i64 (Int.ofNat l.length),.int .i64 (0:Int)]/\obs=[some r,some (.cells [.int .i64 0,.int .i64 0] 44 2 false true)]/\
 (∀x,run stepRegs zRegs l=some x->A x.id x.size)/\(run stepRegs zRegs l=none->E)
theorem lpXRegs(r:AObj)(hr:belowO 102 (some r)=true):LoopOk Try.prog 100 [1,18,19,20] (sLoRegs (LXrRegs r)):=by
 show LoopOk Try.prog 100 [1,18,19,20] (lpS [4] _)
 refine lp_mk okp (W:=(howOf Z0 Zp [] [] [(103,sRN MRN)] [(28,23),(37,16),(14,10)])) (kn_pu (pu_one1 puRN)) lp_none ?_
 intro c n vals obs K h
 split at h<;>try exact h.elim
 obtain⟨l,hl,hc,hn,hv,ho,hA,hE⟩:=h
 subst hc;subst hn;subst hv
 simp only[List.cons.injEq]at ho
 obtain⟨rfl,rfl⟩:=ho
 refine⟨StX stepRegs zRegs l,2,300,fun p=>l.length-p.1.2,IXRegs r l,fun _ e v o=>RXRegs r l e v o,⟨(zRegs,0),⟨Nat.zero_le _,rfl⟩⟩,rfl,Wk.refl _ _ _ _,?_,rndXRegs r hr l hl⟩
 intro e v o hR
 rcases hR with⟨x,h1,rfl,rfl,rfl⟩ | ⟨h1,rfl,rfl,rfl⟩
 ·exact hA x h1
 ·exact hE h1
def rcRegs:AObj := .cells [.int .i64 0,.int .i64 0] 44 2 false true
def rvRegs(q:Nat×ORegs):Value := .tuple ⟨[vRegs q.2,.int .i64 (q.1:Int)]⟩
theorem rdRegsC(s:ByteArray):Is (gRdRegs (real Try.prog) MD (LXrRegs rcRegs) s (fun v=>Weak v (rvRegs (rdE stepRegs zRegs s.data.toList)))):=by
 refine⟨?_⟩
 rw[gRdRegs_eq]
 refine⟨fun h0=>n_dlen _ (rowsT_len _) ⟨_,dec_len _,rfl,rfl,rfl,rfl,fun x hx=>?_,fun hx=>?_⟩,fun h3=>?_,fun h4=>?_⟩
 ·rw[rdE_ok h0 hx];exact Weak.refl _
 ·rw[rdE_no h0 hx];exact(Weak.refl _)
 ·rw[rdE_bad (by omega),h3];exact(Weak.refl _)
 ·rw[rdE_bad (by omega),h4];exact(Weak.refl _)
theorem rdRegsH(s:ByteArray)(B:Base)(H:Heap):CallH Try.prog 100 B 51 [.string s] H (.returned (rvRegs (rdE stepRegs zRegs s.data.toList))) H:=
 pu_mkW (kn_pu (pu_one1 puDec)) (lp_ok (fun x hx=>by simp only[List.mem_singleton]at hx;subst hx;exact lpXRegs rcRegs rfl)) rfl rfl (rdRegsC s) B H
end
end Go.Proofs.Ytblbaohcelldpaa.Ob
