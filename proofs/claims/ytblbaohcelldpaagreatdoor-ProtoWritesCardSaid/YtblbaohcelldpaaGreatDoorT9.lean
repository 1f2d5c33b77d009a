/- . -/
import Derived.Test.YtblbaohcelldpaaGreatDoorT7
set_option linter.all false
set_option maxRecDepth 100000
namespace Go.Proofs.Ob
open Go Go.Abs Go.Tlv
noncomputable section
def RIr{α:Type}(l:List α)(p:α->Bool)(e:Exit)(v:Lv)(o:Lo):Prop:=
 (l.any p=true/\e = .ret/\v=[.bool false]/\o=[])∨(l.any p=false/\e = .exit 0/\v=[top]/\o=[])
def IIr(l:List Int)(i:dC l OG):Lv×Lo:=([dsl (rowsOf EM l),.int .i64 (i.1:Int)],[])
theorem AWU{n:Int}(h:n<0):OG n=true:=by simp[OG,okI];omega
theorem AWT{n:Int}(h:2147483647<n):OG n=true:=by simp[OG,okI];omega
theorem AWV{n:Int}(h:¬n<0)(h2:¬2147483647<n):OG n=false:=by simp[OG,okI];omega
theorem AW4(l:List Int)(hl:l.length<big)(i:dC l OG):
  Is (wpe Tryz.prog (real Tryz.prog) (AP S0 Sp0 [] [] [] []) 300 (.code false (AJ Tryz.prog 54 2) (CX 100 22 [0,3] [] (IIr l i))) (A7 100 [0,3] [2] 22 []
   (fun AB AC=>∃a':dC l OG,l.length-a'.1<l.length-i.1/\Wk 100 (100+0) AB AC (IIr l a').1 (IIr l a').2/\∀e v o,RIr l OG e v o->RIr l OG e v o)
   (fun e AB AC=>∃v o,Wk 100 (100+0) AB AC v o/\RIr l OG e v o))):=by
 refine⟨?_⟩
 obtain⟨i,hi,ha⟩:=i
 show AVI (real Tryz.prog) (rowsOf EM l) (i:Int) _ _
 rw[AVk]
 have hbig:big=1000000000:=rfl
 refine BI l.length (AQ _ _) (EL (fun hlt=>?_) (fun hge=>?_))
 ·have hx:l[i]?=some l[i]:=by simp[hlt]
  generalize l[i]=x at hx
  refine DK i rfl (CL hx) rfl (CG rfl (ALF (fun hp=>⟨rfl,_,_,Wk.refl _ _ _ _,.inl ⟨sJ hx (AWU hp),rfl,rfl,rfl⟩⟩) (fun hp=>DK i rfl (CL hx) rfl (CG rfl (dB (fun hp=>⟨rfl,_,_,Wk.refl _ _ _ _,.inl ⟨sJ hx (AWT hp),rfl,rfl,rfl⟩⟩) (fun hp2=>BZ (by omega) ⟨rfl,⟨i+1,hlt,aF hx ha (AWV hp hp2)⟩,?_,Wk.refl _ _ _ _,fun _ _ _ h=>h⟩))))))
  show l.length-(i+1)<l.length-i
  omega
 ·have e:i=l.length:=by omega
  subst e
  rw[List.take_length]at ha
  exact⟨rfl,_,_,Wk.refl _ _ _ _,.inr ⟨ha,rfl,rfl,rfl⟩⟩
def LRi:LRt:=fun code n AB obs A E=>∃l:List Int,l.length<big/\code=AJ Tryz.prog 54 2/\n=22/\AB=[dsl (rowsOf EM l),.int .i64 (0:Int)]/\obs=[]/\(l.any OG=true->A)/\(l.any OG=false->E)
theorem AYc:BH Tryz.prog 100 [0,3] (AWF LRi):=by
 show BH Tryz.prog 100 [0,3] (lpS [2] _)
 refine FQ okp (W:=AP S0 Sp0 [] [] [] []) DC AZ ?_
 rintro c n AB obs K ⟨l,hl,hc,hn,hv,ho,hA,hE⟩
 subst hc;subst hn;subst hv;subst ho
 refine⟨dC l OG,0,300,fun a=>l.length-a.1,IIr l,fun _ e v o=>RIr l OG e v o,⟨0,Nat.zero_le _,rfl⟩,rfl,Wk.refl _ _ _ _,?_,AW4 l hl⟩
 intro e v o hR
 rcases hR with⟨h1,rfl,rfl,rfl⟩ | ⟨h1,rfl,rfl,rfl⟩
 ·exact hA h1
 ·exact hE h1
theorem AXz(ns:List Int)(hl:ns.length<big):Is (AWb (real Tryz.prog) LRi (rowsOf EM ns) (PQ (.bool (ns.all okI)))):=by
 refine⟨?_⟩
 rw[AVL]
 exact⟨ns,hl,rfl,rfl,rfl,rfl,fun h=>PQ.of (by rw[←ADw,h];rfl) rfl,fun h=>PQ.of (by rw[←ADw,h];rfl) rfl⟩
theorem AVf:JU Tryz.prog 100 54 (TP MI):=AKc fun ns hl B H=>
 GL okp DC (GH (fun x hx=>by simp only[List.mem_singleton]at hx;subst hx;exact AYc)) rfl rfl (AXz ns hl) B H
theorem ATV:OM Tryz.prog 100 (WIn 54 MI):=M3 (fun x hx=>by simp only[List.mem_singleton]at hx;subst hx;exact AVf) (fun x hx=>by cases hx)
abbrev pX:Value := .pointer (some ⟨100,0,none⟩)
def RX{α:Type}(l:List α)(p:α->Bool)(ob:AA)(e:Exit)(v:Lv)(o:Lo):Prop:=
 (l.any p=true/\e = .ret/\v=[top,.bool false]/\o=[none])∨(l.any p=false/\e = .exit 0/\v=[pX,top]/\o=[some ob])
def IX{α:Type}(l:List α)(p:α->Bool)(ob:AA)(i:dC l p):Lv×Lo:=([pX,.int .i64 (i.1:Int)],[some ob])
def LXr{α:Type}(p:α->Bool)(f N:Nat)(l:List α)(ob:AA):LXt:=fun code n AB obs A E=>code=AJ Tryz.prog f 2/\n=N/\AB=[pX,.int .i64 (0:Int)]/\obs=[some ob]/\(l.any p=true->A)/\(l.any p=false->E)
theorem AU7{x:Value}{b:Bool}{o:Option AA}{extra:Lo}:Wk 100 (100+1) [x,.bool b] (o::extra) [top,.bool b] [none]:=
 (EX (objs':=none::extra) (.cons (.top _) (.cons (.refl _) .nil)) (.cons (.none _) (F5.refl _))).trans (I1 (pre:=[none]) rfl rfl (fun i o h=>by cases i<;>simp at h))
theorem AUv{AB:Lv}{ob:AA}{extra:Lo}(hv:BL (100+1) AB=true)(ho:EC (100+1) (some ob)=true):Wk 100 (100+1) AB (some ob::extra) AB [some ob]:=
 I1 (pre:=[some ob]) rfl hv (fun i o h=>by
  cases i with
  |zero=>simp only[List.getElem?_cons_zero,Option.some.injEq]at h;subst h;exact ho
  |succ i=>simp at h)
def MN(x:EP):AA := .cells [.int .i64 x.id,.int .i64 x.size,.int .i64 x.lo,.int .i64 x.lw,.int .i64 x.lu,.int .i64 x.so,.int .i64 x.sw,dsl (rowsOf D7 x.arms),.int .i64 x.ot] 32 9 false true
theorem AWC(x:EP)(hf:KQ x)(i:dC x.arms MX):
  Is (wpe Tryz.prog (real Tryz.prog) (WIn 54 MI) 300 (.code false (AJ Tryz.prog 55 2) (CX 100 44 [1,3] [] (IX x.arms MX (MN x) i))) (A7 100 [1,3] [1,2] 44 []
   (fun AB AC=>∃a':dC x.arms MX,x.arms.length-a'.1<x.arms.length-i.1/\Wk 100 (100+1) AB AC (IX x.arms MX (MN x) a').1 (IX x.arms MX (MN x) a').2/\∀e v o,RX x.arms MX (MN x) e v o->RX x.arms MX (MN x) e v o)
   (fun e AB AC=>∃v o,Wk 100 (100+1) AB AC v o/\RX x.arms MX (MN x) e v o))):=by
 refine⟨?_⟩
 obtain⟨i,hi,ha⟩:=i
 show AT6 (real Tryz.prog) MI x.id x.size x.lo x.lw x.lu x.so x.sw (rowsOf D7 x.arms) x.ot (i:Int) _ _
 rw[AUB]
 have hf':x.arms.length<1000000000:=hf
 refine BI x.arms.length (AQ _ _) (EL (fun hlt=>?_) (fun hge=>?_))
 ·have hy:x.arms[i]?=some x.arms[i]:=by simp[hlt]
  generalize x.arms[i]=y at hy
  refine DK i rfl (CL hy) rfl (CG rfl (CG rfl (⟨rfl,rfl,QX (ns:=[y.nx]) rfl (by simp[big]) (CY (fun hp=>BZ (by omega) ⟨rfl,⟨i+1,hlt,aF hy ha ?_⟩,?_,AUv rfl rfl,fun _ _ _ h=>h⟩) (fun hp=>⟨rfl,_,_,AU7,.inl ⟨sJ hy ?_,rfl,rfl,rfl⟩⟩))⟩)))
  ·simp_all[MX]
  ·show x.arms.length-(i+1)<x.arms.length-i
   omega
  ·first|(simp_all[MX];done)|(cases h1:okI y.to<;>cases h2:okI y.n<;>simp_all[MX])
 ·have e:i=x.arms.length:=by omega
  subst e
  rw[List.take_length]at ha
  exact⟨rfl,_,_,Wk.refl _ _ _ _,.inr ⟨ha,rfl,rfl,rfl⟩⟩
theorem AWQ(x:EP)(hf:KQ x):BH Tryz.prog 100 [1,3] (ATN (LXr MX 55 44 x.arms (MN x))):=by
 show BH Tryz.prog 100 [1,3] (lpS [1,2] _)
 refine FQ okp (W:=WIn 54 MI) ATV AZ ?_
 rintro c n AB obs K ⟨hc,hn,hv,ho,hA,hE⟩
 subst hc;subst hn;subst hv;subst ho
 refine⟨dC x.arms MX,1,300,fun a=>x.arms.length-a.1,IX x.arms MX (MN x),fun _ e v o=>RX x.arms MX (MN x) e v o,⟨0,Nat.zero_le _,rfl⟩,rfl,Wk.refl _ _ _ _,?_,AWC x hf⟩
 intro e v o hR
 rcases hR with⟨h1,rfl,rfl,rfl⟩ | ⟨h1,rfl,rfl,rfl⟩
 ·exact hA h1
 ·exact hE h1
theorem AVU(x:EP)(hf:KQ x):Is (AUP (real Tryz.prog) MI (LXr MX 55 44 x.arms (MN x)) x.id x.size x.lo x.lw x.lu x.so x.sw (rowsOf D7 x.arms) x.ot (PQ (.bool (JX x)))):=by
 refine⟨?_⟩
 rw[AUX]
 refine⟨rfl,rfl,rfl,rfl,fun h=>?_,fun h=>⟨rfl,rfl,QX (ns:=[x.id,x.size,x.lo,x.lw,x.lu,x.so,x.sw,x.ot]) rfl (by simp[big]) ?_⟩⟩
 ·refine PQ.of ?_ rfl
  unfold JX
  rw[h];simp
 repeat' first
  |refine bG (fun _=>?_) (fun _=>?_)
  |refine N7 (fun _=>?_) (fun _=>?_)
  |refine FC ?_
  |refine CY (fun _=>?_) (fun _=>?_)
  |refine MO (by assumption) ?_
  |refine BI _ (AQ _ _) ?_
  |(refine PQ.of ?_ rfl;first|(simp_all[JX];done)|(simp_all[JX]<;>intros<;>omega))
theorem AUV(x:EP)(hf:KQ x)(B:Base)(H:Heap):BM Tryz.prog 100 B 55 [OI x] H (.returned (.bool (JX x))) H:=
 GL okp (M3 (fun x hx=>by simp only[List.mem_singleton]at hx;subst hx;exact AVf) (fun x hx=>by cases hx)) (GH (fun y hy=>by simp only[List.mem_singleton]at hy;subst hy;exact AWQ x hf)) rfl rfl (AVU x hf) B H
theorem AVo(x:E9)(hf:NI x):Is (AT2 (real Tryz.prog) MI x.id (x.base:Int) x.node x.off x.wid (PQ (.bool (I5 x)))):=by
 refine⟨?_⟩
 rw[AUy]
 refine⟨rfl,rfl,QX (ns:=[x.id,x.node,x.off,x.wid]) rfl (by simp[big]) ?_⟩
 repeat' first
  |refine bG (fun _=>?_) (fun _=>?_)
  |refine N7 (fun _=>?_) (fun _=>?_)
  |refine FC ?_
  |refine CY (fun _=>?_) (fun _=>?_)
  |refine MO (by assumption) ?_
  |refine BI _ (AQ _ _) ?_
  |(refine PQ.of ?_ rfl;first|(simp_all[I5];done)|(simp_all[I5]<;>intros<;>omega))
theorem AUq(x:E9)(hf:NI x)(B:Base)(H:Heap):BM Tryz.prog 100 B 56 [K6 x] H (.returned (.bool (I5 x))) H:=
 GL okp ATV AZ rfl rfl (AVo x hf) B H
theorem AVr(x:EB)(hf:JF x):Is (AT7 (real Tryz.prog) MI x.id (x.kind:Int) (rowsOf EM x.keys) x.cap x.miss (PQ (.bool (IG x)))):=by
 refine⟨?_⟩
 rw[AUC]
 refine⟨rfl,rfl,QX (ns:=[x.id,x.cap,x.miss]) rfl (by simp[big]) ?_⟩
 repeat' first
  |refine bG (fun _=>?_) (fun _=>?_)
  |refine N7 (fun _=>?_) (fun _=>?_)
  |refine FC ?_
  |refine CY (fun _=>?_) (fun _=>?_)
  |refine MO (by assumption) ?_
  |refine BI _ (AQ _ _) ?_
  |(refine PQ.of ?_ rfl;first|(simp_all[IG];done)|(simp_all[IG]<;>intros<;>omega))
theorem AUt(x:EB)(hf:JF x)(B:Base)(H:Heap):BM Tryz.prog 100 B 57 [K9 x] H (.returned (.bool (IG x))) H:=
 GL okp ATV AZ rfl rfl (AVr x hf) B H
theorem AVn(x:C9)(hf:JD x):Is (AT1 (real Tryz.prog) MI x.tab x.key x.oth x.len x.prio x.blk (rowsOf DJ x.args) x.idle x.hard (x.cook:Int) x.tell (PQ (.bool (IB x)))):=by
 refine⟨?_⟩
 rw[AUx]
 refine⟨rfl,rfl,QX (ns:=[x.tab,x.len,x.prio,x.blk]) rfl (by simp[big]) ?_⟩
 repeat' first
  |refine bG (fun _=>?_) (fun _=>?_)
  |refine N7 (fun _=>?_) (fun _=>?_)
  |refine FC ?_
  |refine CY (fun _=>?_) (fun _=>?_)
  |refine MO (by assumption) ?_
  |refine BI _ (AQ _ _) ?_
  |(refine PQ.of ?_ rfl;first|(simp_all[IB];done)|(simp_all[IB]<;>intros<;>omega))
theorem AUp(x:C9)(hf:JD x)(B:Base)(H:Heap):BM Tryz.prog 100 B 58 [K5 x] H (.returned (.bool (IB x))) H:=
 GL okp ATV AZ rfl rfl (AVn x hf) B H
def LD(x:ES):AA := .cells [.int .i64 x.id,dsl (rowsOf BN x.code)] 42 2 false true
theorem AV0(x:ES)(hf:JC x)(i:dC x.code GX):
  Is (wpe Tryz.prog (real Tryz.prog) (WIn 54 MI) 300 (.code false (AJ Tryz.prog 59 2) (CX 100 36 [1,3] [] (IX x.code GX (LD x) i))) (A7 100 [1,3] [1,2] 36 []
   (fun AB AC=>∃a':dC x.code GX,x.code.length-a'.1<x.code.length-i.1/\Wk 100 (100+1) AB AC (IX x.code GX (LD x) a').1 (IX x.code GX (LD x) a').2/\∀e v o,RX x.code GX (LD x) e v o->RX x.code GX (LD x) e v o)
   (fun e AB AC=>∃v o,Wk 100 (100+1) AB AC v o/\RX x.code GX (LD x) e v o))):=by
 refine⟨?_⟩
 obtain⟨i,hi,ha⟩:=i
 show ATO (real Tryz.prog) MI x.id (rowsOf BN x.code) (i:Int) _ _
 rw[AT0]
 have hf':x.code.length<1000000000:=hf
 refine BI x.code.length (AQ _ _) (EL (fun hlt=>?_) (fun hge=>?_))
 ·have hy:x.code[i]?=some x.code[i]:=by simp[hlt]
  generalize x.code[i]=y at hy
  refine DK i rfl (CL hy) rfl (CG rfl (CG rfl (CG rfl (CG rfl (CG rfl (CG rfl (CG rfl (DK i rfl (CL hy) rfl (CG rfl (CG rfl (CG rfl (CG rfl (CG rfl (CG rfl (CG rfl (⟨rfl,rfl,QX (ns:=[y.to,y.n]) rfl (by simp[big]) (CY (fun hp=>BZ (by omega) ⟨rfl,⟨i+1,hlt,aF hy ha ?_⟩,?_,AUv rfl rfl,fun _ _ _ h=>h⟩) (fun hp=>⟨rfl,_,_,AU7,.inl ⟨sJ hy ?_,rfl,rfl,rfl⟩⟩))⟩))))))))))))))))
  ·simp_all[GX]
  ·show x.code.length-(i+1)<x.code.length-i
   omega
  ·first|(simp_all[GX];done)|(cases h1:okI y.to<;>cases h2:okI y.n<;>simp_all[GX])
 ·have e:i=x.code.length:=by omega
  subst e
  rw[List.take_length]at ha
  exact⟨rfl,_,_,Wk.refl _ _ _ _,.inr ⟨ha,rfl,rfl,rfl⟩⟩
theorem AWl(x:ES)(hf:JC x):BH Tryz.prog 100 [1,3] (ATN (LXr GX 59 36 x.code (LD x))):=by
 show BH Tryz.prog 100 [1,3] (lpS [1,2] _)
 refine FQ okp (W:=WIn 54 MI) ATV AZ ?_
 rintro c n AB obs K ⟨hc,hn,hv,ho,hA,hE⟩
 subst hc;subst hn;subst hv;subst ho
 refine⟨dC x.code GX,1,300,fun a=>x.code.length-a.1,IX x.code GX (LD x),fun _ e v o=>RX x.code GX (LD x) e v o,⟨0,Nat.zero_le _,rfl⟩,rfl,Wk.refl _ _ _ _,?_,AV0 x hf⟩
 intro e v o hR
 rcases hR with⟨h1,rfl,rfl,rfl⟩ | ⟨h1,rfl,rfl,rfl⟩
 ·exact hA h1
 ·exact hE h1
theorem AVm(x:ES)(hf:JC x):Is (ATZ (real Tryz.prog) MI (LXr GX 59 36 x.code (LD x)) x.id (rowsOf BN x.code) (PQ (.bool (H9 x)))):=by
 refine⟨?_⟩
 rw[AUw]
 refine⟨rfl,rfl,rfl,rfl,fun h=>?_,fun h=>⟨rfl,rfl,QX (ns:=[x.id]) rfl (by simp[big]) ?_⟩⟩
 ·refine PQ.of ?_ rfl
  unfold H9
  rw[h];simp
 repeat' first
  |refine bG (fun _=>?_) (fun _=>?_)
  |refine N7 (fun _=>?_) (fun _=>?_)
  |refine FC ?_
  |refine CY (fun _=>?_) (fun _=>?_)
  |refine MO (by assumption) ?_
  |refine BI _ (AQ _ _) ?_
  |(refine PQ.of ?_ rfl;first|(simp_all[H9];done)|(simp_all[H9]<;>intros<;>omega))
theorem AUo(x:ES)(hf:JC x)(B:Base)(H:Heap):BM Tryz.prog 100 B 59 [K4 x] H (.returned (.bool (H9 x))) H:=
 GL okp (M3 (fun x hx=>by simp only[List.mem_singleton]at hx;subst hx;exact AVf) (fun x hx=>by cases hx)) (GH (fun y hy=>by simp only[List.mem_singleton]at hy;subst hy;exact AWl x hf)) rfl rfl (AVm x hf) B H
def MG(x:EI):AA := .cells [.int .i64 x.id,.int .u8 (x.kind:Int),.int .i64 x.fld,dsl (rowsOf BB x.bks)] 45 4 false true
theorem AV1(x:EI)(hf:JE x)(i:dC x.bks FH):
  Is (wpe Tryz.prog (real Tryz.prog) (WIn 54 MI) 300 (.code false (AJ Tryz.prog 60 2) (CX 100 32 [1,3] [] (IX x.bks FH (MG x) i))) (A7 100 [1,3] [1,2] 32 []
   (fun AB AC=>∃a':dC x.bks FH,x.bks.length-a'.1<x.bks.length-i.1/\Wk 100 (100+1) AB AC (IX x.bks FH (MG x) a').1 (IX x.bks FH (MG x) a').2/\∀e v o,RX x.bks FH (MG x) e v o->RX x.bks FH (MG x) e v o)
   (fun e AB AC=>∃v o,Wk 100 (100+1) AB AC v o/\RX x.bks FH (MG x) e v o))):=by
 refine⟨?_⟩
 obtain⟨i,hi,ha⟩:=i
 show ATP (real Tryz.prog) MI x.id (x.kind:Int) x.fld (rowsOf BB x.bks) (i:Int) _ _
 rw[AT4]
 have hf':x.bks.length<1000000000:=hf
 refine BI x.bks.length (AQ _ _) (EL (fun hlt=>?_) (fun hge=>?_))
 ·have hy:x.bks[i]?=some x.bks[i]:=by simp[hlt]
  generalize x.bks[i]=y at hy
  refine DK i rfl (CL hy) rfl (CG rfl (CG rfl (⟨rfl,rfl,QX (ns:=[y.b]) rfl (by simp[big]) (CY (fun hp=>BZ (by omega) ⟨rfl,⟨i+1,hlt,aF hy ha ?_⟩,?_,AUv rfl rfl,fun _ _ _ h=>h⟩) (fun hp=>⟨rfl,_,_,AU7,.inl ⟨sJ hy ?_,rfl,rfl,rfl⟩⟩))⟩)))
  ·simp_all[FH]
  ·show x.bks.length-(i+1)<x.bks.length-i
   omega
  ·first|(simp_all[FH];done)|(cases h1:okI y.to<;>cases h2:okI y.n<;>simp_all[FH])
 ·have e:i=x.bks.length:=by omega
  subst e
  rw[List.take_length]at ha
  exact⟨rfl,_,_,Wk.refl _ _ _ _,.inr ⟨ha,rfl,rfl,rfl⟩⟩
theorem AWm(x:EI)(hf:JE x):BH Tryz.prog 100 [1,3] (ATN (LXr FH 60 32 x.bks (MG x))):=by
 show BH Tryz.prog 100 [1,3] (lpS [1,2] _)
 refine FQ okp (W:=WIn 54 MI) ATV AZ ?_
 rintro c n AB obs K ⟨hc,hn,hv,ho,hA,hE⟩
 subst hc;subst hn;subst hv;subst ho
 refine⟨dC x.bks FH,1,300,fun a=>x.bks.length-a.1,IX x.bks FH (MG x),fun _ e v o=>RX x.bks FH (MG x) e v o,⟨0,Nat.zero_le _,rfl⟩,rfl,Wk.refl _ _ _ _,?_,AV1 x hf⟩
 intro e v o hR
 rcases hR with⟨h1,rfl,rfl,rfl⟩ | ⟨h1,rfl,rfl,rfl⟩
 ·exact hA h1
 ·exact hE h1
theorem AVp(x:EI)(hf:JE x):Is (AT3 (real Tryz.prog) MI (LXr FH 60 32 x.bks (MG x)) x.id (x.kind:Int) x.fld (rowsOf BB x.bks) (PQ (.bool (IC x)))):=by
 refine⟨?_⟩
 rw[AUz]
 refine⟨rfl,rfl,rfl,rfl,fun h=>?_,fun h=>⟨rfl,rfl,QX (ns:=[x.id,x.fld]) rfl (by simp[big]) ?_⟩⟩
 ·refine PQ.of ?_ rfl
  unfold IC
  rw[h];simp
 repeat' first
  |refine bG (fun _=>?_) (fun _=>?_)
  |refine N7 (fun _=>?_) (fun _=>?_)
  |refine FC ?_
  |refine CY (fun _=>?_) (fun _=>?_)
  |refine MO (by assumption) ?_
  |refine BI _ (AQ _ _) ?_
  |(refine PQ.of ?_ rfl;first|(simp_all[IC];done)|(simp_all[IC]<;>intros<;>omega))
theorem AUr(x:EI)(hf:JE x)(B:Base)(H:Heap):BM Tryz.prog 100 B 60 [K7 x] H (.returned (.bool (IC x))) H:=
 GL okp (M3 (fun x hx=>by simp only[List.mem_singleton]at hx;subst hx;exact AVf) (fun x hx=>by cases hx)) (GH (fun y hy=>by simp only[List.mem_singleton]at hy;subst hy;exact AWm x hf)) rfl rfl (AVp x hf) B H
theorem AVq(x:FJ)(hf:NJ x):Is (AT5 (real Tryz.prog) MI x.id x.rate x.burst (PQ (.bool (I6 x)))):=by
 refine⟨?_⟩
 rw[AUA]
 refine⟨rfl,rfl,QX (ns:=[x.id]) rfl (by simp[big]) ?_⟩
 repeat' first
  |refine bG (fun _=>?_) (fun _=>?_)
  |refine N7 (fun _=>?_) (fun _=>?_)
  |refine FC ?_
  |refine CY (fun _=>?_) (fun _=>?_)
  |refine MO (by assumption) ?_
  |refine BI _ (AQ _ _) ?_
  |(refine PQ.of ?_ rfl;first|(simp_all[I6];done)|(simp_all[I6]<;>intros<;>omega))
theorem AUs(x:FJ)(hf:NJ x)(B:Base)(H:Heap):BM Tryz.prog 100 B 61 [K8 x] H (.returned (.bool (I6 x))) H:=
 GL okp ATV AZ rfl rfl (AVq x hf) B H
theorem AVV(x:IJ)(hf:PL x):Is (AUQ (real Tryz.prog) MI x.id x.size (PQ (.bool (J9 x)))):=by
 refine⟨?_⟩
 rw[AUY]
 refine⟨rfl,rfl,QX (ns:=[x.id,x.size]) rfl (by simp[big]) ?_⟩
 repeat' first
  |refine bG (fun _=>?_) (fun _=>?_)
  |refine N7 (fun _=>?_) (fun _=>?_)
  |refine FC ?_
  |refine CY (fun _=>?_) (fun _=>?_)
  |refine MO (by assumption) ?_
  |refine BI _ (AQ _ _) ?_
  |(refine PQ.of ?_ rfl;first|(simp_all[J9];done)|(simp_all[J9]<;>intros<;>omega))
theorem AUW(x:IJ)(hf:PL x)(B:Base)(H:Heap):BM Tryz.prog 100 B 62 [OJ x] H (.returned (.bool (J9 x))) H:=
 GL okp ATV AZ rfl rfl (AVV x hf) B H
end
end Go.Proofs.Ob
