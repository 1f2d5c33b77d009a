/- . -/
import Derived.Test.YtblbaohcelldpaaGreatDoorT14
import Derived.Test.YtblbaohcelldpaaGreatDoorS6
import Derived.Test.YtblbaohcelldpaaGreatDoorS4
set_option linter.all false
set_option maxRecDepth 100000
namespace Go.Proofs.Ob
open Go Go.Abs Go.Tlv
noncomputable section
def MBr{α:Type}(v:α->Value)(fit:α->Prop)(may:α->Bool):MBt:=fun a K=>∃x:α,a=v x/\fit x/\K (may x)
theorem zW{α:Type}{v:α->Value}{fit:α->Prop}{may:α->Bool}{f:FuncId}(h:∀x,fit x->∀B H,BM Tryz.prog 100 B f [v x] H (.returned (.bool (may x))) H):FY Tryz.prog 100 f (sB (MBr v fit may)):=by
 intro args K hs
 unfold sB at hs
 split at hs<;>try exact hs.elim
 obtain⟨x,rfl,hf,hK⟩:=hs
 exact⟨_,h x hf,hK⟩
theorem knP{l:KnL}{pu:PuL}(h:∀x∈l,JU Tryz.prog 100 x.1 x.2)(h':∀x∈pu,FY Tryz.prog 100 x.1 x.2):OM Tryz.prog 100 (AP S0 Sp0 ((154,Q4 MR)::(178,MU MR)::(157,NC MR)::l) [] pu []):=M3 (fun x hx=>by
 simp only[List.mem_cons]at hx
 rcases hx with rfl|rfl|rfl|hx
 ·exact ALH
 ·exact AI1
 ·exact ACV
 ·exact h x hx) h'
theorem AU(n:Nat)(m:Bool)(l:List At):below n (EU m l)=true:=by cases m<;>rfl
theorem AIZ{g:FuncId}{S:Lv->Heap->VK->Prop}(h:JU Tryz.prog 100 g S):∀x∈[(g,S)],JU Tryz.prog 100 x.1 x.2:=fun x hx=>by simp only[List.mem_singleton]at hx;subst hx;exact h
theorem ANh:∀x∈([]:KnL),JU Tryz.prog 100 x.1 x.2:=fun x hx=>by cases hx
theorem AH4(x:EP)(hf:KQ x)(hw:lL x)(hl:JX x=true->x.arms.length<1000):Is (xS (real Tryz.prog) MR (MBr OI KQ JX) (MLr D7 R8 CU) x.id x.size x.lo x.lw x.lu x.so x.sw (rowsOf D7 x.arms) x.ot (PQ (EU (JX x) (GD x)))):=by
 refine⟨?_⟩
 rw[xU]
 exact⟨x,rfl,hf,CY (fun hm=>CQ t3 (⟨rfl,FR 1 (A8 x.id) (by decide) (AO _) (fun h0=>CQ t3 (⟨rfl,FR 2 (A8 x.size) (by decide) (AO _) (fun h1=>CQ t3 (⟨rfl,FR 3 (A8 x.lo) (by decide) (AO _) (fun h2=>CQ t3 (⟨rfl,FR 4 (A8 x.lw) (by decide) (AO _) (fun h3=>CQ t3 (⟨rfl,FR 5 (A8 x.lu) (by decide) (AO _) (fun h4=>CQ t3 (⟨rfl,FR 6 (A8 x.so) (by decide) (AO _) (fun h5=>CQ t3 (⟨rfl,FR 7 (A8 x.sw) (by decide) (AO _) (fun h6=>CQ t3 (⟨rfl,FR 8 (A8 x.ot) (by decide) (AO _) (fun h7=>KY (hl hm) (fun _ _=>trivial) (⟨rfl,PI 9 (by decide) (fun h8=>⟨rfl,(PQ.of (by rw[hm];unfold EU GD;rw[AL h0,AL h1,AL h2,AL h3,AL h4,AL h5,AL h6,AL h7,DY h8]<;>rfl) (AU _ _ _))⟩) (fun h8=>(fun hI=>⟨rfl,EE hI (by decide) ((PQ.of (by rw[hm];unfold EU GD;rw[AL h0,AL h1,AL h2,AL h3,AL h4,AL h5,AL h6,AL h7,SC h8]<;>rfl) (AU _ _ _)))⟩) (BV 9 (bytesOf (EJ (x.arms.map CU))) (by decide)))⟩)) (fun h7=>(fun hI=>KY (hl hm) (fun _ _=>trivial) (⟨rfl,LY 9 hI (by decide) (by decide) (fun hI=>⟨rfl,EE hI (by decide) ((PQ.of (by rw[hm];unfold EU GD;rw[AL h0,AL h1,AL h2,AL h3,AL h4,AL h5,AL h6,DW h7]<;>rfl) (AU _ _ _)))⟩)⟩)) (BV 8 (bytesOf (EK (A8 x.ot))) (by decide)))⟩)) (fun h6=>(fun hI=>CQ t3 (⟨rfl,BO 8 (A8 x.ot) hI (by decide) (by decide) (AO _) (fun hI=>KY (hl hm) (fun _ _=>trivial) (⟨rfl,LY 9 hI (by decide) (by decide) (fun hI=>⟨rfl,EE hI (by decide) ((PQ.of (by rw[hm];unfold EU GD;rw[AL h0,AL h1,AL h2,AL h3,AL h4,AL h5,DW h6]<;>rfl) (AU _ _ _)))⟩)⟩))⟩)) (BV 7 (bytesOf (EK (A8 x.sw))) (by decide)))⟩)) (fun h5=>(fun hI=>CQ t3 (⟨rfl,BO 7 (A8 x.sw) hI (by decide) (by decide) (AO _) (fun hI=>CQ t3 (⟨rfl,BO 8 (A8 x.ot) hI (by decide) (by decide) (AO _) (fun hI=>KY (hl hm) (fun _ _=>trivial) (⟨rfl,LY 9 hI (by decide) (by decide) (fun hI=>⟨rfl,EE hI (by decide) ((PQ.of (by rw[hm];unfold EU GD;rw[AL h0,AL h1,AL h2,AL h3,AL h4,DW h5]<;>rfl) (AU _ _ _)))⟩)⟩))⟩))⟩)) (BV 6 (bytesOf (EK (A8 x.so))) (by decide)))⟩)) (fun h4=>(fun hI=>CQ t3 (⟨rfl,BO 6 (A8 x.so) hI (by decide) (by decide) (AO _) (fun hI=>CQ t3 (⟨rfl,BO 7 (A8 x.sw) hI (by decide) (by decide) (AO _) (fun hI=>CQ t3 (⟨rfl,BO 8 (A8 x.ot) hI (by decide) (by decide) (AO _) (fun hI=>KY (hl hm) (fun _ _=>trivial) (⟨rfl,LY 9 hI (by decide) (by decide) (fun hI=>⟨rfl,EE hI (by decide) ((PQ.of (by rw[hm];unfold EU GD;rw[AL h0,AL h1,AL h2,AL h3,DW h4]<;>rfl) (AU _ _ _)))⟩)⟩))⟩))⟩))⟩)) (BV 5 (bytesOf (EK (A8 x.lu))) (by decide)))⟩)) (fun h3=>(fun hI=>CQ t3 (⟨rfl,BO 5 (A8 x.lu) hI (by decide) (by decide) (AO _) (fun hI=>CQ t3 (⟨rfl,BO 6 (A8 x.so) hI (by decide) (by decide) (AO _) (fun hI=>CQ t3 (⟨rfl,BO 7 (A8 x.sw) hI (by decide) (by decide) (AO _) (fun hI=>CQ t3 (⟨rfl,BO 8 (A8 x.ot) hI (by decide) (by decide) (AO _) (fun hI=>KY (hl hm) (fun _ _=>trivial) (⟨rfl,LY 9 hI (by decide) (by decide) (fun hI=>⟨rfl,EE hI (by decide) ((PQ.of (by rw[hm];unfold EU GD;rw[AL h0,AL h1,AL h2,DW h3]<;>rfl) (AU _ _ _)))⟩)⟩))⟩))⟩))⟩))⟩)) (BV 4 (bytesOf (EK (A8 x.lw))) (by decide)))⟩)) (fun h2=>(fun hI=>CQ t3 (⟨rfl,BO 4 (A8 x.lw) hI (by decide) (by decide) (AO _) (fun hI=>CQ t3 (⟨rfl,BO 5 (A8 x.lu) hI (by decide) (by decide) (AO _) (fun hI=>CQ t3 (⟨rfl,BO 6 (A8 x.so) hI (by decide) (by decide) (AO _) (fun hI=>CQ t3 (⟨rfl,BO 7 (A8 x.sw) hI (by decide) (by decide) (AO _) (fun hI=>CQ t3 (⟨rfl,BO 8 (A8 x.ot) hI (by decide) (by decide) (AO _) (fun hI=>KY (hl hm) (fun _ _=>trivial) (⟨rfl,LY 9 hI (by decide) (by decide) (fun hI=>⟨rfl,EE hI (by decide) ((PQ.of (by rw[hm];unfold EU GD;rw[AL h0,AL h1,DW h2]<;>rfl) (AU _ _ _)))⟩)⟩))⟩))⟩))⟩))⟩))⟩)) (BV 3 (bytesOf (EK (A8 x.lo))) (by decide)))⟩)) (fun h1=>(fun hI=>CQ t3 (⟨rfl,BO 3 (A8 x.lo) hI (by decide) (by decide) (AO _) (fun hI=>CQ t3 (⟨rfl,BO 4 (A8 x.lw) hI (by decide) (by decide) (AO _) (fun hI=>CQ t3 (⟨rfl,BO 5 (A8 x.lu) hI (by decide) (by decide) (AO _) (fun hI=>CQ t3 (⟨rfl,BO 6 (A8 x.so) hI (by decide) (by decide) (AO _) (fun hI=>CQ t3 (⟨rfl,BO 7 (A8 x.sw) hI (by decide) (by decide) (AO _) (fun hI=>CQ t3 (⟨rfl,BO 8 (A8 x.ot) hI (by decide) (by decide) (AO _) (fun hI=>KY (hl hm) (fun _ _=>trivial) (⟨rfl,LY 9 hI (by decide) (by decide) (fun hI=>⟨rfl,EE hI (by decide) ((PQ.of (by rw[hm];unfold EU GD;rw[AL h0,DW h1]<;>rfl) (AU _ _ _)))⟩)⟩))⟩))⟩))⟩))⟩))⟩))⟩)) (BV 2 (bytesOf (EK (A8 x.size))) (by decide)))⟩)) (fun h0=>(fun hI=>CQ t3 (⟨rfl,BO 2 (A8 x.size) hI (by decide) (by decide) (AO _) (fun hI=>CQ t3 (⟨rfl,BO 3 (A8 x.lo) hI (by decide) (by decide) (AO _) (fun hI=>CQ t3 (⟨rfl,BO 4 (A8 x.lw) hI (by decide) (by decide) (AO _) (fun hI=>CQ t3 (⟨rfl,BO 5 (A8 x.lu) hI (by decide) (by decide) (AO _) (fun hI=>CQ t3 (⟨rfl,BO 6 (A8 x.so) hI (by decide) (by decide) (AO _) (fun hI=>CQ t3 (⟨rfl,BO 7 (A8 x.sw) hI (by decide) (by decide) (AO _) (fun hI=>CQ t3 (⟨rfl,BO 8 (A8 x.ot) hI (by decide) (by decide) (AO _) (fun hI=>KY (hl hm) (fun _ _=>trivial) (⟨rfl,LY 9 hI (by decide) (by decide) (fun hI=>⟨rfl,EE hI (by decide) ((PQ.of (by rw[hm];unfold EU GD;rw[DW h0]<;>rfl) (AU _ _ _)))⟩)⟩))⟩))⟩))⟩))⟩))⟩))⟩))⟩)) (BV 1 (bytesOf (EK (A8 x.id))) (by decide)))⟩)) (fun hm=>PQ.of (by rw[hm];rfl) (AU _ _ _))⟩
theorem AH5(x:EP)(hf:KQ x)(hw:lL x)(B:Base)(H:Heap):BM Tryz.prog 100 B 87 [OI x] H (.returned (EU (JX x) (GD x))) H:=
 GL okp (knP (AIZ AR3) (pu1 (zW AHK))) AZ rfl (AU _ _ _) (AH4 x hf hw (fun hm=>by have:=(WH.1 hm).2.1;omega)) B H
theorem AFr(x:E9)(hf:NI x)(hw:cK x):Is (oV (real Tryz.prog) MR (MBr K6 NI I5) (MLr EM OL CV) x.id (x.base:Int) x.node x.off x.wid (PQ (EU (I5 x) (GQ x)))):=by
 refine⟨?_⟩
 rw[uH]
 exact⟨x,rfl,hf,CY (fun hm=>CQ t3 (⟨rfl,FR 1 (A8 x.id) (by decide) (AO _) (fun h0=>CQ t5 (⟨rfl,FR 2 (A8 x.base) (by decide) (AO _) (fun h1=>CQ t3 (⟨rfl,FR 3 (A8 x.node) (by decide) (AO _) (fun h2=>CQ t3 (⟨rfl,FR 4 (A8 x.off) (by decide) (AO _) (fun h3=>CQ t3 (⟨rfl,FR 5 (A8 x.wid) (by decide) (AO _) (fun h4=>⟨rfl,(PQ.of (by rw[hm];unfold EU GQ;rw[AL h0,AL h1,AL h2,AL h3,AL h4]<;>rfl) (AU _ _ _))⟩) (fun h4=>(fun hI=>⟨rfl,EE hI (by decide) ((PQ.of (by rw[hm];unfold EU GQ;rw[AL h0,AL h1,AL h2,AL h3,DW h4]<;>rfl) (AU _ _ _)))⟩) (BV 5 (bytesOf (EK (A8 x.wid))) (by decide)))⟩)) (fun h3=>(fun hI=>CQ t3 (⟨rfl,BO 5 (A8 x.wid) hI (by decide) (by decide) (AO _) (fun hI=>⟨rfl,EE hI (by decide) ((PQ.of (by rw[hm];unfold EU GQ;rw[AL h0,AL h1,AL h2,DW h3]<;>rfl) (AU _ _ _)))⟩)⟩)) (BV 4 (bytesOf (EK (A8 x.off))) (by decide)))⟩)) (fun h2=>(fun hI=>CQ t3 (⟨rfl,BO 4 (A8 x.off) hI (by decide) (by decide) (AO _) (fun hI=>CQ t3 (⟨rfl,BO 5 (A8 x.wid) hI (by decide) (by decide) (AO _) (fun hI=>⟨rfl,EE hI (by decide) ((PQ.of (by rw[hm];unfold EU GQ;rw[AL h0,AL h1,DW h2]<;>rfl) (AU _ _ _)))⟩)⟩))⟩)) (BV 3 (bytesOf (EK (A8 x.node))) (by decide)))⟩)) (fun h1=>(fun hI=>CQ t3 (⟨rfl,BO 3 (A8 x.node) hI (by decide) (by decide) (AO _) (fun hI=>CQ t3 (⟨rfl,BO 4 (A8 x.off) hI (by decide) (by decide) (AO _) (fun hI=>CQ t3 (⟨rfl,BO 5 (A8 x.wid) hI (by decide) (by decide) (AO _) (fun hI=>⟨rfl,EE hI (by decide) ((PQ.of (by rw[hm];unfold EU GQ;rw[AL h0,DW h1]<;>rfl) (AU _ _ _)))⟩)⟩))⟩))⟩)) (BV 2 (bytesOf (EK (A8 x.base))) (by decide)))⟩)) (fun h0=>(fun hI=>CQ t5 (⟨rfl,BO 2 (A8 x.base) hI (by decide) (by decide) (AO _) (fun hI=>CQ t3 (⟨rfl,BO 3 (A8 x.node) hI (by decide) (by decide) (AO _) (fun hI=>CQ t3 (⟨rfl,BO 4 (A8 x.off) hI (by decide) (by decide) (AO _) (fun hI=>CQ t3 (⟨rfl,BO 5 (A8 x.wid) hI (by decide) (by decide) (AO _) (fun hI=>⟨rfl,EE hI (by decide) ((PQ.of (by rw[hm];unfold EU GQ;rw[DW h0]<;>rfl) (AU _ _ _)))⟩)⟩))⟩))⟩))⟩)) (BV 1 (bytesOf (EK (A8 x.id))) (by decide)))⟩)) (fun hm=>PQ.of (by rw[hm];rfl) (AU _ _ _))⟩
theorem AFs(x:E9)(hf:NI x)(hw:cK x)(B:Base)(H:Heap):BM Tryz.prog 100 B 91 [K6 x] H (.returned (EU (I5 x) (GQ x))) H:=
 GL okp (knP ANh (pu1 (zW AFb))) AZ rfl (AU _ _ _) (AFr x hf hw) B H
theorem AFy(x:EB)(hf:JF x)(hw:dA x)(hl:IG x=true->x.keys.length<1000):Is (pF (real Tryz.prog) MR (MBr K9 JF IG) (MLr EM OL CV) x.id (x.kind:Int) (rowsOf EM x.keys) x.cap x.miss (PQ (EU (IG x) (GR x)))):=by
 refine⟨?_⟩
 rw[uL]
 exact⟨x,rfl,hf,CY (fun hm=>CQ t3 (⟨rfl,FR 1 (A8 x.id) (by decide) (AO _) (fun h0=>CQ t5 (⟨rfl,FR 2 (A8 x.kind) (by decide) (AO _) (fun h1=>KY (hl hm) (fun _ _=>trivial) (⟨rfl,PI 3 (by decide) (fun h2=>CQ t3 (⟨rfl,FR 4 (A8 x.cap) (by decide) (AO _) (fun h3=>CQ t3 (⟨rfl,FR 5 (A8 x.miss) (by decide) (AO _) (fun h4=>⟨rfl,(PQ.of (by rw[hm];unfold EU GR;rw[AL h0,AL h1,DY h2,AL h3,AL h4]<;>rfl) (AU _ _ _))⟩) (fun h4=>(fun hI=>⟨rfl,EE hI (by decide) ((PQ.of (by rw[hm];unfold EU GR;rw[AL h0,AL h1,DY h2,AL h3,DW h4]<;>rfl) (AU _ _ _)))⟩) (BV 5 (bytesOf (EK (A8 x.miss))) (by decide)))⟩)) (fun h3=>(fun hI=>CQ t3 (⟨rfl,BO 5 (A8 x.miss) hI (by decide) (by decide) (AO _) (fun hI=>⟨rfl,EE hI (by decide) ((PQ.of (by rw[hm];unfold EU GR;rw[AL h0,AL h1,DY h2,DW h3]<;>rfl) (AU _ _ _)))⟩)⟩)) (BV 4 (bytesOf (EK (A8 x.cap))) (by decide)))⟩)) (fun h2=>(fun hI=>CQ t3 (⟨rfl,BO 4 (A8 x.cap) hI (by decide) (by decide) (AO _) (fun hI=>CQ t3 (⟨rfl,BO 5 (A8 x.miss) hI (by decide) (by decide) (AO _) (fun hI=>⟨rfl,EE hI (by decide) ((PQ.of (by rw[hm];unfold EU GR;rw[AL h0,AL h1,SC h2]<;>rfl) (AU _ _ _)))⟩)⟩))⟩)) (BV 3 (bytesOf (EJ (x.keys.map CV))) (by decide)))⟩)) (fun h1=>(fun hI=>KY (hl hm) (fun _ _=>trivial) (⟨rfl,LY 3 hI (by decide) (by decide) (fun hI=>CQ t3 (⟨rfl,BO 4 (A8 x.cap) hI (by decide) (by decide) (AO _) (fun hI=>CQ t3 (⟨rfl,BO 5 (A8 x.miss) hI (by decide) (by decide) (AO _) (fun hI=>⟨rfl,EE hI (by decide) ((PQ.of (by rw[hm];unfold EU GR;rw[AL h0,DW h1]<;>rfl) (AU _ _ _)))⟩)⟩))⟩))⟩)) (BV 2 (bytesOf (EK (A8 x.kind))) (by decide)))⟩)) (fun h0=>(fun hI=>CQ t5 (⟨rfl,BO 2 (A8 x.kind) hI (by decide) (by decide) (AO _) (fun hI=>KY (hl hm) (fun _ _=>trivial) (⟨rfl,LY 3 hI (by decide) (by decide) (fun hI=>CQ t3 (⟨rfl,BO 4 (A8 x.cap) hI (by decide) (by decide) (AO _) (fun hI=>CQ t3 (⟨rfl,BO 5 (A8 x.miss) hI (by decide) (by decide) (AO _) (fun hI=>⟨rfl,EE hI (by decide) ((PQ.of (by rw[hm];unfold EU GR;rw[DW h0]<;>rfl) (AU _ _ _)))⟩)⟩))⟩))⟩))⟩)) (BV 1 (bytesOf (EK (A8 x.id))) (by decide)))⟩)) (fun hm=>PQ.of (by rw[hm];rfl) (AU _ _ _))⟩
theorem AFz(x:EB)(hf:JF x)(hw:dA x)(B:Base)(H:Heap):BM Tryz.prog 100 B 95 [K9 x] H (.returned (EU (IG x) (GR x))) H:=
 GL okp (knP (AIZ AR4) (pu1 (zW AFh))) AZ rfl (AU _ _ _) (AFy x hf hw (fun hm=>by have:=(UT.1 hm).2.1;omega)) B H
theorem AFp(x:C9)(hf:JD x)(hw:cB x)(hl:IB x=true->x.args.length<1000):Is (oU (real Tryz.prog) MR (MBr K5 JD IB) (MLr DJ L6 BU) x.tab x.key x.oth x.len x.prio x.blk (rowsOf DJ x.args) x.idle x.hard (x.cook:Int) x.tell (PQ (EU (IB x) (DL x)))):=by
 refine⟨?_⟩
 rw[uG]
 exact⟨x,rfl,hf,CY (fun hm=>CQ t3 (⟨rfl,FR 1 (A8 x.tab) (by decide) (AO _) (fun h0=>⟨rfl,PI 2 (by decide) (fun h1=>⟨rfl,PI 3 (by decide) (fun h2=>CQ t3 (⟨rfl,FR 4 (A8 x.len) (by decide) (AO _) (fun h3=>CQ t3 (⟨rfl,FR 5 (A8 x.prio) (by decide) (AO _) (fun h4=>CQ t3 (⟨rfl,FR 6 (A8 x.blk) (by decide) (AO _) (fun h5=>KY (hl hm) hw.1 (⟨rfl,PI 7 (by decide) (fun h6=>CQ t2 (⟨rfl,FR 8 (A8 x.idle) (by decide) (AO _) (fun h7=>CQ t2 (⟨rfl,FR 9 (A8 x.hard) (by decide) (AO _) (fun h8=>⟨rfl,FR 10 x.cook (by decide) hw.2 (fun h9=>CY (fun hb10=>⟨rfl,FR 11 1 (by decide) (by decide) (fun h10=>⟨rfl,(PQ.of (by rw[hm];unfold EU DL;rw[AL h0,DY h1,DY h2,AL h3,AL h4,AL h5,DY h6,AL h7,AL h8,AL h9,PP hb10,AL h10]<;>rfl) (AU _ _ _))⟩) (fun h10=>(fun hI=>⟨rfl,EE hI (by decide) ((PQ.of (by rw[hm];unfold EU DL;rw[AL h0,DY h1,DY h2,AL h3,AL h4,AL h5,DY h6,AL h7,AL h8,AL h9,PP hb10,DW h10]<;>rfl) (AU _ _ _)))⟩) (BV 11 (bytesOf (EK 1)) (by decide)))⟩) (fun hb10=>⟨rfl,(PQ.of (by rw[hm];unfold EU DL;rw[AL h0,DY h1,DY h2,AL h3,AL h4,AL h5,DY h6,AL h7,AL h8,AL h9,QK hb10]<;>rfl) (AU _ _ _))⟩)) (fun h9=>(fun hI=>CY (fun hb10=>⟨rfl,BO 11 1 hI (by decide) (by decide) (by decide) (fun hI=>⟨rfl,EE hI (by decide) ((PQ.of (by rw[hm];unfold EU DL;rw[AL h0,DY h1,DY h2,AL h3,AL h4,AL h5,DY h6,AL h7,AL h8,DW h9,PP hb10]<;>rfl) (AU _ _ _)))⟩)⟩) (fun hb10=>⟨rfl,EE hI (by decide) ((PQ.of (by rw[hm];unfold EU DL;rw[AL h0,DY h1,DY h2,AL h3,AL h4,AL h5,DY h6,AL h7,AL h8,DW h9,QK hb10]<;>rfl) (AU _ _ _)))⟩)) (BV 10 (bytesOf (EK x.cook)) (by decide)))⟩) (fun h8=>(fun hI=>⟨rfl,BO 10 x.cook hI (by decide) (by decide) hw.2 (fun hI=>CY (fun hb10=>⟨rfl,BO 11 1 hI (by decide) (by decide) (by decide) (fun hI=>⟨rfl,EE hI (by decide) ((PQ.of (by rw[hm];unfold EU DL;rw[AL h0,DY h1,DY h2,AL h3,AL h4,AL h5,DY h6,AL h7,DW h8,PP hb10]<;>rfl) (AU _ _ _)))⟩)⟩) (fun hb10=>⟨rfl,EE hI (by decide) ((PQ.of (by rw[hm];unfold EU DL;rw[AL h0,DY h1,DY h2,AL h3,AL h4,AL h5,DY h6,AL h7,DW h8,QK hb10]<;>rfl) (AU _ _ _)))⟩))⟩) (BV 9 (bytesOf (EK (A8 x.hard))) (by decide)))⟩)) (fun h7=>(fun hI=>CQ t2 (⟨rfl,BO 9 (A8 x.hard) hI (by decide) (by decide) (AO _) (fun hI=>⟨rfl,BO 10 x.cook hI (by decide) (by decide) hw.2 (fun hI=>CY (fun hb10=>⟨rfl,BO 11 1 hI (by decide) (by decide) (by decide) (fun hI=>⟨rfl,EE hI (by decide) ((PQ.of (by rw[hm];unfold EU DL;rw[AL h0,DY h1,DY h2,AL h3,AL h4,AL h5,DY h6,DW h7,PP hb10]<;>rfl) (AU _ _ _)))⟩)⟩) (fun hb10=>⟨rfl,EE hI (by decide) ((PQ.of (by rw[hm];unfold EU DL;rw[AL h0,DY h1,DY h2,AL h3,AL h4,AL h5,DY h6,DW h7,QK hb10]<;>rfl) (AU _ _ _)))⟩))⟩)⟩)) (BV 8 (bytesOf (EK (A8 x.idle))) (by decide)))⟩)) (fun h6=>(fun hI=>CQ t2 (⟨rfl,BO 8 (A8 x.idle) hI (by decide) (by decide) (AO _) (fun hI=>CQ t2 (⟨rfl,BO 9 (A8 x.hard) hI (by decide) (by decide) (AO _) (fun hI=>⟨rfl,BO 10 x.cook hI (by decide) (by decide) hw.2 (fun hI=>CY (fun hb10=>⟨rfl,BO 11 1 hI (by decide) (by decide) (by decide) (fun hI=>⟨rfl,EE hI (by decide) ((PQ.of (by rw[hm];unfold EU DL;rw[AL h0,DY h1,DY h2,AL h3,AL h4,AL h5,SC h6,PP hb10]<;>rfl) (AU _ _ _)))⟩)⟩) (fun hb10=>⟨rfl,EE hI (by decide) ((PQ.of (by rw[hm];unfold EU DL;rw[AL h0,DY h1,DY h2,AL h3,AL h4,AL h5,SC h6,QK hb10]<;>rfl) (AU _ _ _)))⟩))⟩)⟩))⟩)) (BV 7 (bytesOf (EJ (x.args.map BU))) (by decide)))⟩)) (fun h5=>(fun hI=>KY (hl hm) hw.1 (⟨rfl,LY 7 hI (by decide) (by decide) (fun hI=>CQ t2 (⟨rfl,BO 8 (A8 x.idle) hI (by decide) (by decide) (AO _) (fun hI=>CQ t2 (⟨rfl,BO 9 (A8 x.hard) hI (by decide) (by decide) (AO _) (fun hI=>⟨rfl,BO 10 x.cook hI (by decide) (by decide) hw.2 (fun hI=>CY (fun hb10=>⟨rfl,BO 11 1 hI (by decide) (by decide) (by decide) (fun hI=>⟨rfl,EE hI (by decide) ((PQ.of (by rw[hm];unfold EU DL;rw[AL h0,DY h1,DY h2,AL h3,AL h4,DW h5,PP hb10]<;>rfl) (AU _ _ _)))⟩)⟩) (fun hb10=>⟨rfl,EE hI (by decide) ((PQ.of (by rw[hm];unfold EU DL;rw[AL h0,DY h1,DY h2,AL h3,AL h4,DW h5,QK hb10]<;>rfl) (AU _ _ _)))⟩))⟩)⟩))⟩))⟩)) (BV 6 (bytesOf (EK (A8 x.blk))) (by decide)))⟩)) (fun h4=>(fun hI=>CQ t3 (⟨rfl,BO 6 (A8 x.blk) hI (by decide) (by decide) (AO _) (fun hI=>KY (hl hm) hw.1 (⟨rfl,LY 7 hI (by decide) (by decide) (fun hI=>CQ t2 (⟨rfl,BO 8 (A8 x.idle) hI (by decide) (by decide) (AO _) (fun hI=>CQ t2 (⟨rfl,BO 9 (A8 x.hard) hI (by decide) (by decide) (AO _) (fun hI=>⟨rfl,BO 10 x.cook hI (by decide) (by decide) hw.2 (fun hI=>CY (fun hb10=>⟨rfl,BO 11 1 hI (by decide) (by decide) (by decide) (fun hI=>⟨rfl,EE hI (by decide) ((PQ.of (by rw[hm];unfold EU DL;rw[AL h0,DY h1,DY h2,AL h3,DW h4,PP hb10]<;>rfl) (AU _ _ _)))⟩)⟩) (fun hb10=>⟨rfl,EE hI (by decide) ((PQ.of (by rw[hm];unfold EU DL;rw[AL h0,DY h1,DY h2,AL h3,DW h4,QK hb10]<;>rfl) (AU _ _ _)))⟩))⟩)⟩))⟩))⟩))⟩)) (BV 5 (bytesOf (EK (A8 x.prio))) (by decide)))⟩)) (fun h3=>(fun hI=>CQ t3 (⟨rfl,BO 5 (A8 x.prio) hI (by decide) (by decide) (AO _) (fun hI=>CQ t3 (⟨rfl,BO 6 (A8 x.blk) hI (by decide) (by decide) (AO _) (fun hI=>KY (hl hm) hw.1 (⟨rfl,LY 7 hI (by decide) (by decide) (fun hI=>CQ t2 (⟨rfl,BO 8 (A8 x.idle) hI (by decide) (by decide) (AO _) (fun hI=>CQ t2 (⟨rfl,BO 9 (A8 x.hard) hI (by decide) (by decide) (AO _) (fun hI=>⟨rfl,BO 10 x.cook hI (by decide) (by decide) hw.2 (fun hI=>CY (fun hb10=>⟨rfl,BO 11 1 hI (by decide) (by decide) (by decide) (fun hI=>⟨rfl,EE hI (by decide) ((PQ.of (by rw[hm];unfold EU DL;rw[AL h0,DY h1,DY h2,DW h3,PP hb10]<;>rfl) (AU _ _ _)))⟩)⟩) (fun hb10=>⟨rfl,EE hI (by decide) ((PQ.of (by rw[hm];unfold EU DL;rw[AL h0,DY h1,DY h2,DW h3,QK hb10]<;>rfl) (AU _ _ _)))⟩))⟩)⟩))⟩))⟩))⟩))⟩)) (BV 4 (bytesOf (EK (A8 x.len))) (by decide)))⟩)) (fun h2=>(fun hI=>CQ t3 (⟨rfl,BO 4 (A8 x.len) hI (by decide) (by decide) (AO _) (fun hI=>CQ t3 (⟨rfl,BO 5 (A8 x.prio) hI (by decide) (by decide) (AO _) (fun hI=>CQ t3 (⟨rfl,BO 6 (A8 x.blk) hI (by decide) (by decide) (AO _) (fun hI=>KY (hl hm) hw.1 (⟨rfl,LY 7 hI (by decide) (by decide) (fun hI=>CQ t2 (⟨rfl,BO 8 (A8 x.idle) hI (by decide) (by decide) (AO _) (fun hI=>CQ t2 (⟨rfl,BO 9 (A8 x.hard) hI (by decide) (by decide) (AO _) (fun hI=>⟨rfl,BO 10 x.cook hI (by decide) (by decide) hw.2 (fun hI=>CY (fun hb10=>⟨rfl,BO 11 1 hI (by decide) (by decide) (by decide) (fun hI=>⟨rfl,EE hI (by decide) ((PQ.of (by rw[hm];unfold EU DL;rw[AL h0,DY h1,SC h2,PP hb10]<;>rfl) (AU _ _ _)))⟩)⟩) (fun hb10=>⟨rfl,EE hI (by decide) ((PQ.of (by rw[hm];unfold EU DL;rw[AL h0,DY h1,SC h2,QK hb10]<;>rfl) (AU _ _ _)))⟩))⟩)⟩))⟩))⟩))⟩))⟩))⟩)) (BV 3 x.oth (by decide)))⟩) (fun h1=>(fun hI=>⟨rfl,LY 3 hI (by decide) (by decide) (fun hI=>CQ t3 (⟨rfl,BO 4 (A8 x.len) hI (by decide) (by decide) (AO _) (fun hI=>CQ t3 (⟨rfl,BO 5 (A8 x.prio) hI (by decide) (by decide) (AO _) (fun hI=>CQ t3 (⟨rfl,BO 6 (A8 x.blk) hI (by decide) (by decide) (AO _) (fun hI=>KY (hl hm) hw.1 (⟨rfl,LY 7 hI (by decide) (by decide) (fun hI=>CQ t2 (⟨rfl,BO 8 (A8 x.idle) hI (by decide) (by decide) (AO _) (fun hI=>CQ t2 (⟨rfl,BO 9 (A8 x.hard) hI (by decide) (by decide) (AO _) (fun hI=>⟨rfl,BO 10 x.cook hI (by decide) (by decide) hw.2 (fun hI=>CY (fun hb10=>⟨rfl,BO 11 1 hI (by decide) (by decide) (by decide) (fun hI=>⟨rfl,EE hI (by decide) ((PQ.of (by rw[hm];unfold EU DL;rw[AL h0,SC h1,PP hb10]<;>rfl) (AU _ _ _)))⟩)⟩) (fun hb10=>⟨rfl,EE hI (by decide) ((PQ.of (by rw[hm];unfold EU DL;rw[AL h0,SC h1,QK hb10]<;>rfl) (AU _ _ _)))⟩))⟩)⟩))⟩))⟩))⟩))⟩))⟩))⟩) (BV 2 x.key (by decide)))⟩) (fun h0=>(fun hI=>⟨rfl,LY 2 hI (by decide) (by decide) (fun hI=>⟨rfl,LY 3 hI (by decide) (by decide) (fun hI=>CQ t3 (⟨rfl,BO 4 (A8 x.len) hI (by decide) (by decide) (AO _) (fun hI=>CQ t3 (⟨rfl,BO 5 (A8 x.prio) hI (by decide) (by decide) (AO _) (fun hI=>CQ t3 (⟨rfl,BO 6 (A8 x.blk) hI (by decide) (by decide) (AO _) (fun hI=>KY (hl hm) hw.1 (⟨rfl,LY 7 hI (by decide) (by decide) (fun hI=>CQ t2 (⟨rfl,BO 8 (A8 x.idle) hI (by decide) (by decide) (AO _) (fun hI=>CQ t2 (⟨rfl,BO 9 (A8 x.hard) hI (by decide) (by decide) (AO _) (fun hI=>⟨rfl,BO 10 x.cook hI (by decide) (by decide) hw.2 (fun hI=>CY (fun hb10=>⟨rfl,BO 11 1 hI (by decide) (by decide) (by decide) (fun hI=>⟨rfl,EE hI (by decide) ((PQ.of (by rw[hm];unfold EU DL;rw[DW h0,PP hb10]<;>rfl) (AU _ _ _)))⟩)⟩) (fun hb10=>⟨rfl,EE hI (by decide) ((PQ.of (by rw[hm];unfold EU DL;rw[DW h0,QK hb10]<;>rfl) (AU _ _ _)))⟩))⟩)⟩))⟩))⟩))⟩))⟩))⟩))⟩)⟩) (BV 1 (bytesOf (EK (A8 x.tab))) (by decide)))⟩)) (fun hm=>PQ.of (by rw[hm];rfl) (AU _ _ _))⟩
theorem AFq(x:C9)(hf:JD x)(hw:cB x)(B:Base)(H:Heap):BM Tryz.prog 100 B 99 [K5 x] H (.returned (EU (IB x) (DL x))) H:=
 GL okp (knP (AIZ AR5) (pu1 (zW AE9))) AZ rfl (AU _ _ _) (AFp x hf hw (fun hm=>by have:=(UQ.1 hm).2.2.2.2.2;omega)) B H
theorem AFn(x:ES)(hf:JC x)(hw:bZ x)(hl:H9 x=true->x.code.length<1000):Is (oQ (real Tryz.prog) MR (MBr K4 JC H9) (MLr BN KU BF) x.id (rowsOf BN x.code) (PQ (EU (H9 x) (I9 x)))):=by
 refine⟨?_⟩
 rw[uF]
 exact⟨x,rfl,hf,CY (fun hm=>CQ t3 (⟨rfl,FR 1 (A8 x.id) (by decide) (AO _) (fun h0=>KY (hl hm) hw (⟨rfl,PI 2 (by decide) (fun h1=>⟨rfl,(PQ.of (by rw[hm];unfold EU I9;rw[AL h0,DY h1]<;>rfl) (AU _ _ _))⟩) (fun h1=>(fun hI=>⟨rfl,EE hI (by decide) ((PQ.of (by rw[hm];unfold EU I9;rw[AL h0,SC h1]<;>rfl) (AU _ _ _)))⟩) (BV 2 (bytesOf (EJ (x.code.map BF))) (by decide)))⟩)) (fun h0=>(fun hI=>KY (hl hm) hw (⟨rfl,LY 2 hI (by decide) (by decide) (fun hI=>⟨rfl,EE hI (by decide) ((PQ.of (by rw[hm];unfold EU I9;rw[DW h0]<;>rfl) (AU _ _ _)))⟩)⟩)) (BV 1 (bytesOf (EK (A8 x.id))) (by decide)))⟩)) (fun hm=>PQ.of (by rw[hm];rfl) (AU _ _ _))⟩
theorem AFo(x:ES)(hf:JC x)(hw:bZ x)(B:Base)(H:Heap):BM Tryz.prog 100 B 103 [K4 x] H (.returned (EU (H9 x) (I9 x))) H:=
 GL okp (knP (AIZ AR2) (pu1 (zW AE7))) AZ rfl (AU _ _ _) (AFn x hf hw (fun hm=>by have:=(UO.1 hm).2.1;omega)) B H
theorem AFt(x:EI)(hf:JE x)(hw:cO x)(hl:IC x=true->x.bks.length<1000):Is (oW (real Tryz.prog) MR (MBr K7 JE IC) (MLr BB I7 BC) x.id (x.kind:Int) x.fld (rowsOf BB x.bks) (PQ (EU (IC x) (G9 x)))):=by
 refine⟨?_⟩
 rw[uI]
 exact⟨x,rfl,hf,CY (fun hm=>CQ t3 (⟨rfl,FR 1 (A8 x.id) (by decide) (AO _) (fun h0=>CQ t5 (⟨rfl,FR 2 (A8 x.kind) (by decide) (AO _) (fun h1=>CQ t3 (⟨rfl,FR 3 (A8 x.fld) (by decide) (AO _) (fun h2=>KY (hl hm) hw (⟨rfl,PI 4 (by decide) (fun h3=>⟨rfl,(PQ.of (by rw[hm];unfold EU G9;rw[AL h0,AL h1,AL h2,DY h3]<;>rfl) (AU _ _ _))⟩) (fun h3=>(fun hI=>⟨rfl,EE hI (by decide) ((PQ.of (by rw[hm];unfold EU G9;rw[AL h0,AL h1,AL h2,SC h3]<;>rfl) (AU _ _ _)))⟩) (BV 4 (bytesOf (EJ (x.bks.map BC))) (by decide)))⟩)) (fun h2=>(fun hI=>KY (hl hm) hw (⟨rfl,LY 4 hI (by decide) (by decide) (fun hI=>⟨rfl,EE hI (by decide) ((PQ.of (by rw[hm];unfold EU G9;rw[AL h0,AL h1,DW h2]<;>rfl) (AU _ _ _)))⟩)⟩)) (BV 3 (bytesOf (EK (A8 x.fld))) (by decide)))⟩)) (fun h1=>(fun hI=>CQ t3 (⟨rfl,BO 3 (A8 x.fld) hI (by decide) (by decide) (AO _) (fun hI=>KY (hl hm) hw (⟨rfl,LY 4 hI (by decide) (by decide) (fun hI=>⟨rfl,EE hI (by decide) ((PQ.of (by rw[hm];unfold EU G9;rw[AL h0,DW h1]<;>rfl) (AU _ _ _)))⟩)⟩))⟩)) (BV 2 (bytesOf (EK (A8 x.kind))) (by decide)))⟩)) (fun h0=>(fun hI=>CQ t5 (⟨rfl,BO 2 (A8 x.kind) hI (by decide) (by decide) (AO _) (fun hI=>CQ t3 (⟨rfl,BO 3 (A8 x.fld) hI (by decide) (by decide) (AO _) (fun hI=>KY (hl hm) hw (⟨rfl,LY 4 hI (by decide) (by decide) (fun hI=>⟨rfl,EE hI (by decide) ((PQ.of (by rw[hm];unfold EU G9;rw[DW h0]<;>rfl) (AU _ _ _)))⟩)⟩))⟩))⟩)) (BV 1 (bytesOf (EK (A8 x.id))) (by decide)))⟩)) (fun hm=>PQ.of (by rw[hm];rfl) (AU _ _ _))⟩
theorem AFu(x:EI)(hf:JE x)(hw:cO x)(B:Base)(H:Heap):BM Tryz.prog 100 B 107 [K7 x] H (.returned (EU (IC x) (G9 x))) H:=
 GL okp (knP (AIZ AR6) (pu1 (zW AFd))) AZ rfl (AU _ _ _) (AFt x hf hw (fun hm=>by have:=(UR.1 hm).2.1;omega)) B H
theorem AFw(x:FJ)(hf:NJ x)(hw:cZ x):Is (pE (real Tryz.prog) MR (MBr K8 NJ I6) (MLr EM OL CV) x.id x.rate x.burst (PQ (EU (I6 x) (IK x)))):=by
 refine⟨?_⟩
 rw[uK]
 exact⟨x,rfl,hf,CY (fun hm=>CQ t3 (⟨rfl,FR 1 (A8 x.id) (by decide) (AO _) (fun h0=>CQ t2 (⟨rfl,FR 2 (A8 x.rate) (by decide) (AO _) (fun h1=>CQ t2 (⟨rfl,FR 3 (A8 x.burst) (by decide) (AO _) (fun h2=>⟨rfl,(PQ.of (by rw[hm];unfold EU IK;rw[AL h0,AL h1,AL h2]<;>rfl) (AU _ _ _))⟩) (fun h2=>(fun hI=>⟨rfl,EE hI (by decide) ((PQ.of (by rw[hm];unfold EU IK;rw[AL h0,AL h1,DW h2]<;>rfl) (AU _ _ _)))⟩) (BV 3 (bytesOf (EK (A8 x.burst))) (by decide)))⟩)) (fun h1=>(fun hI=>CQ t2 (⟨rfl,BO 3 (A8 x.burst) hI (by decide) (by decide) (AO _) (fun hI=>⟨rfl,EE hI (by decide) ((PQ.of (by rw[hm];unfold EU IK;rw[AL h0,DW h1]<;>rfl) (AU _ _ _)))⟩)⟩)) (BV 2 (bytesOf (EK (A8 x.rate))) (by decide)))⟩)) (fun h0=>(fun hI=>CQ t2 (⟨rfl,BO 2 (A8 x.rate) hI (by decide) (by decide) (AO _) (fun hI=>CQ t2 (⟨rfl,BO 3 (A8 x.burst) hI (by decide) (by decide) (AO _) (fun hI=>⟨rfl,EE hI (by decide) ((PQ.of (by rw[hm];unfold EU IK;rw[DW h0]<;>rfl) (AU _ _ _)))⟩)⟩))⟩)) (BV 1 (bytesOf (EK (A8 x.id))) (by decide)))⟩)) (fun hm=>PQ.of (by rw[hm];rfl) (AU _ _ _))⟩
theorem AFx(x:FJ)(hf:NJ x)(hw:cZ x)(B:Base)(H:Heap):BM Tryz.prog 100 B 111 [K8 x] H (.returned (EU (I6 x) (IK x))) H:=
 GL okp (knP ANh (pu1 (zW AFf))) AZ rfl (AU _ _ _) (AFw x hf hw) B H
theorem AH6(x:IJ)(hf:PL x)(hw:lN x):Is (xV (real Tryz.prog) MR (MBr OJ PL J9) (MLr EM OL CV) x.id x.size (PQ (EU (J9 x) (KF x)))):=by
 refine⟨?_⟩
 rw[xW]
 exact⟨x,rfl,hf,CY (fun hm=>CQ t3 (⟨rfl,FR 1 (A8 x.id) (by decide) (AO _) (fun h0=>CQ t3 (⟨rfl,FR 2 (A8 x.size) (by decide) (AO _) (fun h1=>⟨rfl,(PQ.of (by rw[hm];unfold EU KF;rw[AL h0,AL h1]<;>rfl) (AU _ _ _))⟩) (fun h1=>(fun hI=>⟨rfl,EE hI (by decide) ((PQ.of (by rw[hm];unfold EU KF;rw[AL h0,DW h1]<;>rfl) (AU _ _ _)))⟩) (BV 2 (bytesOf (EK (A8 x.size))) (by decide)))⟩)) (fun h0=>(fun hI=>CQ t3 (⟨rfl,BO 2 (A8 x.size) hI (by decide) (by decide) (AO _) (fun hI=>⟨rfl,EE hI (by decide) ((PQ.of (by rw[hm];unfold EU KF;rw[DW h0]<;>rfl) (AU _ _ _)))⟩)⟩)) (BV 1 (bytesOf (EK (A8 x.id))) (by decide)))⟩)) (fun hm=>PQ.of (by rw[hm];rfl) (AU _ _ _))⟩
theorem AH7(x:IJ)(hf:PL x)(hw:lN x)(B:Base)(H:Heap):BM Tryz.prog 100 B 115 [OJ x] H (.returned (EU (J9 x) (KF x))) H:=
 GL okp (knP ANh (pu1 (zW AHM))) AZ rfl (AU _ _ _) (AH6 x hf hw) B H
end
end Go.Proofs.Ob
namespace Go.Abs
open Go
section
variable {P:Program}
def TC(P:Program)(rec:TypeId->List Value->List Value->Option (List (Int×Int)))(xs ys:List Value):List Field->Option (List (Int×Int))
 | []=>some []
 | f :: fs => match f.name == "_" with
  |true=>none
  |false=>match P.underlying f.type with
   |some (.int _)=>match xs[f.offset]?,ys[f.offset]? with
    |some (.int k a),some (.int k' b)=>match decide (k=k')with
     |true=>match TC P rec xs ys fs with
      |some l=>some ((a,b)::l)
      |none=>none
     |false=>none
    |_,_=>none
   |some (.struct _)=>match FK P f.type with
    |some n=>match rec f.type ((xs.drop f.offset).take n) ((ys.drop f.offset).take n),TC P rec xs ys fs with
     |some l,some l'=>some (l++l')
     |_,_=>none
    |none=>none
   |_=>none
def UH(P:Program):Nat->TypeId->List Value->List Value->Option (List (Int×Int))
 | 0,_,_,_=>none
 |d+1,t,xs,ys=>match P.underlying t with
  |some (.struct fs)=>match P.stoodInHeld t with
   |true=>none
   |false=>TC P (UH P d) xs ys fs.toList
  |_=>none
def allEq(l:List (Int×Int)):Bool:=l.all fun(a,b)=>a==b
theorem PV{t:TypeId}{d:TypeDesc}(h:P.underlying t=some d):BR P (underlying t)=some d:=KS h
theorem kT{t:TypeId}{d:TypeDesc}(h:P.underlying t=some d):BR P (isAgg t)=some (UK d):=by
 unfold isAgg;rw[CJ,PV h,Option.bind_some]
 cases d<;>rfl
theorem zX{t:TypeId}{n:Nat}(h:FK P t=some n):BR P (sizeOf t)=some n:=by
 unfold FK at h
 cases e:P.info? t with
 |none=>rw[e]at h;cases h
 |some i=>
  rw[e]at h;simp only[Option.map_some,Option.some.injEq]at h;subst h
  simp[sizeOf,typeInfo,program,CJ,BR,e]
  rfl
theorem YS{t:TypeId}{d:IntKind}(hu:P.underlying t=some (.int d)){cs:List Value}{off:Nat}{v:Value}(h:cs[off]?=some v):BR P (part t ⟨cs⟩ off)=some v:=by
 unfold part
 rw[CJ,kT hu,Option.bind_some]
 simp[UK,h]
 rfl
theorem dP{t:TypeId}{fs:Array Field}(hu:P.underlying t=some (.struct fs)){cs:List Value}{off n:Nat}(hn:FK P t=some n):BR P (part t ⟨cs⟩ off)=some (.agg ⟨(cs.drop off).take n⟩):=by
 unfold part
 rw[CJ,kT hu,Option.bind_some]
 simp only[UK,if_true]
 rw[CJ,zX hn,Option.bind_some]
 simp
 rfl
theorem kS{t:TypeId}{q k:IntKind}{a b:Int}(hu:P.underlying t=some (.int q))(n:Nat):BR P (Op.equalIn (n+1) t (.int k a) (.int k b))=some (a==b):=by
 simp only[Op.equalIn,CJ,PV hu,Option.bind_some,if_true]
 rfl
theorem zY{t:TypeId}{fs:Array Field}(hu:P.underlying t=some (.struct fs))(hp:P.stoodInHeld t=false)(d:Nat)(xs ys:Array Value):
  BR P (Op.equalIn (d+1) t (.agg xs) (.agg ys))=BR P (Op.eqFields d xs ys fs.toList):=by
 have e0:BR P (program)=some P:=rfl
 simp only[Op.equalIn,CJ,PV hu,Option.bind_some,e0,hp,Bool.false_eq_true,if_false]
 rw[←Array.forIn_toList]
 have e1:BR P (pure PUnit.unit:Sem PUnit)=some PUnit.unit:=rfl
 generalize fs.toList=l
 clear hu
 induction l with
 |nil=>rfl
 |cons f fs ih=>
  simp only[List.forIn_cons,Op.eqFields]
  by_cases hn : f.name = "_"
  ·simp only[hn,ne_eq,not_true_eq_false,if_false,CJ]
   exact ih
  ·simp only[hn,ne_eq,not_false_eq_true,if_true,CJ]
   cases h1:BR P (part f.type xs f.offset)with
   |none=>simp
   |some a=>
    simp only[Option.bind_some]
    cases h2:BR P (part f.type ys f.offset)with
    |none=>simp
    |some b=>
     simp only[Option.bind_some]
     cases h3:BR P (Op.equalIn d f.type a b)with
     |none=>simp
     |some r=>
      simp only[Option.bind_some]
      cases r
      ·rfl
      ·exact ih
theorem qN{rec:TypeId->List Value->List Value->Option (List (Int×Int))}{d:Nat}(hrec:∀t l l' ps,rec t l l'=some ps->BR P (Op.equalIn (d+1) t (.agg ⟨l⟩) (.agg ⟨l'⟩))=some (allEq ps)){xs ys:List Value}:
  ∀(fs:List Field) (ps:List (Int×Int)),TC P rec xs ys fs=some ps->BR P (Op.eqFields (d+1) ⟨xs⟩ ⟨ys⟩ fs)=some (allEq ps)
 | [],ps,h=>by simp only[TC,Option.some.injEq]at h;subst h;rfl
 |f::fs,ps,h=>by
  have ih:=fun ps h=>qN hrec (xs:=xs) (ys:=ys) fs ps h
  unfold TC at h
  split at h
  ·cases h
  ·rename_i hn
   have hn : f.name ≠ "_" := by simpa using hn
   split at h
   ·rename_i q hu
    split at h
    ·rename_i k a k' b h1 h2
     split at h
     ·rename_i hk
      simp only[decide_eq_true_eq]at hk;subst hk
      split at h
      ·rename_i l hl
       simp only[Option.some.injEq]at h;subst h
       simp only[Op.eqFields,hn,ne_eq,not_false_eq_true,if_true,CJ,YS hu h1,YS hu h2,Option.bind_some,kS hu]
       cases hab:a==b
       ·simp[allEq,hab];rfl
       ·simp only[Bool.not_true,Bool.false_eq_true,if_false,ih _ hl]
        simp[allEq,hab]
      ·cases h
     ·cases h
    ·cases h
   ·rename_i gs hu
    split at h
    ·rename_i n hsz
     split at h
     ·rename_i l l' hl hl'
      simp only[Option.some.injEq]at h;subst h
      simp only[Op.eqFields,hn,ne_eq,not_false_eq_true,if_true,CJ,dP hu hsz,Option.bind_some,hrec _ _ _ _ hl]
      cases hab:allEq l
      ·simp only[Bool.not_false,if_true]
       simp only[allEq]at hab ⊢
       rw[List.all_append,hab];rfl
      ·simp only[Bool.not_true,Bool.false_eq_true,if_false,ih _ hl']
       simp only[allEq]at hab ⊢
       rw[List.all_append,hab];rfl
     ·cases h
    ·cases h
   ·cases h
theorem kP:∀(d:Nat) (t:TypeId) (l l':List Value) (ps:List (Int×Int)) (n:Nat),d<=n->UH P d t l l'=some ps->BR P (Op.equalIn (n+1) t (.agg ⟨l⟩) (.agg ⟨l'⟩))=some (allEq ps)
 | 0,t,l,l',ps,n,hn,h=>by cases h
 |d+1,t,l,l',ps,n,hn,h=>by
  unfold UH at h
  split at h
  ·rename_i fs hu
   split at h
   ·cases h
   ·rename_i hp
    rw[zY hu hp]
    obtain⟨m,rfl⟩:∃m,n=m+1:=⟨n-1,by omega⟩
    exact qN (fun t l l' ps h=>kP d t l l' ps m (by omega) h) _ _ h
  ·cases h
theorem bJ{op:BinOp}{t:TypeId}{x y:Operand}{xs ys:Array Value}(hm:P.eqGuardType P.depth t=false):BR P (eqGuard op t x y (.agg xs) (.agg ys))=some ():=by
 have e0:BR P (program)=some P:=rfl
 cases op<;>simp[eqGuard,CJ,e0,hm]<;>rfl
theorem ALV{t:TypeId}{l l':List Value}{ps:List (Int×Int)}(h:UH P 5 t l l'=some ps)(hm:P.eqGuardType P.depth t=false)(hl:DV l=true)(hl':DV l'=true)(H:Heap)(x y:Operand):
  TY P H .eql t x y (.agg ⟨l⟩) (.agg ⟨l'⟩)=some (.bool (allEq ps)):=by
 have e:BR P (do eqGuard .eql t x y (.agg ⟨l⟩) (.agg ⟨l'⟩);binOp .eql t (.agg ⟨l⟩) (.agg ⟨l'⟩))=some (.bool (allEq ps)):=by
  rw[CJ,bJ hm,Option.bind_some,show binOp .eql t (.agg ⟨l⟩) (.agg ⟨l'⟩)=(do pure (.bool ((←Op.equalIn (9999+1) t (.agg ⟨l⟩) (.agg ⟨l'⟩)))))from rfl,CJ,kP 5 t l l' ps 9999 (by omega) h]
  rfl
 simp only[TY,plain,PU,hl,hl',Bool.and_self,FW,e]
theorem ALW{t:TypeId}{l l':List Value}{ps:List (Int×Int)}(h:UH P 5 t l l'=some ps)(hm:P.eqGuardType P.depth t=false)(hl:DV l=true)(hl':DV l'=true)(H:Heap)(x y:Operand):
  TY P H .neq t x y (.agg ⟨l⟩) (.agg ⟨l'⟩)=some (.bool (!allEq ps)):=by
 have e:BR P (do eqGuard .neq t x y (.agg ⟨l⟩) (.agg ⟨l'⟩);binOp .neq t (.agg ⟨l⟩) (.agg ⟨l'⟩))=some (.bool (!allEq ps)):=by
  rw[CJ,bJ hm,Option.bind_some,show binOp .neq t (.agg ⟨l⟩) (.agg ⟨l'⟩)=(do pure (.bool (!(←Op.equalIn (9999+1) t (.agg ⟨l⟩) (.agg ⟨l'⟩)))))from rfl,CJ,kP 5 t l l' ps 9999 (by omega) h]
  rfl
 simp only[TY,plain,PU,hl,hl',Bool.and_self,FW,e]
theorem eD{t:TypeId}{l l':List Value}{ps:List (Int×Int)}{X Y:Prop}(h:UH P 5 t l l'=some ps)(hm:P.eqGuardType P.depth t=false)(hl:DV l=true)(hl':DV l'=true)
 (h1:allEq ps=true->X) (h2:allEq ps=false->Y):(real P).agEq .eql t l l' X Y:=⟨_,fun H x y=>ALV h hm hl hl' H x y,h1,h2⟩
theorem eF{t:TypeId}{l l':List Value}{ps:List (Int×Int)}{X Y:Prop}(h:UH P 5 t l l'=some ps)(hm:P.eqGuardType P.depth t=false)(hl:DV l=true)(hl':DV l'=true)
 (h1:allEq ps=false->X) (h2:allEq ps=true->Y):(real P).agEq .neq t l l' X Y:=⟨_,fun H x y=>ALW h hm hl hl' H x y,fun e=>h1 (by simpa using e),fun e=>h2 (by simpa using e)⟩
end
end Go.Abs
