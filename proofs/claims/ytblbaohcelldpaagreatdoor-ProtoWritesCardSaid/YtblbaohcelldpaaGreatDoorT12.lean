/- . -/
import Derived.Test.YtblbaohcelldpaaGreatDoorT10
set_option linter.all false
set_option maxRecDepth 100000
namespace Go.Proofs.Ob
open Go Go.Abs Go.Tlv
noncomputable section
theorem t22:Tryz.prog.underlying 27=some (.int .u32):=by kernel_rfl
theorem t2:Tryz.prog.underlying 2=some (.int .i64):=by kernel_rfl
theorem CQ{src:TypeId}{ks k0:IntKind}{a:Int}{K:Int->Prop}(hs:Tryz.prog.underlying src=some (.int ks))(hk:K ((A8 a:Nat):Int)):(real Tryz.prog).conv src 28 k0 a .u64 K:=by
 refine VI hs t23 ?_
 have e:IntKind.u64.wrap a=((A8 a:Nat):Int):=by
  have:IntKind.u64.wrap a=a % 18446744073709551616:=by simp[IntKind.wrap,IntKind.signed,IntKind.bits]
  rw[this];unfold A8;omega
 rw[e];exact hk
structure j6(b len:Nat)(vs:Lv)(l:List At):Prop where
 v:vs=BS l
 n:len=l.length
 b:l.length<=b
 ne:l≠[]
 t:∀a∈l,a.t<256
theorem j6.a{b len:Nat}{vs:Lv}{l:List At}(h:j6 b len vs l)(hb:b<1000):isA len vs l:=⟨h.v,h.n,Nat.lt_of_le_of_lt h.b hb,h.ne⟩
theorem BV(k:Nat)(s:ByteArray)(hk:k<256):j6 1 1 (BS [⟨k,s⟩]) [⟨k,s⟩]:=⟨rfl,rfl,Nat.le_refl _,by simp,fun a ha=>by simp only[List.mem_singleton]at ha;subst ha;exact hk⟩
theorem j6.step{b len:Nat}{vs:Lv}{l:List At}(h:j6 b len vs l){k:Nat}(s:ByteArray)(hk:k<256):j6 (b+1) (IY l k s).length (BS (IY l k s)) (IY l k s):=by
 refine⟨rfl,rfl,?_,AJB h.ne,?_⟩
 ·have:=h.b
  unfold IY;split
  ·omega
  ·simp;omega
 ·unfold IY;split
  ·exact h.t
  ·intro a ha
   rcases List.mem_append.1 ha with ha|ha
   ·exact h.t a ha
   ·simp only[List.mem_singleton]at ha;subst ha;exact hk
theorem FR(k m:Nat){A:Prop}{B:Lv->Prop}(hk:k<256)(hm:m<18446744073709551616)(hA:m=0->A)(hB:m≠0->B (BS [⟨k,bytesOf (EK m)⟩])):MR.n0 (k:Int) (m:Int) A B:=⟨k,m,rfl,rfl,hk,hm,hA,hB⟩
theorem BO(k m:Nat){b len:Nat}{vs:Lv}{l:List At}{K:Nat->Lv->Prop}(h:j6 b len vs l)(hb:b<1000)(hk:k<256)(hm:m<18446744073709551616)(hK:j6 (b+1) (addN l k m).length (BS (addN l k m)) (addN l k m)->K (addN l k m).length (BS (addN l k m))):MR.n1 len vs (k:Int) (m:Int) K:=
 ⟨l,k,m,rfl,rfl,hk,hm,h.a hb,hK (h.step _ hk)⟩
theorem PI(k:Nat){s:ByteArray}{A:Prop}{B:Lv->Prop}(hk:k<256)(hA:s.data.toList=[]->A)(hB:s.data.toList≠[]->B (BS [⟨k,s⟩])):MR.t0 (k:Int) s A B:=⟨k,rfl,hk,hA,hB⟩
theorem LY(k:Nat){s:ByteArray}{b len:Nat}{vs:Lv}{l:List At}{K:Nat->Lv->Prop}(h:j6 b len vs l)(hb:b<1000)(hk:k<256)(hK:j6 (b+1) (IY l k s).length (BS (IY l k s)) (IY l k s)->K (IY l k s).length (BS (IY l k s))):MR.t1 len vs (k:Int) s K:=
 ⟨l,k,rfl,hk,h.a hb,hK (h.step _ hk)⟩
theorem EE{b len:Nat}{vs:Lv}{l:List At}{K:ByteArray->Prop}(h:j6 b len vs l)(hb:b<1000)(hK:K (bytesOf (encS l))):MR.bt len vs K:=⟨l,h.a hb,h.t,hK⟩
theorem ABT:OM Tryz.prog 100 (AP S0 Sp0 [(154,Q4 MR),(157,NC MR)] [] [] []):=M3 (fun x hx=>by
 simp only[List.mem_cons,List.not_mem_nil,or_false]at hx
 rcases hx with rfl|rfl
 ·exact ALH
 ·exact ACV) (fun x hx=>by cases hx)
def MF{α:Type}(arg:α->Value)(wf:α->Prop)(one:α->ByteArray):PSt:=fun a K=>∃x:α,a=arg x/\wf x/\K (one x)
theorem kR{α:Type}{arg:α->Value}{wf:α->Prop}{one:α->ByteArray}{f:FuncId}(h:∀x,wf x->∀B H,BM Tryz.prog 100 B f [arg x] H (.returned (.string (one x))) H):FY Tryz.prog 100 f (sF (MF arg wf one)):=by
 intro args K hs
 unfold sF at hs
 split at hs<;>try exact hs.elim
 obtain⟨x,rfl,hw,hK⟩:=hs
 exact⟨_,h x hw,hK⟩
theorem AKC(x:Arm)(hw:R8 x):Is (ADb (real Tryz.prog) MR (x.v:Int) x.nx (PQ (.string (CU x)))):=by
 refine⟨?_⟩
 rw[ABB]
 exact CQ t22 (⟨rfl,FR 1 (A8 x.v) (by decide) (AO _) (fun h0=>CQ t3 (⟨rfl,FR 2 (A8 x.nx) (by decide) (AO _) (fun h1=>⟨rfl,(PQ.of (by unfold CU XT;rw[AL h0,AL h1]<;>rfl) rfl)⟩) (fun h1=>(fun hI=>⟨rfl,EE hI (by decide) ((PQ.of (by unfold CU XT;rw[AL h0,DW h1]<;>rfl) rfl))⟩) (BV 2 (bytesOf (EK (A8 x.nx))) (by decide)))⟩)) (fun h0=>(fun hI=>CQ t3 (⟨rfl,BO 2 (A8 x.nx) hI (by decide) (by decide) (AO _) (fun hI=>⟨rfl,EE hI (by decide) ((PQ.of (by unfold CU XT;rw[DW h0]<;>rfl) rfl))⟩)⟩)) (BV 1 (bytesOf (EK (A8 x.v))) (by decide)))⟩)
theorem APN:FY Tryz.prog 100 156 (sF (MF (fun x:Arm => .agg ⟨D7 x⟩) R8 CU)):=kR fun x hw B H=>
 GL okp ABT AZ rfl rfl (AKC x hw) B H
theorem AFv(x:Instr)(hw:KU x):Is (oZ (real Tryz.prog) MR (x.op:Int) x.to (x.ak:Int) (x.an:Int) (x.bk:Int) (x.bn:Int) x.n (PQ (.string (BF x)))):=by
 refine⟨?_⟩
 rw[uJ]
 exact CQ t5 (⟨rfl,FR 1 (A8 x.op) (by decide) (AO _) (fun h0=>CQ t3 (⟨rfl,FR 2 (A8 x.to) (by decide) (AO _) (fun h1=>CQ t5 (⟨rfl,FR 3 (A8 x.ak) (by decide) (AO _) (fun h2=>⟨rfl,FR 4 x.an (by decide) hw.1 (fun h3=>CQ t5 (⟨rfl,FR 5 (A8 x.bk) (by decide) (AO _) (fun h4=>⟨rfl,FR 6 x.bn (by decide) hw.2 (fun h5=>CQ t3 (⟨rfl,FR 7 (A8 x.n) (by decide) (AO _) (fun h6=>⟨rfl,(PQ.of (by unfold BF KE;rw[AL h0,AL h1,AL h2,AL h3,AL h4,AL h5,AL h6]<;>rfl) rfl)⟩) (fun h6=>(fun hI=>⟨rfl,EE hI (by decide) ((PQ.of (by unfold BF KE;rw[AL h0,AL h1,AL h2,AL h3,AL h4,AL h5,DW h6]<;>rfl) rfl))⟩) (BV 7 (bytesOf (EK (A8 x.n))) (by decide)))⟩)) (fun h5=>(fun hI=>CQ t3 (⟨rfl,BO 7 (A8 x.n) hI (by decide) (by decide) (AO _) (fun hI=>⟨rfl,EE hI (by decide) ((PQ.of (by unfold BF KE;rw[AL h0,AL h1,AL h2,AL h3,AL h4,DW h5]<;>rfl) rfl))⟩)⟩)) (BV 6 (bytesOf (EK x.bn)) (by decide)))⟩) (fun h4=>(fun hI=>⟨rfl,BO 6 x.bn hI (by decide) (by decide) hw.2 (fun hI=>CQ t3 (⟨rfl,BO 7 (A8 x.n) hI (by decide) (by decide) (AO _) (fun hI=>⟨rfl,EE hI (by decide) ((PQ.of (by unfold BF KE;rw[AL h0,AL h1,AL h2,AL h3,DW h4]<;>rfl) rfl))⟩)⟩))⟩) (BV 5 (bytesOf (EK (A8 x.bk))) (by decide)))⟩)) (fun h3=>(fun hI=>CQ t5 (⟨rfl,BO 5 (A8 x.bk) hI (by decide) (by decide) (AO _) (fun hI=>⟨rfl,BO 6 x.bn hI (by decide) (by decide) hw.2 (fun hI=>CQ t3 (⟨rfl,BO 7 (A8 x.n) hI (by decide) (by decide) (AO _) (fun hI=>⟨rfl,EE hI (by decide) ((PQ.of (by unfold BF KE;rw[AL h0,AL h1,AL h2,DW h3]<;>rfl) rfl))⟩)⟩))⟩)⟩)) (BV 4 (bytesOf (EK x.an)) (by decide)))⟩) (fun h2=>(fun hI=>⟨rfl,BO 4 x.an hI (by decide) (by decide) hw.1 (fun hI=>CQ t5 (⟨rfl,BO 5 (A8 x.bk) hI (by decide) (by decide) (AO _) (fun hI=>⟨rfl,BO 6 x.bn hI (by decide) (by decide) hw.2 (fun hI=>CQ t3 (⟨rfl,BO 7 (A8 x.n) hI (by decide) (by decide) (AO _) (fun hI=>⟨rfl,EE hI (by decide) ((PQ.of (by unfold BF KE;rw[AL h0,AL h1,DW h2]<;>rfl) rfl))⟩)⟩))⟩)⟩))⟩) (BV 3 (bytesOf (EK (A8 x.ak))) (by decide)))⟩)) (fun h1=>(fun hI=>CQ t5 (⟨rfl,BO 3 (A8 x.ak) hI (by decide) (by decide) (AO _) (fun hI=>⟨rfl,BO 4 x.an hI (by decide) (by decide) hw.1 (fun hI=>CQ t5 (⟨rfl,BO 5 (A8 x.bk) hI (by decide) (by decide) (AO _) (fun hI=>⟨rfl,BO 6 x.bn hI (by decide) (by decide) hw.2 (fun hI=>CQ t3 (⟨rfl,BO 7 (A8 x.n) hI (by decide) (by decide) (AO _) (fun hI=>⟨rfl,EE hI (by decide) ((PQ.of (by unfold BF KE;rw[AL h0,DW h1]<;>rfl) rfl))⟩)⟩))⟩)⟩))⟩)⟩)) (BV 2 (bytesOf (EK (A8 x.to))) (by decide)))⟩)) (fun h0=>(fun hI=>CQ t3 (⟨rfl,BO 2 (A8 x.to) hI (by decide) (by decide) (AO _) (fun hI=>CQ t5 (⟨rfl,BO 3 (A8 x.ak) hI (by decide) (by decide) (AO _) (fun hI=>⟨rfl,BO 4 x.an hI (by decide) (by decide) hw.1 (fun hI=>CQ t5 (⟨rfl,BO 5 (A8 x.bk) hI (by decide) (by decide) (AO _) (fun hI=>⟨rfl,BO 6 x.bn hI (by decide) (by decide) hw.2 (fun hI=>CQ t3 (⟨rfl,BO 7 (A8 x.n) hI (by decide) (by decide) (AO _) (fun hI=>⟨rfl,EE hI (by decide) ((PQ.of (by unfold BF KE;rw[DW h0]<;>rfl) rfl))⟩)⟩))⟩)⟩))⟩)⟩))⟩)) (BV 1 (bytesOf (EK (A8 x.op))) (by decide)))⟩)
theorem APM:FY Tryz.prog 100 190 (sF (MF (fun x:Instr => .agg ⟨BN x⟩) KU BF)):=kR fun x hw B H=>
 GL okp ABT AZ rfl rfl (AFv x hw) B H
theorem AB6(x:DN)(hw:I7 x):Is (j3 (real Tryz.prog) MR (x.w:Int) x.b (PQ (.string (BC x)))):=by
 refine⟨?_⟩
 rw[mM]
 exact⟨rfl,FR 1 x.w (by decide) hw (fun h0=>CQ t3 (⟨rfl,FR 2 (A8 x.b) (by decide) (AO _) (fun h1=>⟨rfl,(PQ.of (by unfold BC OP;rw[AL h0,AL h1]<;>rfl) rfl)⟩) (fun h1=>(fun hI=>⟨rfl,EE hI (by decide) ((PQ.of (by unfold BC OP;rw[AL h0,DW h1]<;>rfl) rfl))⟩) (BV 2 (bytesOf (EK (A8 x.b))) (by decide)))⟩)) (fun h0=>(fun hI=>CQ t3 (⟨rfl,BO 2 (A8 x.b) hI (by decide) (by decide) (AO _) (fun hI=>⟨rfl,EE hI (by decide) ((PQ.of (by unfold BC OP;rw[DW h0]<;>rfl) rfl))⟩)⟩)) (BV 1 (bytesOf (EK x.w)) (by decide)))⟩
theorem APP:FY Tryz.prog 100 198 (sF (MF (fun x:DN => .agg ⟨BB x⟩) I7 BC)):=kR fun x hw B H=>
 GL okp ABT AZ rfl rfl (AB6 x hw) B H
theorem AKD(n:Int):Is (ADc (real Tryz.prog) MR n (PQ (.string (CV n)))):=by
 refine⟨?_⟩
 rw[ABC]
 exact CQ t3 ⟨_,rfl,AO _,PQ.of rfl rfl⟩
theorem APO:FY Tryz.prog 100 172 (sF (MF (fun n:Int => .int .i64 n) OL CV)):=kR fun x hw B H=>GL okp knN AZ rfl rfl (AKD x) B H
theorem ALM:FY Tryz.prog 100 140 (sF (MF (fun n:Nat => .int .u64 (n:Int)) L6 BU)):=kR fun x hw B H=>GL okp DC AZ rfl rfl (AMM x hw) B H
end
end Go.Proofs.Ob
