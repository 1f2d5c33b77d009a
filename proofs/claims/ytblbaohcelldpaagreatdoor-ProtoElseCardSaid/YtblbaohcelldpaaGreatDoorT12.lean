/- One item as bytes: what the code comes to. -/
import Derived.Test.YtblbaohcelldpaaGreatDoorT10
set_option linter.all false
namespace Go.Proofs.YtblbaohcelldpaaGreatDoor.Ob
open Go Go.Abs Go.Tlv
set_option maxRecDepth 100000
noncomputable section
theorem t22:Tryz.prog.underlying 27=some (.int .u32):=by kernel_rfl
theorem t2:Tryz.prog.underlying 2=some (.int .i64):=by kernel_rfl
theorem n_cv{src:TypeId}{ks k0:IntKind}{a:Int}{K:Int->Prop}(hs:Tryz.prog.underlying src=some (.int ks))(hk:K ((u64N a:Nat):Int)):(real Tryz.prog).conv src 28 k0 a .u64 K:=by
 refine real_conv hs t23 ?_
 have e:IntKind.u64.wrap a=((u64N a:Nat):Int):=by
  have:IntKind.u64.wrap a=a % 18446744073709551616:=by simp[IntKind.wrap,IntKind.signed,IntKind.bits]
  rw[this];unfold u64N;omega
 rw[e];exact hk
structure isAb(b len:Nat)(vs:List Value)(l:List At):Prop where
 v:vs=cellsA l
 n:len=l.length
 b:l.length<=b
 ne:l≠[]
 t:∀a∈l,a.t<256
theorem isAb.a{b len:Nat}{vs:List Value}{l:List At}(h:isAb b len vs l)(hb:b<1000):isA len vs l:=⟨h.v,h.n,Nat.lt_of_le_of_lt h.b hb,h.ne⟩
theorem isAb_one(k:Nat)(s:ByteArray)(hk:k<256):isAb 1 1 (cellsA [⟨k,s⟩]) [⟨k,s⟩]:=⟨rfl,rfl,Nat.le_refl _,by simp,fun a ha=>by simp only[List.mem_singleton]at ha;subst ha;exact hk⟩
theorem isAb.step{b len:Nat}{vs:List Value}{l:List At}(h:isAb b len vs l){k:Nat}(s:ByteArray)(hk:k<256):isAb (b+1) (addT l k s).length (cellsA (addT l k s)) (addT l k s):=by
 refine⟨rfl,rfl,?_,addT_ne h.ne,?_⟩
 ·have:=h.b
  unfold addT;split
  ·omega
  ·simp;omega
 ·unfold addT;split
  ·exact h.t
  ·intro a ha
   rcases List.mem_append.1 ha with ha|ha
   ·exact h.t a ha
   ·simp only[List.mem_singleton]at ha;subst ha;exact hk
theorem n0_mk(k m:Nat){A:Prop}{B:List Value->Prop}(hk:k<256)(hm:m<18446744073709551616)(hA:m=0->A)(hB:m≠0->B (cellsA [⟨k,bytesOf (numB m)⟩])):MR.n0 (k:Int) (m:Int) A B:=⟨k,m,rfl,rfl,hk,hm,hA,hB⟩
theorem n1_mk(k m:Nat){b len:Nat}{vs:List Value}{l:List At}{K:Nat->List Value->Prop}(h:isAb b len vs l)(hb:b<1000)(hk:k<256)(hm:m<18446744073709551616)(hK:isAb (b+1) (addN l k m).length (cellsA (addN l k m)) (addN l k m)->K (addN l k m).length (cellsA (addN l k m))):MR.n1 len vs (k:Int) (m:Int) K:=
 ⟨l,k,m,rfl,rfl,hk,hm,h.a hb,hK (h.step _ hk)⟩
theorem t0_mk(k:Nat){s:ByteArray}{A:Prop}{B:List Value->Prop}(hk:k<256)(hA:s.data.toList=[]->A)(hB:s.data.toList≠[]->B (cellsA [⟨k,s⟩])):MR.t0 (k:Int) s A B:=⟨k,rfl,hk,hA,hB⟩
theorem t1_mk(k:Nat){s:ByteArray}{b len:Nat}{vs:List Value}{l:List At}{K:Nat->List Value->Prop}(h:isAb b len vs l)(hb:b<1000)(hk:k<256)(hK:isAb (b+1) (addT l k s).length (cellsA (addT l k s)) (addT l k s)->K (addT l k s).length (cellsA (addT l k s))):MR.t1 len vs (k:Int) s K:=
 ⟨l,k,rfl,hk,h.a hb,hK (h.step _ hk)⟩
theorem bt_mk{b len:Nat}{vs:List Value}{l:List At}{K:ByteArray->Prop}(h:isAb b len vs l)(hb:b<1000)(hK:K (bytesOf (encS l))):MR.bt len vs K:=⟨l,h.a hb,h.t,hK⟩
theorem kn8081:KnOk Tryz.prog 100 (howOf S0 Sp0 [(154,sNumW MR),(157,sBytes MR)] [] [] []):=kn_ok (fun x hx=>by
 simp only[List.mem_cons,List.not_mem_nil,or_false]at hx
 rcases hx with rfl|rfl
 ·exact numOk
 ·exact bytesOk) (fun x hx=>by cases hx)
def MF{α:Type}(arg:α->Value)(wf:α->Prop)(one:α->ByteArray):PSt:=fun a K=>∃x:α,a=arg x/\wf x/\K (one x)
theorem pu_one{α:Type}{arg:α->Value}{wf:α->Prop}{one:α->ByteArray}{f:FuncId}(h:∀x,wf x->∀B H,CallH Tryz.prog 100 B f [arg x] H (.returned (.string (one x))) H):PuOk Tryz.prog 100 f (sF (MF arg wf one)):=by
 intro args K hs
 unfold sF at hs
 split at hs<;>try exact hs.elim
 obtain⟨x,rfl,hw,hK⟩:=hs
 exact⟨_,h x hw,hK⟩
theorem putArmC(x:Arm)(hw:wfArm x):Is (gPutArm (real Tryz.prog) MR (x.v:Int) x.nx (PQ (.string (oneArm x)))):=by
 refine⟨?_⟩
 rw[gPutArm_eq]
 exact n_cv t22 (⟨rfl,n0_mk 1 (u64N x.v) (by decide) (u64N_lt _) (fun h0=>n_cv t3 (⟨rfl,n0_mk 2 (u64N x.nx) (by decide) (u64N_lt _) (fun h1=>⟨rfl,(PQ.of (by unfold oneArm attsArm;rw[addN_e h0,addN_e h1]<;>rfl) rfl)⟩) (fun h1=>(fun hI=>⟨rfl,bt_mk hI (by decide) ((PQ.of (by unfold oneArm attsArm;rw[addN_e h0,addN_f h1]<;>rfl) rfl))⟩) (isAb_one 2 (bytesOf (numB (u64N x.nx))) (by decide)))⟩)) (fun h0=>(fun hI=>n_cv t3 (⟨rfl,n1_mk 2 (u64N x.nx) hI (by decide) (by decide) (u64N_lt _) (fun hI=>⟨rfl,bt_mk hI (by decide) ((PQ.of (by unfold oneArm attsArm;rw[addN_f h0]<;>rfl) rfl))⟩)⟩)) (isAb_one 1 (bytesOf (numB (u64N x.v))) (by decide)))⟩)
theorem pu92:PuOk Tryz.prog 100 156 (sF (MF (fun x:Arm => .agg ⟨cArm x⟩) wfArm oneArm)):=pu_one fun x hw B H=>
 pu_mk okp kn8081 lp_none rfl rfl (putArmC x hw) B H
theorem putInstrC(x:Instr)(hw:wfInstr x):Is (gPutInstr (real Tryz.prog) MR (x.op:Int) x.to (x.ak:Int) (x.an:Int) (x.bk:Int) (x.bn:Int) x.n (PQ (.string (oneInstr x)))):=by
 refine⟨?_⟩
 rw[gPutInstr_eq]
 exact n_cv t5 (⟨rfl,n0_mk 1 (u64N x.op) (by decide) (u64N_lt _) (fun h0=>n_cv t3 (⟨rfl,n0_mk 2 (u64N x.to) (by decide) (u64N_lt _) (fun h1=>n_cv t5 (⟨rfl,n0_mk 3 (u64N x.ak) (by decide) (u64N_lt _) (fun h2=>⟨rfl,n0_mk 4 x.an (by decide) hw.1 (fun h3=>n_cv t5 (⟨rfl,n0_mk 5 (u64N x.bk) (by decide) (u64N_lt _) (fun h4=>⟨rfl,n0_mk 6 x.bn (by decide) hw.2 (fun h5=>n_cv t3 (⟨rfl,n0_mk 7 (u64N x.n) (by decide) (u64N_lt _) (fun h6=>⟨rfl,(PQ.of (by unfold oneInstr attsInstr;rw[addN_e h0,addN_e h1,addN_e h2,addN_e h3,addN_e h4,addN_e h5,addN_e h6]<;>rfl) rfl)⟩) (fun h6=>(fun hI=>⟨rfl,bt_mk hI (by decide) ((PQ.of (by unfold oneInstr attsInstr;rw[addN_e h0,addN_e h1,addN_e h2,addN_e h3,addN_e h4,addN_e h5,addN_f h6]<;>rfl) rfl))⟩) (isAb_one 7 (bytesOf (numB (u64N x.n))) (by decide)))⟩)) (fun h5=>(fun hI=>n_cv t3 (⟨rfl,n1_mk 7 (u64N x.n) hI (by decide) (by decide) (u64N_lt _) (fun hI=>⟨rfl,bt_mk hI (by decide) ((PQ.of (by unfold oneInstr attsInstr;rw[addN_e h0,addN_e h1,addN_e h2,addN_e h3,addN_e h4,addN_f h5]<;>rfl) rfl))⟩)⟩)) (isAb_one 6 (bytesOf (numB x.bn)) (by decide)))⟩) (fun h4=>(fun hI=>⟨rfl,n1_mk 6 x.bn hI (by decide) (by decide) hw.2 (fun hI=>n_cv t3 (⟨rfl,n1_mk 7 (u64N x.n) hI (by decide) (by decide) (u64N_lt _) (fun hI=>⟨rfl,bt_mk hI (by decide) ((PQ.of (by unfold oneInstr attsInstr;rw[addN_e h0,addN_e h1,addN_e h2,addN_e h3,addN_f h4]<;>rfl) rfl))⟩)⟩))⟩) (isAb_one 5 (bytesOf (numB (u64N x.bk))) (by decide)))⟩)) (fun h3=>(fun hI=>n_cv t5 (⟨rfl,n1_mk 5 (u64N x.bk) hI (by decide) (by decide) (u64N_lt _) (fun hI=>⟨rfl,n1_mk 6 x.bn hI (by decide) (by decide) hw.2 (fun hI=>n_cv t3 (⟨rfl,n1_mk 7 (u64N x.n) hI (by decide) (by decide) (u64N_lt _) (fun hI=>⟨rfl,bt_mk hI (by decide) ((PQ.of (by unfold oneInstr attsInstr;rw[addN_e h0,addN_e h1,addN_e h2,addN_f h3]<;>rfl) rfl))⟩)⟩))⟩)⟩)) (isAb_one 4 (bytesOf (numB x.an)) (by decide)))⟩) (fun h2=>(fun hI=>⟨rfl,n1_mk 4 x.an hI (by decide) (by decide) hw.1 (fun hI=>n_cv t5 (⟨rfl,n1_mk 5 (u64N x.bk) hI (by decide) (by decide) (u64N_lt _) (fun hI=>⟨rfl,n1_mk 6 x.bn hI (by decide) (by decide) hw.2 (fun hI=>n_cv t3 (⟨rfl,n1_mk 7 (u64N x.n) hI (by decide) (by decide) (u64N_lt _) (fun hI=>⟨rfl,bt_mk hI (by decide) ((PQ.of (by unfold oneInstr attsInstr;rw[addN_e h0,addN_e h1,addN_f h2]<;>rfl) rfl))⟩)⟩))⟩)⟩))⟩) (isAb_one 3 (bytesOf (numB (u64N x.ak))) (by decide)))⟩)) (fun h1=>(fun hI=>n_cv t5 (⟨rfl,n1_mk 3 (u64N x.ak) hI (by decide) (by decide) (u64N_lt _) (fun hI=>⟨rfl,n1_mk 4 x.an hI (by decide) (by decide) hw.1 (fun hI=>n_cv t5 (⟨rfl,n1_mk 5 (u64N x.bk) hI (by decide) (by decide) (u64N_lt _) (fun hI=>⟨rfl,n1_mk 6 x.bn hI (by decide) (by decide) hw.2 (fun hI=>n_cv t3 (⟨rfl,n1_mk 7 (u64N x.n) hI (by decide) (by decide) (u64N_lt _) (fun hI=>⟨rfl,bt_mk hI (by decide) ((PQ.of (by unfold oneInstr attsInstr;rw[addN_e h0,addN_f h1]<;>rfl) rfl))⟩)⟩))⟩)⟩))⟩)⟩)) (isAb_one 2 (bytesOf (numB (u64N x.to))) (by decide)))⟩)) (fun h0=>(fun hI=>n_cv t3 (⟨rfl,n1_mk 2 (u64N x.to) hI (by decide) (by decide) (u64N_lt _) (fun hI=>n_cv t5 (⟨rfl,n1_mk 3 (u64N x.ak) hI (by decide) (by decide) (u64N_lt _) (fun hI=>⟨rfl,n1_mk 4 x.an hI (by decide) (by decide) hw.1 (fun hI=>n_cv t5 (⟨rfl,n1_mk 5 (u64N x.bk) hI (by decide) (by decide) (u64N_lt _) (fun hI=>⟨rfl,n1_mk 6 x.bn hI (by decide) (by decide) hw.2 (fun hI=>n_cv t3 (⟨rfl,n1_mk 7 (u64N x.n) hI (by decide) (by decide) (u64N_lt _) (fun hI=>⟨rfl,bt_mk hI (by decide) ((PQ.of (by unfold oneInstr attsInstr;rw[addN_f h0]<;>rfl) rfl))⟩)⟩))⟩)⟩))⟩)⟩))⟩)) (isAb_one 1 (bytesOf (numB (u64N x.op))) (by decide)))⟩)
theorem pu83:PuOk Tryz.prog 100 190 (sF (MF (fun x:Instr => .agg ⟨cInstr x⟩) wfInstr oneInstr)):=pu_one fun x hw B H=>
 pu_mk okp kn8081 lp_none rfl rfl (putInstrC x hw) B H
theorem putBucketC(x:Bucket)(hw:wfBucket x):Is (gPutBucket (real Tryz.prog) MR (x.w:Int) x.b (PQ (.string (oneBucket x)))):=by
 refine⟨?_⟩
 rw[gPutBucket_eq]
 exact⟨rfl,n0_mk 1 x.w (by decide) hw (fun h0=>n_cv t3 (⟨rfl,n0_mk 2 (u64N x.b) (by decide) (u64N_lt _) (fun h1=>⟨rfl,(PQ.of (by unfold oneBucket attsBucket;rw[addN_e h0,addN_e h1]<;>rfl) rfl)⟩) (fun h1=>(fun hI=>⟨rfl,bt_mk hI (by decide) ((PQ.of (by unfold oneBucket attsBucket;rw[addN_e h0,addN_f h1]<;>rfl) rfl))⟩) (isAb_one 2 (bytesOf (numB (u64N x.b))) (by decide)))⟩)) (fun h0=>(fun hI=>n_cv t3 (⟨rfl,n1_mk 2 (u64N x.b) hI (by decide) (by decide) (u64N_lt _) (fun hI=>⟨rfl,bt_mk hI (by decide) ((PQ.of (by unfold oneBucket attsBucket;rw[addN_f h0]<;>rfl) rfl))⟩)⟩)) (isAb_one 1 (bytesOf (numB x.w)) (by decide)))⟩
theorem pu99:PuOk Tryz.prog 100 198 (sF (MF (fun x:Bucket => .agg ⟨cBucket x⟩) wfBucket oneBucket)):=pu_one fun x hw B H=>
 pu_mk okp kn8081 lp_none rfl rfl (putBucketC x hw) B H
theorem putIntC(n:Int):Is (gPutInt (real Tryz.prog) MR n (PQ (.string (oneInt n)))):=by
 refine⟨?_⟩
 rw[gPutInt_eq]
 exact n_cv t3 ⟨_,rfl,u64N_lt _,PQ.of rfl rfl⟩
theorem pu94:PuOk Tryz.prog 100 172 (sF (MF (fun n:Int => .int .i64 n) wfInt oneInt)):=pu_one fun x hw B H=>pu_mk okp knN lp_none rfl rfl (putIntC x) B H
theorem pu95N:PuOk Tryz.prog 100 140 (sF (MF (fun n:Nat => .int .u64 (n:Int)) wfNat oneNat)):=pu_one fun x hw B H=>pu_mk okp kn_none lp_none rfl rfl (numC x hw) B H
end
end Go.Proofs.YtblbaohcelldpaaGreatDoor.Ob
