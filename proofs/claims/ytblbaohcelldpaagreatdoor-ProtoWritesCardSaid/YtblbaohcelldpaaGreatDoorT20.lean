/- . -/
import Derived.Test.YtblbaohcelldpaaGreatDoorQO
set_option linter.all false
set_option maxRecDepth 100000
namespace Go.Proofs.Ob
open Go Go.Abs Go.Tlv
noncomputable section
structure isR(b:Nat)(l:List At):Prop where
 b:l.length<=b
 t:∀a∈l,a.t<256
theorem AUm:isR 0 []:=⟨Nat.le_refl _,fun a ha=>by cases ha⟩
theorem isR.step{b:Nat}{l:List At}(h:isR b l){k:Nat}(s:ByteArray)(hk:k<256):isR (b+1) (IY l k s):=by
 refine⟨?_,?_⟩
 ·have:=h.b
  unfold IY;split
  ·omega
  ·simp;omega
 ·unfold IY;split
  ·exact h.t
  ·intro a ha
   rcases List.mem_append.1 ha with ha|ha
   ·exact h.t a ha
   ·simp only[List.mem_singleton]at ha;subst ha;exact hk
theorem BK(k m:Nat){b:Nat}{l:List At}{K:Lv->Prop}(h:isR b l)(hb:b<1000)(hk:k<256)(hm:m<18446744073709551616)(hK:isR (b+1) (addN l k m)->K (QD (addN l k m))):MRr.nu (QD l) (k:Int) (m:Int) K:=
 ⟨l,k,m,rfl,rfl,rfl,hm,Nat.lt_of_le_of_lt h.b hb,hK (h.step _ hk)⟩
theorem AUu(k:Nat){s:ByteArray}{b:Nat}{l:List At}{K:Lv->Prop}(h:isR b l)(hb:b<1000)(hk:k<256)(hK:isR (b+1) (IY l k s)->K (QD (IY l k s))):MRr.tx (QD l) (k:Int) s K:=
 ⟨l,k,rfl,rfl,Nat.lt_of_le_of_lt h.b hb,hK (h.step _ hk)⟩
theorem ATI{b:Nat}{l:List At}{K:ByteArray->Int->Prop}(h:isR b l)(hK:K (bytesOf (encS l)) (JB 0 l:Int)):MRr.en (QD l) K:=⟨l,rfl,h.t,hK⟩
theorem AXt:OM Tryz.prog 100 (WRb MRr):=EY (pu2 AWp AWr)
theorem AWD(x:Arm)(hw:R8 x):Is (AVc (real Tryz.prog) MRr (x.v:Int) x.nx (PQ (.string (CU x)))):=by
 refine⟨?_⟩
 rw[AVd]
 exact CQ t22 (BK 1 (A8 x.v) AUm (by decide) (by decide) (AO _) (fun g0=>CQ t3 (BK 2 (A8 x.nx) g0 (by decide) (by decide) (AO _) (fun g1=>ATI g1 (PQ.of rfl rfl)))))
theorem AXV:FY Tryz.prog 100 220 (sF (MF (fun x:Arm => .agg ⟨D7 x⟩) R8 CU)):=kR fun x hw B H=>
 GL okp AXt AZ rfl rfl (AWD x hw) B H
theorem AVA(x:Instr)(hw:KU x):Is (AUg (real Tryz.prog) MRr (x.op:Int) x.to (x.ak:Int) (x.an:Int) (x.bk:Int) (x.bn:Int) x.n (PQ (.string (BF x)))):=by
 refine⟨?_⟩
 rw[AUH]
 exact CQ t5 (BK 1 (A8 x.op) AUm (by decide) (by decide) (AO _) (fun g0=>CQ t3 (BK 2 (A8 x.to) g0 (by decide) (by decide) (AO _) (fun g1=>CQ t5 (BK 3 (A8 x.ak) g1 (by decide) (by decide) (AO _) (fun g2=>BK 4 x.an g2 (by decide) (by decide) hw.1 (fun g3=>CQ t5 (BK 5 (A8 x.bk) g3 (by decide) (by decide) (AO _) (fun g4=>BK 6 x.bn g4 (by decide) (by decide) hw.2 (fun g5=>CQ t3 (BK 7 (A8 x.n) g5 (by decide) (by decide) (AO _) (fun g6=>ATI g6 (PQ.of rfl rfl)))))))))))))
theorem AXW:FY Tryz.prog 100 224 (sF (MF (fun x:Instr => .agg ⟨BN x⟩) KU BF)):=kR fun x hw B H=>
 GL okp AXt AZ rfl rfl (AVA x hw) B H
theorem AVj(x:DN)(hw:I7 x):Is (ATR (real Tryz.prog) MRr (x.w:Int) x.b (PQ (.string (BC x)))):=by
 refine⟨?_⟩
 rw[AUa]
 exact BK 1 x.w AUm (by decide) (by decide) hw (fun g0=>CQ t3 (BK 2 (A8 x.b) g0 (by decide) (by decide) (AO _) (fun g1=>ATI g1 (PQ.of rfl rfl))))
theorem AXX:FY Tryz.prog 100 225 (sF (MF (fun x:DN => .agg ⟨BB x⟩) I7 BC)):=kR fun x hw B H=>
 GL okp AXt AZ rfl rfl (AVj x hw) B H
def ISA{α:Type}(one:α->ByteArray)(ob:AA)(rs:Lv)(l:List α)(i:{i:Nat // i<=l.length}):Lv×Lo:=
 ([pX,dsl rs,mkS 101 (tk one l i.1).length,.int .i64 (i.1:Int)],[some ob,mo (strV (tk one l i.1)) 9 1])
def RSA{α:Type}(one:α->ByteArray)(ob:AA)(rs:Lv)(l:List α)(e:Exit)(v:Lv)(o:Lo):Prop:=
 e = .exit 0/\v=[pX,dsl rs,mkS 101 (l.map one).length]/\o=[some ob,mo (strV (l.map one)) 9 1]
def LSA{α:Type}(one:α->ByteArray)(f key nt:Nat)(ob:AA)(l:List α):LLt:=fun code n AB obs A=>
 code=AJ Tryz.prog f key/\n=nt/\(∃rs,AB=[pX,dsl rs,.slice none 0 0,.int .i64 (0:Int)])/\obs=[some ob]/\A (l.map one).length (mo (strV (l.map one)) 9 1)
theorem AUn{ob:AA}(hb:EC (100+1) (some ob)=true){AC:Lo}(h0:AC[0]?=some (some ob)):
  ∀(i:Nat) o,([some ob]:Lo)[i]?=some (some o)->AC[i]?=some (some o)/\EC (100+1) (some o)=true:=by
 intro i o h
 cases i with
 |zero=>simp only[List.getElem?_cons_zero,Option.some.injEq]at h;subst h;exact⟨h0,hb⟩
 |succ i=>simp at h
theorem AWe{sy:Sy}{lp:LpL}{MB:MBt}{f:Nat}(h:FY Tryz.prog 100 f (sB MB)):OM Tryz.prog 100 (AP sy Sp0 [(122,ND MSr)] lp (ATX MRr MB f) []):=M3 (AIZ AXa) (fun x hx=>by
 simp only[ATX,List.mem_cons,List.not_mem_nil,or_false]at hx
 rcases hx with rfl|rfl|rfl|rfl
 ·exact h
 ·exact AWp
 ·exact AWq
 ·exact AWr)
theorem AWf{sy:Sy}{lp:LpL}{MB:MBt}{f:Nat}(h:FY Tryz.prog 100 f (sB MB)):OM Tryz.prog 100 (AP sy Sp0 [] lp (ATX MRr MB f) []):=EY (fun x hx=>by
 simp only[ATX,List.mem_cons,List.not_mem_nil,or_false]at hx
 rcases hx with rfl|rfl|rfl|rfl
 ·exact h
 ·exact AWp
 ·exact AWq
 ·exact AWr)
theorem AWB(x:EP)(hw:lL x)(hl:x.arms.length<100000)(rs:Lv)(i:{i:Nat // i<=x.arms.length}):
  Is (wpe Tryz.prog (real Tryz.prog) (AP sy1 Sp0 [] [] [(220,sF (MF (fun x:Arm => .agg ⟨D7 x⟩) R8 CU))] []) 300 (.code false (AJ Tryz.prog 123 14) (CX 100 71 [1,4,5,6] [] (ISA CU (MN x) rs x.arms i))) (A7 100 [1,4,5,6] [1,4,5] 71 []
   (fun AB AC=>∃a':{i:Nat // i<=x.arms.length},x.arms.length-a'.1<x.arms.length-i.1/\Wk 100 (100+1) AB AC (ISA CU (MN x) rs x.arms a').1 (ISA CU (MN x) rs x.arms a').2/\∀e v o,RSA CU (MN x) rs x.arms e v o->RSA CU (MN x) rs x.arms e v o)
   (fun e AB AC=>∃v o,Wk 100 (100+1) AB AC v o/\RSA CU (MN x) rs x.arms e v o))):=by
 refine⟨?_⟩
 obtain⟨i,hi⟩:=i
 show AUi (real Tryz.prog) MRr (MF (fun x:Arm => .agg ⟨D7 x⟩) R8 CU) x.id x.size x.lo x.lw x.lu x.so x.sw (rowsOf D7 x.arms) x.ot rs (tk CU x.arms i).length (mo (strV (tk CU x.arms i)) 9 1) (i:Int) _ _
 rw[AUJ]
 have hT:J3=140737488355328:=rfl
 have htk:=Q8 CU hi
 have hwl:∀y∈x.arms,R8 y:=(fun _ _=>trivial)
 refine BI x.arms.length (AQ _ _) (EL (fun hlt=>?_) (fun hge=>?_))
 ·have hx:x.arms[i]?=some x.arms[i]:=by simp[hlt]
  generalize x.arms[i]=y at hx
  have hwy:=hwl y (List.mem_of_getElem? hx)
  have hx2:=OB (one:=CU) hx
  have hlen:=congrArg List.length hx2
  rw[List.length_append,D5,D5]at hlen
  refine DK i rfl (CL hx) rfl (CG rfl (CG rfl (⟨y,rfl,hwy,D6 (by rw[D5,Nat.mul_one]) (by omega) (FV (by omega) rfl rfl (by omega) (by omega) (BZ (by omega) ⟨rfl,⟨i+1,hlt⟩,?_,?_,fun _ _ _ h=>h⟩))⟩)))
  ·show x.arms.length-(i+1)<x.arms.length-i
   omega
  ·show Wk 100 (100+1) _ _ ([pX,dsl rs]++mkS (100+1) (tk CU x.arms (i+1)).length::_) ([some (MN x)]++[mo (strV (tk CU x.arms (i+1))) 9 1])
   rw[←hx2,J4 (by simp),←hlen]
   exact IU (k0:=1) (j:=3) (va:=[pX,dsl rs]) (by omega) rfl (by rw[hx2];exact KX 0 _) rfl rfl (by simp) rfl (AUn rfl rfl)
 ·have e:i=x.arms.length:=by omega
  subst e
  refine⟨rfl,[pX,dsl rs,mkS 101 (x.arms.map CU).length],[some (MN x),mo (strV (x.arms.map CU)) 9 1],?_,rfl,rfl,rfl⟩
  rw[Q7];exact Wk.refl _ _ _ _
theorem AWP(x:EP)(hw:lL x)(hl:x.arms.length<100000):BH Tryz.prog 100 [1,4,5,6] (ATH (LSA CU 123 14 71 (MN x) x.arms)):=by
 show BH Tryz.prog 100 [1,4,5,6] (lpS [1,4,5] _)
 refine FQ okp (W:=AP sy1 Sp0 [] [] [(220,sF (MF (fun x:Arm => .agg ⟨D7 x⟩) R8 CU))] []) (EY (pu1 AXV)) AZ ?_
 intro c n AB obs K h
 split at h<;>try exact h.elim
 obtain⟨hc,hn,⟨rs,hv2⟩,ho,hA⟩:=h
 subst hc;subst hn;subst ho
 simp only[List.cons.injEq]at hv2
 obtain⟨rfl,rfl,rfl⟩:=hv2
 refine⟨{i:Nat // i<=x.arms.length},1,300,fun a=>x.arms.length-a.1,ISA CU (MN x) rs x.arms,fun _ e v o=>RSA CU (MN x) rs x.arms e v o,⟨0,Nat.zero_le _⟩,rfl,?_,?_,AWB x hw hl rs⟩
 ·exact IP (va:=[pX,dsl rs])
 ·intro e v o hR
  obtain⟨rfl,rfl,rfl⟩:=hR
  exact hA
theorem AV2(x:EP)(hf:KQ x)(hw:lL x)(hl:x.arms.length<100000):Is (AUR (real Tryz.prog) MRr (MBr OI KQ JX) MSr (LSA CU 123 14 71 (MN x) x.arms) x.id x.size x.lo x.lw x.lu x.so x.sw (rowsOf D7 x.arms) x.ot (PQ (EU (JX x) (GD x)))):=by
 refine⟨?_⟩
 rw[AUZ]
 exact⟨x,rfl,hf,CY (fun hm=>CQ t3 (BK 1 (A8 x.id) AUm (by decide) (by decide) (AO _) (fun g0=>CQ t3 (BK 2 (A8 x.size) g0 (by decide) (by decide) (AO _) (fun g1=>CQ t3 (BK 3 (A8 x.lo) g1 (by decide) (by decide) (AO _) (fun g2=>CQ t3 (BK 4 (A8 x.lw) g2 (by decide) (by decide) (AO _) (fun g3=>CQ t3 (BK 5 (A8 x.lu) g3 (by decide) (by decide) (AO _) (fun g4=>CQ t3 (BK 6 (A8 x.so) g4 (by decide) (by decide) (AO _) (fun g5=>CQ t3 (BK 7 (A8 x.sw) g5 (by decide) (by decide) (AO _) (fun g6=>CQ t3 (BK 8 (A8 x.ot) g6 (by decide) (by decide) (AO _) (fun g7=>⟨rfl,rfl,⟨_,rfl⟩,rfl,rfl,x.arms.map CU,by rw[List.length_map];exact hl,rfl,rfl,AUu 9 g7 (by decide) (by decide) (fun g8=>ATI g8 (PQ.of (by rw[hm];rfl) (AU _ _ _)))⟩))))))))))))))))) (fun hm=>PQ.of (by rw[hm];rfl) (AU _ _ _))⟩
theorem AV3(x:EP)(hf:KQ x)(hw:lL x)(hl:x.arms.length<100000)(B:Base)(H:Heap):BM Tryz.prog 100 B 123 [OI x] H (.returned (EU (JX x) (GD x))) H:=
 GL okp (AWe (zW AUV)) (lp1 (AWP x hw hl)) rfl (AU _ _ _) (AV2 x hf hw hl) B H
theorem AVw(x:E9)(hf:NI x)(hw:cK x):Is (AUd (real Tryz.prog) MRr (MBr K6 NI I5) x.id (x.base:Int) x.node x.off x.wid (PQ (EU (I5 x) (GQ x)))):=by
 refine⟨?_⟩
 rw[AUF]
 exact⟨x,rfl,hf,CY (fun hm=>CQ t3 (BK 1 (A8 x.id) AUm (by decide) (by decide) (AO _) (fun g0=>CQ t5 (BK 2 (A8 x.base) g0 (by decide) (by decide) (AO _) (fun g1=>CQ t3 (BK 3 (A8 x.node) g1 (by decide) (by decide) (AO _) (fun g2=>CQ t3 (BK 4 (A8 x.off) g2 (by decide) (by decide) (AO _) (fun g3=>CQ t3 (BK 5 (A8 x.wid) g3 (by decide) (by decide) (AO _) (fun g4=>ATI g4 (PQ.of (by rw[hm];rfl) (AU _ _ _))))))))))))) (fun hm=>PQ.of (by rw[hm];rfl) (AU _ _ _))⟩
theorem AVx(x:E9)(hf:NI x)(hw:cK x)(B:Base)(H:Heap):BM Tryz.prog 100 B 124 [K6 x] H (.returned (EU (I5 x) (GQ x))) H:=
 GL okp (AWf (zW AUq)) AZ rfl (AU _ _ _) (AVw x hf hw) B H
def RN(x:EB):AA := .cells [.int .i64 x.id,.int .u8 (x.kind:Int),dsl (rowsOf EM x.keys),.int .i64 x.cap,.int .i64 x.miss] 37 5 false true
theorem AVZ(x:EB)(hw:dA x)(hl:x.keys.length<100000)(rs:Lv)(i:{i:Nat // i<=x.keys.length}):
  Is (wpe Tryz.prog (real Tryz.prog) (AP sy1 Sp0 [] [] [(121,AU4 MRr)] []) 300 (.code false (AJ Tryz.prog 125 8) (CX 100 52 [1,4,5,6] [] (ISA CV (RN x) rs x.keys i))) (A7 100 [1,4,5,6] [1,4,5] 52 []
   (fun AB AC=>∃a':{i:Nat // i<=x.keys.length},x.keys.length-a'.1<x.keys.length-i.1/\Wk 100 (100+1) AB AC (ISA CV (RN x) rs x.keys a').1 (ISA CV (RN x) rs x.keys a').2/\∀e v o,RSA CV (RN x) rs x.keys e v o->RSA CV (RN x) rs x.keys e v o)
   (fun e AB AC=>∃v o,Wk 100 (100+1) AB AC v o/\RSA CV (RN x) rs x.keys e v o))):=by
 refine⟨?_⟩
 obtain⟨i,hi⟩:=i
 show ATU (real Tryz.prog) MRr (MF (fun n:Int => .int .i64 n) OL CV) x.id (x.kind:Int) (rowsOf EM x.keys) x.cap x.miss rs (tk CV x.keys i).length (mo (strV (tk CV x.keys i)) 9 1) (i:Int) _ _
 rw[AUk]
 have hT:J3=140737488355328:=rfl
 have htk:=Q8 CV hi
 have hwl:∀y∈x.keys,OL y:=(fun _ _=>trivial)
 refine BI x.keys.length (AQ _ _) (EL (fun hlt=>?_) (fun hge=>?_))
 ·have hx:x.keys[i]?=some x.keys[i]:=by simp[hlt]
  generalize x.keys[i]=y at hx
  have hwy:=hwl y (List.mem_of_getElem? hx)
  have hx2:=OB (one:=CV) hx
  have hlen:=congrArg List.length hx2
  rw[List.length_append,D5,D5]at hlen
  refine DK i rfl (CL hx) rfl (CG rfl (CQ t3 ⟨A8 y,rfl,AO _,D6 (by rw[D5,Nat.mul_one]) (by omega) (FV (by omega) rfl rfl (by omega) (by omega) (BZ (by omega) ⟨rfl,⟨i+1,hlt⟩,?_,?_,fun _ _ _ h=>h⟩))⟩))
  ·show x.keys.length-(i+1)<x.keys.length-i
   omega
  ·show Wk 100 (100+1) _ _ ([pX,dsl rs]++mkS (100+1) (tk CV x.keys (i+1)).length::_) ([some (RN x)]++[mo (strV (tk CV x.keys (i+1))) 9 1])
   rw[←hx2,J4 (by simp),←hlen]
   exact IU (k0:=1) (j:=3) (va:=[pX,dsl rs]) (by omega) rfl (by rw[hx2];exact KX 0 _) rfl rfl (by simp) rfl (AUn rfl rfl)
 ·have e:i=x.keys.length:=by omega
  subst e
  refine⟨rfl,[pX,dsl rs,mkS 101 (x.keys.map CV).length],[some (RN x),mo (strV (x.keys.map CV)) 9 1],?_,rfl,rfl,rfl⟩
  rw[Q7];exact Wk.refl _ _ _ _
theorem AWk(x:EB)(hw:dA x)(hl:x.keys.length<100000):BH Tryz.prog 100 [1,4,5,6] (ATH (LSA CV 125 8 52 (RN x) x.keys)):=by
 show BH Tryz.prog 100 [1,4,5,6] (lpS [1,4,5] _)
 refine FQ okp (W:=AP sy1 Sp0 [] [] [(121,AU4 MRr)] []) (EY (pu1 AVJ)) AZ ?_
 intro c n AB obs K h
 split at h<;>try exact h.elim
 obtain⟨hc,hn,⟨rs,hv2⟩,ho,hA⟩:=h
 subst hc;subst hn;subst ho
 simp only[List.cons.injEq]at hv2
 obtain⟨rfl,rfl,rfl⟩:=hv2
 refine⟨{i:Nat // i<=x.keys.length},1,300,fun a=>x.keys.length-a.1,ISA CV (RN x) rs x.keys,fun _ e v o=>RSA CV (RN x) rs x.keys e v o,⟨0,Nat.zero_le _⟩,rfl,?_,?_,AVZ x hw hl rs⟩
 ·exact IP (va:=[pX,dsl rs])
 ·intro e v o hR
  obtain⟨rfl,rfl,rfl⟩:=hR
  exact hA
theorem AVD(x:EB)(hf:JF x)(hw:dA x)(hl:x.keys.length<100000):Is (AUj (real Tryz.prog) MRr (MBr K9 JF IG) MSr (LSA CV 125 8 52 (RN x) x.keys) x.id (x.kind:Int) (rowsOf EM x.keys) x.cap x.miss (PQ (EU (IG x) (GR x)))):=by
 refine⟨?_⟩
 rw[AUK]
 exact⟨x,rfl,hf,CY (fun hm=>CQ t3 (BK 1 (A8 x.id) AUm (by decide) (by decide) (AO _) (fun g0=>CQ t5 (BK 2 (A8 x.kind) g0 (by decide) (by decide) (AO _) (fun g1=>⟨rfl,rfl,⟨_,rfl⟩,rfl,rfl,x.keys.map CV,by rw[List.length_map];exact hl,rfl,rfl,AUu 3 g1 (by decide) (by decide) (fun g2=>CQ t3 (BK 4 (A8 x.cap) g2 (by decide) (by decide) (AO _) (fun g3=>CQ t3 (BK 5 (A8 x.miss) g3 (by decide) (by decide) (AO _) (fun g4=>ATI g4 (PQ.of (by rw[hm];rfl) (AU _ _ _)))))))⟩))))) (fun hm=>PQ.of (by rw[hm];rfl) (AU _ _ _))⟩
theorem AVE(x:EB)(hf:JF x)(hw:dA x)(hl:x.keys.length<100000)(B:Base)(H:Heap):BM Tryz.prog 100 B 125 [K9 x] H (.returned (EU (IG x) (GR x))) H:=
 GL okp (AWe (zW AUt)) (lp1 (AWk x hw hl)) rfl (AU _ _ _) (AVD x hf hw hl) B H
def RD(x:C9):AA := .cells [.int .i64 x.tab,.string x.key,.string x.oth,.int .i64 x.len,.int .i64 x.prio,.int .i64 x.blk,dsl (rowsOf DJ x.args),.int .i64 x.idle,.int .i64 x.hard,.int .u64 (x.cook:Int),.bool x.tell] 39 11 false true
theorem AVX(x:C9)(hw:cB x)(hl:x.args.length<100000)(rs:Lv)(i:{i:Nat // i<=x.args.length}):
  Is (wpe Tryz.prog (real Tryz.prog) (AP sy1 Sp0 [] [] [(121,AU4 MRr)] []) 300 (.code false (AJ Tryz.prog 126 12) (CX 100 77 [1,4,5,6] [] (ISA BU (RD x) rs x.args i))) (A7 100 [1,4,5,6] [1,4,5] 77 []
   (fun AB AC=>∃a':{i:Nat // i<=x.args.length},x.args.length-a'.1<x.args.length-i.1/\Wk 100 (100+1) AB AC (ISA BU (RD x) rs x.args a').1 (ISA BU (RD x) rs x.args a').2/\∀e v o,RSA BU (RD x) rs x.args e v o->RSA BU (RD x) rs x.args e v o)
   (fun e AB AC=>∃v o,Wk 100 (100+1) AB AC v o/\RSA BU (RD x) rs x.args e v o))):=by
 refine⟨?_⟩
 obtain⟨i,hi⟩:=i
 show ATS (real Tryz.prog) MRr (MF (fun n:Int => .int .i64 n) OL CV) x.tab x.key x.oth x.len x.prio x.blk (rowsOf DJ x.args) x.idle x.hard (x.cook:Int) x.tell rs (tk BU x.args i).length (mo (strV (tk BU x.args i)) 9 1) (i:Int) _ _
 rw[AUc]
 have hT:J3=140737488355328:=rfl
 have htk:=Q8 BU hi
 have hwl:∀y∈x.args,L6 y:=hw.1
 refine BI x.args.length (AQ _ _) (EL (fun hlt=>?_) (fun hge=>?_))
 ·have hx:x.args[i]?=some x.args[i]:=by simp[hlt]
  generalize x.args[i]=y at hx
  have hwy:=hwl y (List.mem_of_getElem? hx)
  have hx2:=OB (one:=BU) hx
  have hlen:=congrArg List.length hx2
  rw[List.length_append,D5,D5]at hlen
  refine DK i rfl (CL hx) rfl (CG rfl (⟨y,rfl,hwy,D6 (by rw[D5,Nat.mul_one]) (by omega) (FV (by omega) rfl rfl (by omega) (by omega) (BZ (by omega) ⟨rfl,⟨i+1,hlt⟩,?_,?_,fun _ _ _ h=>h⟩))⟩))
  ·show x.args.length-(i+1)<x.args.length-i
   omega
  ·show Wk 100 (100+1) _ _ ([pX,dsl rs]++mkS (100+1) (tk BU x.args (i+1)).length::_) ([some (RD x)]++[mo (strV (tk BU x.args (i+1))) 9 1])
   rw[←hx2,J4 (by simp),←hlen]
   exact IU (k0:=1) (j:=3) (va:=[pX,dsl rs]) (by omega) rfl (by rw[hx2];exact KX 0 _) rfl rfl (by simp) rfl (AUn rfl rfl)
 ·have e:i=x.args.length:=by omega
  subst e
  refine⟨rfl,[pX,dsl rs,mkS 101 (x.args.map BU).length],[some (RD x),mo (strV (x.args.map BU)) 9 1],?_,rfl,rfl,rfl⟩
  rw[Q7];exact Wk.refl _ _ _ _
theorem AWi(x:C9)(hw:cB x)(hl:x.args.length<100000):BH Tryz.prog 100 [1,4,5,6] (ATH (LSA BU 126 12 77 (RD x) x.args)):=by
 show BH Tryz.prog 100 [1,4,5,6] (lpS [1,4,5] _)
 refine FQ okp (W:=AP sy1 Sp0 [] [] [(121,AU4 MRr)] []) (EY (pu1 AVJ)) AZ ?_
 intro c n AB obs K h
 split at h<;>try exact h.elim
 obtain⟨hc,hn,⟨rs,hv2⟩,ho,hA⟩:=h
 subst hc;subst hn;subst ho
 simp only[List.cons.injEq]at hv2
 obtain⟨rfl,rfl,rfl⟩:=hv2
 refine⟨{i:Nat // i<=x.args.length},1,300,fun a=>x.args.length-a.1,ISA BU (RD x) rs x.args,fun _ e v o=>RSA BU (RD x) rs x.args e v o,⟨0,Nat.zero_le _⟩,rfl,?_,?_,AVX x hw hl rs⟩
 ·exact IP (va:=[pX,dsl rs])
 ·intro e v o hR
  obtain⟨rfl,rfl,rfl⟩:=hR
  exact hA
theorem AVu(x:C9)(hf:JD x)(hw:cB x)(hl:x.args.length<100000):Is (AUb (real Tryz.prog) MRr (MBr K5 JD IB) MSr (LSA BU 126 12 77 (RD x) x.args) x.tab x.key x.oth x.len x.prio x.blk (rowsOf DJ x.args) x.idle x.hard (x.cook:Int) x.tell (PQ (EU (IB x) (DL x)))):=by
 refine⟨?_⟩
 rw[AUE]
 exact⟨x,rfl,hf,CY (fun hm=>CQ t3 (BK 1 (A8 x.tab) AUm (by decide) (by decide) (AO _) (fun g0=>AUu 2 g0 (by decide) (by decide) (fun g1=>AUu 3 g1 (by decide) (by decide) (fun g2=>CQ t3 (BK 4 (A8 x.len) g2 (by decide) (by decide) (AO _) (fun g3=>CQ t3 (BK 5 (A8 x.prio) g3 (by decide) (by decide) (AO _) (fun g4=>CQ t3 (BK 6 (A8 x.blk) g4 (by decide) (by decide) (AO _) (fun g5=>⟨rfl,rfl,⟨_,rfl⟩,rfl,rfl,x.args.map BU,by rw[List.length_map];exact hl,rfl,rfl,AUu 7 g5 (by decide) (by decide) (fun g6=>CQ t2 (BK 8 (A8 x.idle) g6 (by decide) (by decide) (AO _) (fun g7=>CQ t2 (BK 9 (A8 x.hard) g7 (by decide) (by decide) (AO _) (fun g8=>BK 10 x.cook g8 (by decide) (by decide) hw.2 (fun g9=>CY (fun hb=>BK 11 1 g9 (by decide) (by decide) (by decide) (fun g10=>ATI g10 (PQ.of (by rw[hm];unfold EU DL;rw[PP hb]) (AU _ _ _)))) (fun hb=>ATI g9 (PQ.of (by rw[hm];unfold EU DL;rw[QK hb]) (AU _ _ _)))))))))⟩))))))))))) (fun hm=>PQ.of (by rw[hm];rfl) (AU _ _ _))⟩
theorem AVv(x:C9)(hf:JD x)(hw:cB x)(hl:x.args.length<100000)(B:Base)(H:Heap):BM Tryz.prog 100 B 126 [K5 x] H (.returned (EU (IB x) (DL x))) H:=
 GL okp (AWe (zW AUp)) (lp1 (AWi x hw hl)) rfl (AU _ _ _) (AVu x hf hw hl) B H
theorem AVW(x:ES)(hw:bZ x)(hl:x.code.length<100000)(rs:Lv)(i:{i:Nat // i<=x.code.length}):
  Is (wpe Tryz.prog (real Tryz.prog) (AP sy1 Sp0 [] [] [(224,sF (MF (fun x:Instr => .agg ⟨BN x⟩) KU BF))] []) 300 (.code false (AJ Tryz.prog 127 7) (CX 100 36 [1,4,5,6] [] (ISA BF (LD x) rs x.code i))) (A7 100 [1,4,5,6] [1,4,5] 36 []
   (fun AB AC=>∃a':{i:Nat // i<=x.code.length},x.code.length-a'.1<x.code.length-i.1/\Wk 100 (100+1) AB AC (ISA BF (LD x) rs x.code a').1 (ISA BF (LD x) rs x.code a').2/\∀e v o,RSA BF (LD x) rs x.code e v o->RSA BF (LD x) rs x.code e v o)
   (fun e AB AC=>∃v o,Wk 100 (100+1) AB AC v o/\RSA BF (LD x) rs x.code e v o))):=by
 refine⟨?_⟩
 obtain⟨i,hi⟩:=i
 show ATQ (real Tryz.prog) MRr (MF (fun x:Instr => .agg ⟨BN x⟩) KU BF) x.id (rowsOf BN x.code) rs (tk BF x.code i).length (mo (strV (tk BF x.code i)) 9 1) (i:Int) _ _
 rw[AT9]
 have hT:J3=140737488355328:=rfl
 have htk:=Q8 BF hi
 have hwl:∀y∈x.code,KU y:=hw
 refine BI x.code.length (AQ _ _) (EL (fun hlt=>?_) (fun hge=>?_))
 ·have hx:x.code[i]?=some x.code[i]:=by simp[hlt]
  generalize x.code[i]=y at hx
  have hwy:=hwl y (List.mem_of_getElem? hx)
  have hx2:=OB (one:=BF) hx
  have hlen:=congrArg List.length hx2
  rw[List.length_append,D5,D5]at hlen
  refine DK i rfl (CL hx) rfl (CG rfl (CG rfl (CG rfl (CG rfl (CG rfl (CG rfl (CG rfl (⟨y,rfl,hwy,D6 (by rw[D5,Nat.mul_one]) (by omega) (FV (by omega) rfl rfl (by omega) (by omega) (BZ (by omega) ⟨rfl,⟨i+1,hlt⟩,?_,?_,fun _ _ _ h=>h⟩))⟩))))))))
  ·show x.code.length-(i+1)<x.code.length-i
   omega
  ·show Wk 100 (100+1) _ _ ([pX,dsl rs]++mkS (100+1) (tk BF x.code (i+1)).length::_) ([some (LD x)]++[mo (strV (tk BF x.code (i+1))) 9 1])
   rw[←hx2,J4 (by simp),←hlen]
   exact IU (k0:=1) (j:=3) (va:=[pX,dsl rs]) (by omega) rfl (by rw[hx2];exact KX 0 _) rfl rfl (by simp) rfl (AUn rfl rfl)
 ·have e:i=x.code.length:=by omega
  subst e
  refine⟨rfl,[pX,dsl rs,mkS 101 (x.code.map BF).length],[some (LD x),mo (strV (x.code.map BF)) 9 1],?_,rfl,rfl,rfl⟩
  rw[Q7];exact Wk.refl _ _ _ _
theorem AWh(x:ES)(hw:bZ x)(hl:x.code.length<100000):BH Tryz.prog 100 [1,4,5,6] (ATH (LSA BF 127 7 36 (LD x) x.code)):=by
 show BH Tryz.prog 100 [1,4,5,6] (lpS [1,4,5] _)
 refine FQ okp (W:=AP sy1 Sp0 [] [] [(224,sF (MF (fun x:Instr => .agg ⟨BN x⟩) KU BF))] []) (EY (pu1 AXW)) AZ ?_
 intro c n AB obs K h
 split at h<;>try exact h.elim
 obtain⟨hc,hn,⟨rs,hv2⟩,ho,hA⟩:=h
 subst hc;subst hn;subst ho
 simp only[List.cons.injEq]at hv2
 obtain⟨rfl,rfl,rfl⟩:=hv2
 refine⟨{i:Nat // i<=x.code.length},1,300,fun a=>x.code.length-a.1,ISA BF (LD x) rs x.code,fun _ e v o=>RSA BF (LD x) rs x.code e v o,⟨0,Nat.zero_le _⟩,rfl,?_,?_,AVW x hw hl rs⟩
 ·exact IP (va:=[pX,dsl rs])
 ·intro e v o hR
  obtain⟨rfl,rfl,rfl⟩:=hR
  exact hA
theorem AVs(x:ES)(hf:JC x)(hw:bZ x)(hl:x.code.length<100000):Is (AT8 (real Tryz.prog) MRr (MBr K4 JC H9) MSr (LSA BF 127 7 36 (LD x) x.code) x.id (rowsOf BN x.code) (PQ (EU (H9 x) (I9 x)))):=by
 refine⟨?_⟩
 rw[AUD]
 exact⟨x,rfl,hf,CY (fun hm=>CQ t3 (BK 1 (A8 x.id) AUm (by decide) (by decide) (AO _) (fun g0=>⟨rfl,rfl,⟨_,rfl⟩,rfl,rfl,x.code.map BF,by rw[List.length_map];exact hl,rfl,rfl,AUu 2 g0 (by decide) (by decide) (fun g1=>ATI g1 (PQ.of (by rw[hm];rfl) (AU _ _ _)))⟩))) (fun hm=>PQ.of (by rw[hm];rfl) (AU _ _ _))⟩
theorem AVt(x:ES)(hf:JC x)(hw:bZ x)(hl:x.code.length<100000)(B:Base)(H:Heap):BM Tryz.prog 100 B 127 [K4 x] H (.returned (EU (H9 x) (I9 x))) H:=
 GL okp (AWe (zW AUo)) (lp1 (AWh x hw hl)) rfl (AU _ _ _) (AVs x hf hw hl) B H
theorem AVY(x:EI)(hw:cO x)(hl:x.bks.length<100000)(rs:Lv)(i:{i:Nat // i<=x.bks.length}):
  Is (wpe Tryz.prog (real Tryz.prog) (AP sy1 Sp0 [] [] [(225,sF (MF (fun x:DN => .agg ⟨BB x⟩) I7 BC))] []) 300 (.code false (AJ Tryz.prog 128 9) (CX 100 46 [1,4,5,6] [] (ISA BC (MG x) rs x.bks i))) (A7 100 [1,4,5,6] [1,4,5] 46 []
   (fun AB AC=>∃a':{i:Nat // i<=x.bks.length},x.bks.length-a'.1<x.bks.length-i.1/\Wk 100 (100+1) AB AC (ISA BC (MG x) rs x.bks a').1 (ISA BC (MG x) rs x.bks a').2/\∀e v o,RSA BC (MG x) rs x.bks e v o->RSA BC (MG x) rs x.bks e v o)
   (fun e AB AC=>∃v o,Wk 100 (100+1) AB AC v o/\RSA BC (MG x) rs x.bks e v o))):=by
 refine⟨?_⟩
 obtain⟨i,hi⟩:=i
 show ATT (real Tryz.prog) MRr (MF (fun x:DN => .agg ⟨BB x⟩) I7 BC) x.id (x.kind:Int) x.fld (rowsOf BB x.bks) rs (tk BC x.bks i).length (mo (strV (tk BC x.bks i)) 9 1) (i:Int) _ _
 rw[AUf]
 have hT:J3=140737488355328:=rfl
 have htk:=Q8 BC hi
 have hwl:∀y∈x.bks,I7 y:=hw
 refine BI x.bks.length (AQ _ _) (EL (fun hlt=>?_) (fun hge=>?_))
 ·have hx:x.bks[i]?=some x.bks[i]:=by simp[hlt]
  generalize x.bks[i]=y at hx
  have hwy:=hwl y (List.mem_of_getElem? hx)
  have hx2:=OB (one:=BC) hx
  have hlen:=congrArg List.length hx2
  rw[List.length_append,D5,D5]at hlen
  refine DK i rfl (CL hx) rfl (CG rfl (CG rfl (⟨y,rfl,hwy,D6 (by rw[D5,Nat.mul_one]) (by omega) (FV (by omega) rfl rfl (by omega) (by omega) (BZ (by omega) ⟨rfl,⟨i+1,hlt⟩,?_,?_,fun _ _ _ h=>h⟩))⟩)))
  ·show x.bks.length-(i+1)<x.bks.length-i
   omega
  ·show Wk 100 (100+1) _ _ ([pX,dsl rs]++mkS (100+1) (tk BC x.bks (i+1)).length::_) ([some (MG x)]++[mo (strV (tk BC x.bks (i+1))) 9 1])
   rw[←hx2,J4 (by simp),←hlen]
   exact IU (k0:=1) (j:=3) (va:=[pX,dsl rs]) (by omega) rfl (by rw[hx2];exact KX 0 _) rfl rfl (by simp) rfl (AUn rfl rfl)
 ·have e:i=x.bks.length:=by omega
  subst e
  refine⟨rfl,[pX,dsl rs,mkS 101 (x.bks.map BC).length],[some (MG x),mo (strV (x.bks.map BC)) 9 1],?_,rfl,rfl,rfl⟩
  rw[Q7];exact Wk.refl _ _ _ _
theorem AWj(x:EI)(hw:cO x)(hl:x.bks.length<100000):BH Tryz.prog 100 [1,4,5,6] (ATH (LSA BC 128 9 46 (MG x) x.bks)):=by
 show BH Tryz.prog 100 [1,4,5,6] (lpS [1,4,5] _)
 refine FQ okp (W:=AP sy1 Sp0 [] [] [(225,sF (MF (fun x:DN => .agg ⟨BB x⟩) I7 BC))] []) (EY (pu1 AXX)) AZ ?_
 intro c n AB obs K h
 split at h<;>try exact h.elim
 obtain⟨hc,hn,⟨rs,hv2⟩,ho,hA⟩:=h
 subst hc;subst hn;subst ho
 simp only[List.cons.injEq]at hv2
 obtain⟨rfl,rfl,rfl⟩:=hv2
 refine⟨{i:Nat // i<=x.bks.length},1,300,fun a=>x.bks.length-a.1,ISA BC (MG x) rs x.bks,fun _ e v o=>RSA BC (MG x) rs x.bks e v o,⟨0,Nat.zero_le _⟩,rfl,?_,?_,AVY x hw hl rs⟩
 ·exact IP (va:=[pX,dsl rs])
 ·intro e v o hR
  obtain⟨rfl,rfl,rfl⟩:=hR
  exact hA
theorem AVy(x:EI)(hf:JE x)(hw:cO x)(hl:x.bks.length<100000):Is (AUe (real Tryz.prog) MRr (MBr K7 JE IC) MSr (LSA BC 128 9 46 (MG x) x.bks) x.id (x.kind:Int) x.fld (rowsOf BB x.bks) (PQ (EU (IC x) (G9 x)))):=by
 refine⟨?_⟩
 rw[AUG]
 exact⟨x,rfl,hf,CY (fun hm=>CQ t3 (BK 1 (A8 x.id) AUm (by decide) (by decide) (AO _) (fun g0=>CQ t5 (BK 2 (A8 x.kind) g0 (by decide) (by decide) (AO _) (fun g1=>CQ t3 (BK 3 (A8 x.fld) g1 (by decide) (by decide) (AO _) (fun g2=>⟨rfl,rfl,⟨_,rfl⟩,rfl,rfl,x.bks.map BC,by rw[List.length_map];exact hl,rfl,rfl,AUu 4 g2 (by decide) (by decide) (fun g3=>ATI g3 (PQ.of (by rw[hm];rfl) (AU _ _ _)))⟩))))))) (fun hm=>PQ.of (by rw[hm];rfl) (AU _ _ _))⟩
theorem AVz(x:EI)(hf:JE x)(hw:cO x)(hl:x.bks.length<100000)(B:Base)(H:Heap):BM Tryz.prog 100 B 128 [K7 x] H (.returned (EU (IC x) (G9 x))) H:=
 GL okp (AWe (zW AUr)) (lp1 (AWj x hw hl)) rfl (AU _ _ _) (AVy x hf hw hl) B H
theorem AVB(x:FJ)(hf:NJ x)(hw:cZ x):Is (AUh (real Tryz.prog) MRr (MBr K8 NJ I6) x.id x.rate x.burst (PQ (EU (I6 x) (IK x)))):=by
 refine⟨?_⟩
 rw[AUI]
 exact⟨x,rfl,hf,CY (fun hm=>CQ t3 (BK 1 (A8 x.id) AUm (by decide) (by decide) (AO _) (fun g0=>CQ t2 (BK 2 (A8 x.rate) g0 (by decide) (by decide) (AO _) (fun g1=>CQ t2 (BK 3 (A8 x.burst) g1 (by decide) (by decide) (AO _) (fun g2=>ATI g2 (PQ.of (by rw[hm];rfl) (AU _ _ _))))))))) (fun hm=>PQ.of (by rw[hm];rfl) (AU _ _ _))⟩
theorem AVC(x:FJ)(hf:NJ x)(hw:cZ x)(B:Base)(H:Heap):BM Tryz.prog 100 B 129 [K8 x] H (.returned (EU (I6 x) (IK x))) H:=
 GL okp (AWf (zW AUs)) AZ rfl (AU _ _ _) (AVB x hf hw) B H
theorem AV4(x:IJ)(hf:PL x)(hw:lN x):Is (AUS (real Tryz.prog) MRr (MBr OJ PL J9) x.id x.size (PQ (EU (J9 x) (KF x)))):=by
 refine⟨?_⟩
 rw[AU0]
 exact⟨x,rfl,hf,CY (fun hm=>CQ t3 (BK 1 (A8 x.id) AUm (by decide) (by decide) (AO _) (fun g0=>CQ t3 (BK 2 (A8 x.size) g0 (by decide) (by decide) (AO _) (fun g1=>ATI g1 (PQ.of (by rw[hm];rfl) (AU _ _ _))))))) (fun hm=>PQ.of (by rw[hm];rfl) (AU _ _ _))⟩
theorem AV5(x:IJ)(hf:PL x)(hw:lN x)(B:Base)(H:Heap):BM Tryz.prog 100 B 130 [OJ x] H (.returned (EU (J9 x) (KF x))) H:=
 GL okp (AWf (zW AUW)) AZ rfl (AU _ _ _) (AV4 x hf hw) B H
end
end Go.Proofs.Ob
