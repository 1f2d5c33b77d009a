/- . -/
import Derived.Test.YtblbaohcelldpaaGreatDoorQ2
set_option linter.all false
set_option maxRecDepth 100000
namespace Go.Proofs.Ob
open Go Go.Abs Go.Tlv
noncomputable section
theorem AKb{k m:Nat}(h:aW[k]?=some m):m<262144:=by
 have:∀m∈aW,m<262144:=by decide
 exact this m (List.mem_of_getElem? h)
theorem AKr{m t:Nat}{K:Int->Prop}(hk:K ((m / 2 ^ (min t 32):Nat):Int)):(real Tryz.prog).ari .shr .u32 (m:Int) .u8 (t:Int) K:=by
 refine⟨((m / 2 ^ (min t 32):Nat):Int),?_,hk⟩
 have e:((m:Int)).fdiv (2 ^ (min (t:Int).toNat IntKind.u32.bits))=((m / 2 ^ (min t 32):Nat):Int):=by
  rw[Int.toNat_natCast,Int.fdiv_eq_ediv_of_nonneg _ (Int.pow_nonneg (by omega))]
  show(m:Int) / 2 ^ (min t 32)=_
  rw[Int.natCast_ediv,Int.natCast_pow];rfl
 have h0:(0:Int)<=(t:Int):=by omega
 simp only[H8,e,decide_eq_true h0]
theorem AMG{m:Nat}{K:Int->Prop}(hm:m<4294967296)(hk:K ((m % 2:Nat):Int)):(real Tryz.prog).ari .and .u32 (m:Int) .u32 (1:Int) K:=by
 refine⟨((m % 2:Nat):Int),?_,hk⟩
 have e:IntKind.u32.wrap ((BitVec.ofInt IntKind.u32.bits (m:Int)) &&& (BitVec.ofInt IntKind.u32.bits (1:Int))).toNat=((m % 2:Nat):Int):=by
  rw[BitVec.toNat_and]
  have h1:(BitVec.ofInt IntKind.u32.bits (m:Int)).toNat=m:=by
   rw[BitVec.ofInt_natCast,BitVec.toNat_ofNat];exact Nat.mod_eq_of_lt (by show m<2 ^ 32;omega)
  have h2:(BitVec.ofInt IntKind.u32.bits (1:Int)).toNat=1:=by decide
  rw[h1,h2,Nat.and_one_is_mod]
  simp[IntKind.wrap,IntKind.signed,IntKind.bits];omega
 simp only[H8,e];rfl
theorem ofC(k t:Nat)(hk:k<256)(ht:t<256):Is (gOf (real Tryz.prog) (aW.map fun n:Nat => .int .u32 (n:Int)) (k:Int) (t:Int) (fun v=>v = .bool (hasB k t))):=by
 refine⟨?_⟩
 rw[AMd]
 refine BX t5 t3 (BG (by omega)) (EL (fun h=>?_) (fun h=>?_))
 ·have hl:k<aW.length:=h
  have hx:aW[k]?=some aW[k]:=List.getElem?_eq_getElem hl
  generalize aW[k]=m at hx
  have hm:=AKb hx
  have e:hasB k t=Nat.beq (m / 2 ^ (min t 32) % 2) 1:=by
   unfold hasB
   rw[List.getD_eq_getElem?_getD,hx,decide_eq_true h];rfl
  have hd:m / 2 ^ (min t 32)<4294967296:=Nat.lt_of_le_of_lt (Nat.div_le_self _ _) (by omega)
  refine APr k rfl h (CG (z:=(m:Int)) (by rw[Nat.zero_add,Nat.mul_one,List.getElem?_map,hx];rfl) (AKr (AMG hd (DZ (d:=1) (fun h1=>?_) (fun h1=>?_)))))
  ·rw[e,h1];rfl
  ·rw[e];cases hb:Nat.beq (m / 2 ^ (min t 32) % 2) 1 with
   |false=>rfl
   |true=>exact absurd (Nat.eq_of_beq_eq_true hb) h1
 ·have h:47<=k:=h
  have e:hasB k t=false:=by unfold hasB;rw[decide_eq_false (by omega)];rfl
  rw[e]
def MOr:MOf:=fun a b A B=>∃k t:Nat,a=k/\b=t/\k<256/\t<256/\(hasB k t=true->A)/\(hasB k t=false->B)
theorem qO:DV (aW.map fun n:Nat => .int .u32 (n:Int))=true:=rfl
theorem ofH(k t:Nat)(hk:k<256)(ht:t<256)(B:Base)(H:Heap):BM Tryz.prog 100 B 34 [.int .u8 k,.int .u8 t] H (.returned (.bool (hasB k t))) H:=
 AMQ okp (W:=WOf) DC AZ AQg qO rfl (ofC k t hk ht) B H
theorem AN0:FY Tryz.prog 100 34 (sOf MOr):=by
 intro args K h
 unfold sOf at h
 split at h<;>try exact h.elim
 obtain⟨k,t,rfl,rfl,hk,ht,hA,hB⟩:=h
 refine⟨_,ofH k t hk ht,?_⟩
 cases hb:hasB k t with
 |true=>exact hA hb
 |false=>exact hB hb
def MPr{α:Type}(v:α->Value)(ok:α->Prop)(may:α->Bool)(atts:α->List At):MPx:=fun a A E=>∃x:α,a=v x/\ok x/\(may x=true->A (bytesOf (encS (atts x))))/\(may x=false->E)
theorem fE{α:Type}{v:α->Value}{ok:α->Prop}{may:α->Bool}{atts:α->List At}{f:FuncId}(h:∀x,ok x->∀B H,BM Tryz.prog 100 B f [v x] H (.returned (EU (may x) (atts x))) H):FY Tryz.prog 100 f (sPx (MPr v ok may atts)):=by
 intro args K hs
 unfold sPx at hs
 split at hs<;>try exact hs.elim
 obtain⟨x,rfl,hf,hA,hE⟩:=hs
 refine⟨_,h x hf,?_⟩
 cases hm:may x with
 |true=>exact hA hm
 |false=>exact hE hm
def MAr:MAt:=⟨MNr,MOr,MWr,MPr OI (fun x=>KQ x/\lL x) JX GD,MPr K6 (fun x=>NI x/\cK x) I5 GQ,MPr K9 (fun x=>JF x/\dA x) IG GR,MPr K5 (fun x=>JD x/\cB x) IB DL,MPr K4 (fun x=>JC x/\bZ x) H9 I9,MPr K7 (fun x=>JE x/\cO x) IC G9,MPr K8 (fun x=>NJ x/\cZ x) I6 IK,MPr OJ (fun x=>PL x/\lN x) J9 KF⟩
theorem knA:OM Tryz.prog 100 (AP syO Zp [(147,sWd MAr.w)] [] (puA MAr) [(48,15),(48,17),(21,20)]):=M3 (fun x hx=>by simp only[List.mem_singleton]at hx;subst hx;exact AR8) (fun x hx=>by
 simp only[puA,List.mem_cons,List.not_mem_nil,or_false]at hx
 rcases hx with rfl|rfl|rfl|rfl|rfl|rfl|rfl|rfl|rfl|rfl
 ·exact APQ
 ·exact AN0
 ·exact fE fun x h B H=>AH5 x h.1 h.2 B H
 ·exact fE fun x h B H=>AFs x h.1 h.2 B H
 ·exact fE fun x h B H=>AFz x h.1 h.2 B H
 ·exact fE fun x h B H=>AFq x h.1 h.2 B H
 ·exact fE fun x h B H=>AFo x h.1 h.2 B H
 ·exact fE fun x h B H=>AFu x h.1 h.2 B H
 ·exact fE fun x h B H=>AFx x h.1 h.2 B H
 ·exact fE fun x h B H=>AH7 x h.1 h.2 B H)
def lA(x:A9)(t:Nat):List At:=CR (J5 x) (t-1) 0
structure P5(x:A9)(t:Nat):Prop where
 lo:1<=t
 hi:t<=18
 go:∀j,1<=j->j<t->goM x j=true
def IA(x:A9)(t:Nat):Lv×Lo:=([pA 100,mkS 158 (lA x t).length,pA 157,.int .u8 (t:Int)],some (cM x)::(CW++[mo (BS (lA x t)) 94 2]))
def RA(x:A9)(e:Exit)(v:Lv)(o:Lo):Prop:=
 (allM x=true/\e = .exit 0/\v=[top,top,mkS 158 (JV x).length]/\o=NZ++[mo (BS (JV x)) 94 2])∨
 (allM x=false/\e = .ret/\v=[.slice none 0 0,.bool false,top]/\o=NZ)
abbrev LH(x:A9)(t:Nat)(AB:Lv)(AC:Lo):Prop:=∃a':{t:Nat // P5 x t},18-a'.1<18-t/\Wk 100 (100+58) AB AC (IA x a'.1).1 (IA x a'.1).2/\∀e v o,RA x e v o->RA x e v o
abbrev RG(x:A9)(e:Exit)(AB:Lv)(AC:Lo):Prop:=∃v o,Wk 100 (100+58) AB AC v o/\RA x e v o
theorem ASf(x:A9){rest:Lo}(i:Nat)(o:AA)(h:(some (cM x)::CW)[i]?=some (some o)):(some (cM x)::(CW++rest))[i]?=some (some o)/\EC (100+58) (some o)=true:=by
 refine⟨?_,sH (n0:=100+58) (l:=some (cM x)::CW) rfl i o h⟩
 rw[←List.cons_append,List.getElem?_append_left (List.getElem?_eq_some_iff.1 h).1];exact h
theorem d9(x:A9){AB:Lv}{ob:Option AA}{n0:Nat}:Wk 100 n0 AB (some (cM x)::(CW++[ob])) AB (NZ++[ob]):=by
 have e:NZ=(some (cM x)::CW).map fun _=>none:=rfl
 have:∀l:Lo,F5 (l++[ob]) ((l.map fun _=>none)++[ob]):=by
  intro l
  induction l with
  |nil=>exact .cons (.refl _) .nil
  |cons a l ih=>exact .cons (.none _) ih
 rw[e]
 exact EX (DT.refl _) (this (some (cM x)::CW))
theorem fin{x:A9}{t:Nat}(inv:P5 x t)(ht:t<=17)(ha:x.a0<256){s:ByteArray}(hs:s.data.toList=J5 x t)(hi:isM x t=true):
  VL (real Tryz.prog) MAr x (lA x t).length (mo (BS (lA x t)) 94 2) (t:Int) s (nD/\LH x t [pA 100,mkS 158 (lA x t).length,pA 157,.int .u8 ((t:Int)+1)] (some (cM x)::(CW++[mo (BS (lA x t)) 94 2])))
   (nD/\RG x .ret [.slice none 0 0,.bool false,mkS 158 (lA x t).length] (some (cM x)::(CW++[mo (BS (lA x t)) 94 2])))
   (fun vs' k'=>nD/\LH x t [pA 100,.slice (some ⟨160,0,none⟩) k' k',pA 157,.int .u8 ((t:Int)+1)] (some (cM x)::(CW++[none,some (.cells [.int .u8 (t:Int),.string s] 94 2 false true),some (.cells vs' 94 2 true true)]))):=by
 obtain⟨lo,hi18,hgo⟩:=inv
 have hT:J3=140737488355328:=rfl
 have hlen:(lA x t).length<=17:=Nat.le_trans (Y0 _ _) (by omega)
 have hnext:goM x t=true->P5 x (t+1):=fun h=>⟨by omega,by omega,fun j h1 h2=>by
  rcases Nat.lt_or_ge j t with h3|h3
  ·exact hgo j h1 h3
  ·rw[show j=t by omega];exact h⟩
 have hsn:lA x (t+1)=lA x t++QW t (J5 x t):=by
  unfold lA
  have:=eO (f:=J5 x) (t-1) 0
  rw[show t-1+1=t by omega,Nat.zero_add,show t-1+1=t by omega]at this
  rw[show t+1-1=t by omega];exact this
 have hc:(t:Int)+1=((t+1:Nat):Int):=by omega
 have skip:s.data.toList=[]->nD/\LH x t [pA 100,mkS 158 (lA x t).length,pA 157,.int .u8 ((t:Int)+1)] (some (cM x)::(CW++[mo (BS (lA x t)) 94 2])):=fun h=>by
  have hp:J5 x t=[]:=by rw[←hs];exact h
  have hg:goM x t=true:=by unfold goM;rw[hi,hp];rfl
  refine⟨rfl,⟨t+1,hnext hg⟩,by show 18-(t+1)<18-t;omega,?_,fun _ _ _ h=>h⟩
  have e:lA x (t+1)=lA x t:=by rw[hsn,hp];simp[QW]
  show Wk 100 (100+58) _ _ [pA 100,mkS 158 (lA x (t+1)).length,pA 157,.int .u8 ((t+1:Nat):Int)] (some (cM x)::(CW++[mo (BS (lA x (t+1))) 94 2]))
  rw[e,hc];exact Wk.refl _ _ _ _
 have no:goM x t=false->nD/\RG x .ret [.slice none 0 0,.bool false,mkS 158 (lA x t).length] (some (cM x)::(CW++[mo (BS (lA x t)) 94 2])):=fun h=>by
  refine⟨rfl,[.slice none 0 0,.bool false,top],NZ,?_,.inr ⟨?_,rfl,rfl,rfl⟩⟩
  ·refine(EX (DT.cons (FZ.refl _) (DT.cons (FZ.refl _) (DT.cons (FZ.top _) .nil))) (F5.refl _)).trans ((d9 x).trans (I1 (k0:=58) (pre:=NZ) rfl rfl (fun i o h=>?_)))
   have:NZ[i]?=some none∨NZ[i]?=none:=by
    unfold NZ;rw[List.getElem?_replicate];split
    ·exact .inl rfl
    ·exact .inr rfl
   rcases this with e|e<;>rw[e]at h<;>cases h
  ·cases ha:allM x with
   |false=>rfl
   |true=>rw[U6.1 ha t lo ht]at h;cases h
 have app:s.data.toList≠[]->hasB x.a0 t=true->(real Tryz.prog).base true (lA x t).length (lA x t).length (mo (BS (lA x t)) 94 2) 94 2 fun vs=>(real Tryz.prog).appX (lA x t).length vs 1 [.int .u8 (t:Int),.string s] 2 24
   (fun vs' k'=>nD/\LH x t [pA 100,.slice (some ⟨160,0,none⟩) k' k',pA 157,.int .u8 ((t:Int)+1)] (some (cM x)::(CW++[none,some (.cells [.int .u8 (t:Int),.string s] 94 2 false true),some (.cells vs' 94 2 true true)]))):=fun h1 h2=>by
  have hp:J5 x t≠[]:=by rw[←hs];exact h1
  have hg:goM x t=true:=by unfold goM;rw[hi,h2];simp
  have e:lA x (t+1)=lA x t++[⟨t,s⟩]:=by
   rw[hsn];unfold QW;rw[if_neg hp,←hs,bytes_eta]
  have ec:BS (lA x (t+1))=BS (lA x t)++[.int .u8 (t:Int),.string s]:=by rw[e,V4];rfl
  have el:(lA x (t+1)).length=(lA x t).length+1:=by rw[e];simp
  refine D6 (SF _) (by omega) (FV (by omega) rfl rfl (by omega) (by omega) ⟨rfl,⟨t+1,hnext hg⟩,by show 18-(t+1)<18-t;omega,?_,fun _ _ _ h=>h⟩)
  show Wk 100 (100+58) _ _ ([pA 100]++mkS (100+58) (lA x (t+1)).length::[pA 157,.int .u8 ((t+1:Nat):Int)]) ((some (cM x)::CW)++[mo (BS (lA x (t+1))) 94 2])
  rw[J4 (by rw[ec];simp),ec,el,hc]
  exact IU (k0:=58) (j:=60) (va:=[pA 100]) (by omega) rfl (by rw[←ec];exact BJ _) rfl rfl (by omega) rfl (fun i o h=>ASf x i o h)
 have nogo:s.data.toList≠[]->hasB x.a0 t=false->goM x t=false:=fun h1 h2=>by
  have hp:J5 x t≠[]:=by rw[←hs];exact h1
  unfold goM;rw[hi,h2];simpa using hp
 refine FM (fun h=>⟨x.a0,t,rfl,rfl,ha,by omega,fun h2=>FM (fun _=>app h h2) (fun h3=>absurd h3 h),fun h2=>no (nogo h h2)⟩) (fun h=>FM (fun h3=>absurd h h3) (fun _=>skip h))
theorem aL{x:A9}{t:Nat}(inv:P5 x t)(ht:t<=17)(hi:isM x t=false):nD/\RG x .ret [.slice none 0 0,.bool false,mkS 158 (lA x t).length] (some (cM x)::(CW++[mo (BS (lA x t)) 94 2])):=by
 refine⟨rfl,[.slice none 0 0,.bool false,top],NZ,?_,.inr ⟨?_,rfl,rfl,rfl⟩⟩
 ·refine(EX (DT.cons (FZ.refl _) (DT.cons (FZ.refl _) (DT.cons (FZ.top _) .nil))) (F5.refl _)).trans ((d9 x).trans (I1 (k0:=58) (pre:=NZ) rfl rfl (fun i o h=>?_)))
  have:NZ[i]?=some none∨NZ[i]?=none:=by
   unfold NZ;rw[List.getElem?_replicate];split
   ·exact .inl rfl
   ·exact .inr rfl
  rcases this with e|e<;>rw[e]at h<;>cases h
 ·cases ha:allM x with
  |false=>rfl
  |true=>
   have h2:=U6.1 ha t inv.lo ht
   unfold goM at h2;rw[hi]at h2;cases h2
theorem AMH{m d:Nat}{k:IntKind}{X Y:Prop}(h1:d<=m->X)(h2:m<d->Y):(real Tryz.prog).cmp .geq k (m:Int) k (d:Int) X Y:=N7 (fun h=>h1 (by omega)) (fun h=>h2 (by omega))
def WAr:How:=AP syO Zp [(147,sWd MAr.w)] [] (puA MAr) [(48,15),(48,17),(21,20)]
theorem APX{x:A9}(hx:okP x)(inv:P5 x 1):Is (wpe Tryz.prog (real Tryz.prog) WAr 300 (.code false (AJ Tryz.prog 35 6) (CX 100 48 [1,4,5,6] [] (IA x 1))) (A7 100 [1,4,5,6] [2,3,4] 48 [] (LH x 1) (RG x))):=by
 refine⟨?_⟩
 show HZ (real Tryz.prog) MAr x (lA x 1).length (mo (BS (lA x 1)) 94 2) _ _ 1
 rw[AEs]
 exact zR ⟨_,rfl,AO _,SL (d:=2147483647) (fun h=>fin inv (by omega) hx.a0 (AV _) (decide_eq_true h)) (fun h=>aL inv (by omega) (decide_eq_false (by omega)))⟩
theorem APY{x:A9}(hx:okP x)(inv:P5 x 2):Is (wpe Tryz.prog (real Tryz.prog) WAr 300 (.code false (AJ Tryz.prog 35 6) (CX 100 48 [1,4,5,6] [] (IA x 2))) (A7 100 [1,4,5,6] [2,3,4] 48 [] (LH x 2) (RG x))):=by
 refine⟨?_⟩
 show HZ (real Tryz.prog) MAr x (lA x 2).length (mo (BS (lA x 2)) 94 2) _ _ 2
 rw[AEt]
 exact zR ⟨_,rfl,AO _,SL (d:=2147483647) (fun h=>fin inv (by omega) hx.a0 (AV _) (decide_eq_true h)) (fun h=>aL inv (by omega) (decide_eq_false (by omega)))⟩
theorem APZ{x:A9}(hx:okP x)(inv:P5 x 3):Is (wpe Tryz.prog (real Tryz.prog) WAr 300 (.code false (AJ Tryz.prog 35 6) (CX 100 48 [1,4,5,6] [] (IA x 3))) (A7 100 [1,4,5,6] [2,3,4] 48 [] (LH x 3) (RG x))):=by
 refine⟨?_⟩
 show HZ (real Tryz.prog) MAr x (lA x 3).length (mo (BS (lA x 3)) 94 2) _ _ 3
 rw[AEu]
 exact zR ⟨_,rfl,AO _,SL (d:=2147483647) (fun h=>fin inv (by omega) hx.a0 (AV _) (decide_eq_true h)) (fun h=>aL inv (by omega) (decide_eq_false (by omega)))⟩
theorem AP0{x:A9}(hx:okP x)(inv:P5 x 4):Is (wpe Tryz.prog (real Tryz.prog) WAr 300 (.code false (AJ Tryz.prog 35 6) (CX 100 48 [1,4,5,6] [] (IA x 4))) (A7 100 [1,4,5,6] [2,3,4] 48 [] (LH x 4) (RG x))):=by
 refine⟨?_⟩
 show HZ (real Tryz.prog) MAr x (lA x 4).length (mo (BS (lA x 4)) 94 2) _ _ 4
 rw[AEv]
 exact zR ⟨_,rfl,AO _,SL (d:=2147483647) (fun h=>fin inv (by omega) hx.a0 (AV _) (decide_eq_true h)) (fun h=>aL inv (by omega) (decide_eq_false (by omega)))⟩
theorem AP1{x:A9}(hx:okP x)(inv:P5 x 5):Is (wpe Tryz.prog (real Tryz.prog) WAr 300 (.code false (AJ Tryz.prog 35 6) (CX 100 48 [1,4,5,6] [] (IA x 5))) (A7 100 [1,4,5,6] [2,3,4] 48 [] (LH x 5) (RG x))):=by
 refine⟨?_⟩
 show HZ (real Tryz.prog) MAr x (lA x 5).length (mo (BS (lA x 5)) 94 2) _ _ 5
 rw[AEw]
 exact zR ⟨_,rfl,AO _,SL (d:=2147483647) (fun h=>fin inv (by omega) hx.a0 (AV _) (decide_eq_true h)) (fun h=>aL inv (by omega) (decide_eq_false (by omega)))⟩
theorem AP2{x:A9}(hx:okP x)(inv:P5 x 6):Is (wpe Tryz.prog (real Tryz.prog) WAr 300 (.code false (AJ Tryz.prog 35 6) (CX 100 48 [1,4,5,6] [] (IA x 6))) (A7 100 [1,4,5,6] [2,3,4] 48 [] (LH x 6) (RG x))):=by
 refine⟨?_⟩
 show HZ (real Tryz.prog) MAr x (lA x 6).length (mo (BS (lA x 6)) 94 2) _ _ 6
 rw[AEx]
 exact⟨x.a7,rfl,hx.a7,SL (d:=18446744073709551615) (fun h=>fin inv (by omega) hx.a0 (AV _) rfl) (fun h=>absurd hx.a7 (by omega))⟩
theorem AP3{x:A9}(hx:okP x)(inv:P5 x 7):Is (wpe Tryz.prog (real Tryz.prog) WAr 300 (.code false (AJ Tryz.prog 35 6) (CX 100 48 [1,4,5,6] [] (IA x 7))) (A7 100 [1,4,5,6] [2,3,4] 48 [] (LH x 7) (RG x))):=by
 refine⟨?_⟩
 show HZ (real Tryz.prog) MAr x (lA x 7).length (mo (BS (lA x 7)) 94 2) _ _ 7
 rw[AEy]
 exact⟨x.a8,rfl,hx.a8,SL (d:=18446744073709551615) (fun h=>fin inv (by omega) hx.a0 (AV _) rfl) (fun h=>absurd hx.a8 (by omega))⟩
theorem AP4{x:A9}(hx:okP x)(inv:P5 x 8):Is (wpe Tryz.prog (real Tryz.prog) WAr 300 (.code false (AJ Tryz.prog 35 6) (CX 100 48 [1,4,5,6] [] (IA x 8))) (A7 100 [1,4,5,6] [2,3,4] 48 [] (LH x 8) (RG x))):=by
 refine⟨?_⟩
 show HZ (real Tryz.prog) MAr x (lA x 8).length (mo (BS (lA x 8)) 94 2) _ _ 8
 rw[AEz]
 exact fin inv (by omega) hx.a0 rfl rfl
theorem AP5{x:A9}(hx:okP x)(inv:P5 x 9):Is (wpe Tryz.prog (real Tryz.prog) WAr 300 (.code false (AJ Tryz.prog 35 6) (CX 100 48 [1,4,5,6] [] (IA x 9))) (A7 100 [1,4,5,6] [2,3,4] 48 [] (LH x 9) (RG x))):=by
 refine⟨?_⟩
 show HZ (real Tryz.prog) MAr x (lA x 9).length (mo (BS (lA x 9)) 94 2) _ _ 9
 rw[AEA]
 exact⟨x,rfl,hx,CY (fun h=>fin inv (by omega) hx.a0 (AV _) h) (fun h=>aL inv (by omega) h)⟩
theorem AMX{x:A9}(hx:okP x)(inv:P5 x 10):Is (wpe Tryz.prog (real Tryz.prog) WAr 300 (.code false (AJ Tryz.prog 35 6) (CX 100 48 [1,4,5,6] [] (IA x 10))) (A7 100 [1,4,5,6] [2,3,4] 48 [] (LH x 10) (RG x))):=by
 refine⟨?_⟩
 show HZ (real Tryz.prog) MAr x (lA x 10).length (mo (BS (lA x 10)) 94 2) _ _ 10
 rw[ABe]
 exact⟨x.n,rfl,hx.n,fun h=>⟨rfl,fin inv (by omega) hx.a0 (by rw[AV];exact(if_pos h).symm) h⟩,fun h=>⟨rfl,aL inv (by omega) h⟩⟩
theorem AMY{x:A9}(hx:okP x)(inv:P5 x 11):Is (wpe Tryz.prog (real Tryz.prog) WAr 300 (.code false (AJ Tryz.prog 35 6) (CX 100 48 [1,4,5,6] [] (IA x 11))) (A7 100 [1,4,5,6] [2,3,4] 48 [] (LH x 11) (RG x))):=by
 refine⟨?_⟩
 show HZ (real Tryz.prog) MAr x (lA x 11).length (mo (BS (lA x 11)) 94 2) _ _ 11
 rw[ABf]
 exact⟨x.f,rfl,hx.f,fun h=>⟨rfl,fin inv (by omega) hx.a0 (by rw[AV];exact(if_pos h).symm) h⟩,fun h=>⟨rfl,aL inv (by omega) h⟩⟩
theorem AMZ{x:A9}(hx:okP x)(inv:P5 x 12):Is (wpe Tryz.prog (real Tryz.prog) WAr 300 (.code false (AJ Tryz.prog 35 6) (CX 100 48 [1,4,5,6] [] (IA x 12))) (A7 100 [1,4,5,6] [2,3,4] 48 [] (LH x 12) (RG x))):=by
 refine⟨?_⟩
 show HZ (real Tryz.prog) MAr x (lA x 12).length (mo (BS (lA x 12)) 94 2) _ _ 12
 rw[ABg]
 exact⟨x.t,rfl,hx.t,fun h=>⟨rfl,fin inv (by omega) hx.a0 (by rw[AV];exact(if_pos h).symm) h⟩,fun h=>⟨rfl,aL inv (by omega) h⟩⟩
theorem AM0{x:A9}(hx:okP x)(inv:P5 x 13):Is (wpe Tryz.prog (real Tryz.prog) WAr 300 (.code false (AJ Tryz.prog 35 6) (CX 100 48 [1,4,5,6] [] (IA x 13))) (A7 100 [1,4,5,6] [2,3,4] 48 [] (LH x 13) (RG x))):=by
 refine⟨?_⟩
 show HZ (real Tryz.prog) MAr x (lA x 13).length (mo (BS (lA x 13)) 94 2) _ _ 13
 rw[ABh]
 exact⟨x.e,rfl,hx.e,fun h=>⟨rfl,fin inv (by omega) hx.a0 (by rw[AV];exact(if_pos h).symm) h⟩,fun h=>⟨rfl,aL inv (by omega) h⟩⟩
theorem AM1{x:A9}(hx:okP x)(inv:P5 x 14):Is (wpe Tryz.prog (real Tryz.prog) WAr 300 (.code false (AJ Tryz.prog 35 6) (CX 100 48 [1,4,5,6] [] (IA x 14))) (A7 100 [1,4,5,6] [2,3,4] 48 [] (LH x 14) (RG x))):=by
 refine⟨?_⟩
 show HZ (real Tryz.prog) MAr x (lA x 14).length (mo (BS (lA x 14)) 94 2) _ _ 14
 rw[ABi]
 exact⟨x.b,rfl,hx.b,fun h=>⟨rfl,fin inv (by omega) hx.a0 (by rw[AV];exact(if_pos h).symm) h⟩,fun h=>⟨rfl,aL inv (by omega) h⟩⟩
theorem AM2{x:A9}(hx:okP x)(inv:P5 x 15):Is (wpe Tryz.prog (real Tryz.prog) WAr 300 (.code false (AJ Tryz.prog 35 6) (CX 100 48 [1,4,5,6] [] (IA x 15))) (A7 100 [1,4,5,6] [2,3,4] 48 [] (LH x 15) (RG x))):=by
 refine⟨?_⟩
 show HZ (real Tryz.prog) MAr x (lA x 15).length (mo (BS (lA x 15)) 94 2) _ _ 15
 rw[ABj]
 exact⟨x.g,rfl,hx.g,fun h=>⟨rfl,fin inv (by omega) hx.a0 (by rw[AV];exact(if_pos h).symm) h⟩,fun h=>⟨rfl,aL inv (by omega) h⟩⟩
theorem AM3{x:A9}(hx:okP x)(inv:P5 x 16):Is (wpe Tryz.prog (real Tryz.prog) WAr 300 (.code false (AJ Tryz.prog 35 6) (CX 100 48 [1,4,5,6] [] (IA x 16))) (A7 100 [1,4,5,6] [2,3,4] 48 [] (LH x 16) (RG x))):=by
 refine⟨?_⟩
 show HZ (real Tryz.prog) MAr x (lA x 16).length (mo (BS (lA x 16)) 94 2) _ _ 16
 rw[ABk]
 exact⟨x.m,rfl,hx.m,fun h=>⟨rfl,fin inv (by omega) hx.a0 (by rw[AV];exact(if_pos h).symm) h⟩,fun h=>⟨rfl,aL inv (by omega) h⟩⟩
theorem AM4{x:A9}(hx:okP x)(inv:P5 x 17):Is (wpe Tryz.prog (real Tryz.prog) WAr 300 (.code false (AJ Tryz.prog 35 6) (CX 100 48 [1,4,5,6] [] (IA x 17))) (A7 100 [1,4,5,6] [2,3,4] 48 [] (LH x 17) (RG x))):=by
 refine⟨?_⟩
 show HZ (real Tryz.prog) MAr x (lA x 17).length (mo (BS (lA x 17)) 94 2) _ _ 17
 rw[ABl]
 exact⟨x.r,rfl,hx.r,fun h=>⟨rfl,fin inv (by omega) hx.a0 (by rw[AV];exact(if_pos h).symm) h⟩,fun h=>⟨rfl,aL inv (by omega) h⟩⟩
theorem AM5{x:A9}(hx:okP x)(inv:P5 x 18):Is (wpe Tryz.prog (real Tryz.prog) WAr 300 (.code false (AJ Tryz.prog 35 6) (CX 100 48 [1,4,5,6] [] (IA x 18))) (A7 100 [1,4,5,6] [2,3,4] 48 [] (LH x 18) (RG x))):=by
 refine⟨?_⟩
 show HZ (real Tryz.prog) MAr x (lA x 18).length (mo (BS (lA x 18)) 94 2) _ _ 18
 rw[ABm]
 exact⟨rfl,_,_,d9 x,.inl ⟨U6.2 fun t h1 h2=>inv.go t h1 (by omega),rfl,rfl,rfl⟩⟩
theorem ASv{x:A9}(hx:okP x)(a:{t:Nat // P5 x t}):Is (wpe Tryz.prog (real Tryz.prog) WAr 300 (.code false (AJ Tryz.prog 35 6) (CX 100 48 [1,4,5,6] [] (IA x a.1))) (A7 100 [1,4,5,6] [2,3,4] 48 [] (LH x a.1) (RG x))):=by
 obtain⟨t,inv⟩:=a
 have lo:=inv.lo
 have hi:=inv.hi
 rcases t with _|_|_|_|_|_|_|_|_|_|_|_|_|_|_|_|_|_|_|t
 ·omega
 ·exact APX hx inv
 ·exact APY hx inv
 ·exact APZ hx inv
 ·exact AP0 hx inv
 ·exact AP1 hx inv
 ·exact AP2 hx inv
 ·exact AP3 hx inv
 ·exact AP4 hx inv
 ·exact AP5 hx inv
 ·exact AMX hx inv
 ·exact AMY hx inv
 ·exact AMZ hx inv
 ·exact AM0 hx inv
 ·exact AM1 hx inv
 ·exact AM2 hx inv
 ·exact AM3 hx inv
 ·exact AM4 hx inv
 ·exact AM5 hx inv
 ·omega
def LAr(x:A9):LAx:=fun c n AB obs A R=>c=AJ Tryz.prog 35 6/\n=48/\AB=[pA 100,.slice none 0 0,pA 157,.int .u8 1]/\obs=some (cM x)::CW/\(allM x=true->A (JV x).length (mo (BS (JV x)) 94 2))/\(allM x=false->R)
theorem lpA{x:A9}(hx:okP x):BH Tryz.prog 100 [1,4,5,6] (AQb (LAr x)):=by
 show BH Tryz.prog 100 [1,4,5,6] (lpS [2,3,4] _)
 refine FQ okp (W:=WAr) knA AZ ?_
 rintro c n AB obs K ⟨hc,hn,hv,ho,hA,hR⟩
 subst hc;subst hn;subst hv;subst ho
 refine⟨{t:Nat // P5 x t},58,300,fun a=>18-a.1,fun a=>IA x a.1,fun _ e v o=>RA x e v o,⟨1,Nat.le_refl _,by omega,fun j h1 h2=>by omega⟩,rfl,?_,?_,ASv hx⟩
 ·exact IP (va:=[pA 100])
 ·intro e v o h
  rcases h with⟨h1,rfl,rfl,rfl⟩ | ⟨h1,rfl,rfl,rfl⟩
  ·exact hA h1
  ·exact hR h1
def sK(x:A9):Value:=if QF x=true then .tuple ⟨[dsl ((JV x).map AAs),.bool true]⟩else noV
theorem ARa{x:A9}(hx:okP x):Is (AOH (real Tryz.prog) (LAr x) x (PQ (sK x))):=by
 refine⟨?_⟩
 rw[AJN]
 refine AMH (d:=1) (fun h1=>SL (d:=46) (fun h2=>⟨rfl,rfl,rfl,rfl,fun h=>?_,fun h=>?_⟩) (fun h2=>?_)) (fun h1=>?_)
 ·have hm:QF x=true:=by unfold QF aY;rw[decide_eq_true h1,decide_eq_true h2,h];rfl
  unfold sK;rw[if_pos hm]
  have h1:Wk 100 100 [mkS 158 (JV x).length,.bool true] (NZ++[mo (BS (JV x)) 94 2]) _ _:=JY (G:=100) 0 58 (AY:=(JV x).map AAs) rfl rfl (ACZ _) (BJ _) (by omega) (by simp)
  exact AAM (h1.trans (LB rfl))
 ·have hm:QF x=false:=by unfold QF;rw[h];simp
  unfold sK;rw[if_neg (by rw[hm];simp)]
  exact PQ.pure rfl
 ·have hm:QF x=false:=by unfold QF aY;rw[decide_eq_false (show ¬x.a0<=46 by omega)];simp
  unfold sK;rw[if_neg (by rw[hm];simp)]
  exact PQ.pure rfl
 ·have hm:QF x=false:=by unfold QF aY;rw[decide_eq_false (show ¬1<=x.a0 by omega)];rfl
  unfold sK;rw[if_neg (by rw[hm];simp)]
  exact PQ.pure rfl
theorem AA1(n:Nat)(x:A9):below n (sK x)=true:=by unfold sK;split<;>rfl
theorem ARb{x:A9}(hx:okP x)(B:Base)(H:Heap):BM Tryz.prog 100 B 35 [F8 x] H (.returned (sK x)) H:=
 GL okp DC (lp1 (lpA hx)) rfl (AA1 _ _) (ARa hx) B H
theorem ARc:vR (ev Tryz.prog (fun _=>none) 2000 (.call 11 [] (AQi (aW.map fun n:Nat => .int .u32 (n:Int)))))=true:=by kernel_rfl
theorem ALX(B:Base)(H:Heap):BM Tryz.prog 100 B 11 [] H (.returned (.bool true)) H:=AKR okp AQg qO ARc B H
end
end Go.Proofs.Ob
