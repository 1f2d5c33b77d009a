/- A message's attributes: what the code comes to. -/
import Derived.Test.YtblbaohcelldpaaGreatDoorQ2
set_option linter.all false
namespace Go.Proofs.YtblbaohcelldpaaGreatDoor.Ob
open Go Go.Abs Go.Tlv
set_option maxRecDepth 100000
noncomputable section
theorem hasL_lt{k m:Nat}(h:hasL[k]?=some m):m<262144:=by
 have:∀m∈hasL,m<262144:=by decide
 exact this m (List.mem_of_getElem? h)
theorem n_shr32{m t:Nat}{K:Int->Prop}(hk:K ((m / 2 ^ (min t 32):Nat):Int)):(real Tryz.prog).ari .shr .u32 (m:Int) .u8 (t:Int) K:=by
 refine⟨((m / 2 ^ (min t 32):Nat):Int),?_,hk⟩
 have e:((m:Int)).fdiv (2 ^ (min (t:Int).toNat IntKind.u32.bits))=((m / 2 ^ (min t 32):Nat):Int):=by
  rw[Int.toNat_natCast,Int.fdiv_eq_ediv_of_nonneg _ (Int.pow_nonneg (by omega))]
  show(m:Int) / 2 ^ (min t 32)=_
  rw[Int.natCast_ediv,Int.natCast_pow];rfl
 have h0:(0:Int)<=(t:Int):=by omega
 simp only[intBin,e,decide_eq_true h0]
theorem n_and1{m:Nat}{K:Int->Prop}(hm:m<4294967296)(hk:K ((m % 2:Nat):Int)):(real Tryz.prog).ari .and .u32 (m:Int) .u32 (1:Int) K:=by
 refine⟨((m % 2:Nat):Int),?_,hk⟩
 have e:IntKind.u32.wrap ((BitVec.ofInt IntKind.u32.bits (m:Int)) &&& (BitVec.ofInt IntKind.u32.bits (1:Int))).toNat=((m % 2:Nat):Int):=by
  rw[BitVec.toNat_and]
  have h1:(BitVec.ofInt IntKind.u32.bits (m:Int)).toNat=m:=by
   rw[BitVec.ofInt_natCast,BitVec.toNat_ofNat];exact Nat.mod_eq_of_lt (by show m<2 ^ 32;omega)
  have h2:(BitVec.ofInt IntKind.u32.bits (1:Int)).toNat=1:=by decide
  rw[h1,h2,Nat.and_one_is_mod]
  simp[IntKind.wrap,IntKind.signed,IntKind.bits];omega
 simp only[intBin,e];rfl
theorem ofC(k t:Nat)(hk:k<256)(ht:t<256):Is (gOf (real Tryz.prog) (hasL.map fun n:Nat => .int .u32 (n:Int)) (k:Int) (t:Int) (fun v=>v = .bool (hasB k t))):=by
 refine⟨?_⟩
 rw[gOf_eq]
 refine n_fit t5 t3 (fit_i64 (by omega)) (n_ltN (fun h=>?_) (fun h=>?_))
 ·have hl:k<hasL.length:=h
  have hx:hasL[k]?=some hasL[k]:=List.getElem?_eq_getElem hl
  generalize hasL[k]=m at hx
  have hm:=hasL_lt hx
  have e:hasB k t=Nat.beq (m / 2 ^ (min t 32) % 2) 1:=by
   unfold hasB
   rw[List.getD_eq_getElem?_getD,hx,decide_eq_true h];rfl
  have hd:m / 2 ^ (min t 32)<4294967296:=Nat.lt_of_le_of_lt (Nat.div_le_self _ _) (by omega)
  refine n_idx k rfl h (n_rdI (z:=(m:Int)) (by rw[Nat.zero_add,Nat.mul_one,List.getElem?_map,hx];rfl) (n_shr32 (n_and1 hd (n_eqN (d:=1) (fun h1=>?_) (fun h1=>?_)))))
  ·rw[e,h1];rfl
  ·rw[e];cases hb:Nat.beq (m / 2 ^ (min t 32) % 2) 1 with
   |false=>rfl
   |true=>exact absurd (Nat.eq_of_beq_eq_true hb) h1
 ·have h:47<=k:=h
  have e:hasB k t=false:=by unfold hasB;rw[decide_eq_false (by omega)];rfl
  rw[e]
def MOr:MOf:=fun a b A B=>∃k t:Nat,a=k/\b=t/\k<256/\t<256/\(hasB k t=true->A)/\(hasB k t=false->B)
theorem plain_tab:plainL (hasL.map fun n:Nat => .int .u32 (n:Int))=true:=rfl
theorem ofH(k t:Nat)(hk:k<256)(ht:t<256)(B:Base)(H:Heap):CallH Tryz.prog 100 B 34 [.int .u8 k,.int .u8 t] H (.returned (.bool (hasB k t))) H:=
 pu_mkT okp (W:=WOf) kn_none lp_none tab0 plain_tab rfl (ofC k t hk ht) B H
theorem puOf:PuOk Tryz.prog 100 34 (sOf MOr):=by
 intro args K h
 unfold sOf at h
 split at h<;>try exact h.elim
 obtain⟨k,t,rfl,rfl,hk,ht,hA,hB⟩:=h
 refine⟨_,ofH k t hk ht,?_⟩
 cases hb:hasB k t with
 |true=>exact hA hb
 |false=>exact hB hb
def MPr{α:Type}(v:α->Value)(ok:α->Prop)(may:α->Bool)(atts:α->List At):MPx:=fun a A E=>∃x:α,a=v x/\ok x/\(may x=true->A (bytesOf (encS (atts x))))/\(may x=false->E)
theorem pu_px{α:Type}{v:α->Value}{ok:α->Prop}{may:α->Bool}{atts:α->List At}{f:FuncId}(h:∀x,ok x->∀B H,CallH Tryz.prog 100 B f [v x] H (.returned (putV (may x) (atts x))) H):PuOk Tryz.prog 100 f (sPx (MPr v ok may atts)):=by
 intro args K hs
 unfold sPx at hs
 split at hs<;>try exact hs.elim
 obtain⟨x,rfl,hf,hA,hE⟩:=hs
 refine⟨_,h x hf,?_⟩
 cases hm:may x with
 |true=>exact hA hm
 |false=>exact hE hm
def MAr:MAt:=⟨MNr,MOr,MWr,MPr vNode (fun x=>fitNode x/\wfNode x) mayNode attsNode,MPr vField (fun x=>fitField x/\wfField x) mayField attsField,MPr vTable (fun x=>fitTable x/\wfTable x) mayTable attsTable,MPr vEntry (fun x=>fitEntry x/\wfEntry x) mayEntry attsEntry,MPr vBlock (fun x=>fitBlock x/\wfBlock x) mayBlock attsBlock,MPr vGroup (fun x=>fitGroup x/\wfGroup x) mayGroup attsGroup,MPr vMeter (fun x=>fitMeter x/\wfMeter x) mayMeter attsMeter,MPr vRegs (fun x=>fitRegs x/\wfRegs x) mayRegs attsRegs⟩
theorem knA:KnOk Tryz.prog 100 (howOf syO Zp [(147,sWd MAr.w)] [] (puA MAr) [(48,15),(48,17),(21,20)]):=kn_ok (fun x hx=>by simp only[List.mem_singleton]at hx;subst hx;exact okWd) (fun x hx=>by
 simp only[puA,List.mem_cons,List.not_mem_nil,or_false]at hx
 rcases hx with rfl|rfl|rfl|rfl|rfl|rfl|rfl|rfl|rfl|rfl
 ·exact puNm
 ·exact puOf
 ·exact pu_px fun x h B H=>putNodeH x h.1 h.2 B H
 ·exact pu_px fun x h B H=>putFieldH x h.1 h.2 B H
 ·exact pu_px fun x h B H=>putTableH x h.1 h.2 B H
 ·exact pu_px fun x h B H=>putEntryH x h.1 h.2 B H
 ·exact pu_px fun x h B H=>putBlockH x h.1 h.2 B H
 ·exact pu_px fun x h B H=>putGroupH x h.1 h.2 B H
 ·exact pu_px fun x h B H=>putMeterH x h.1 h.2 B H
 ·exact pu_px fun x h B H=>putRegsH x h.1 h.2 B H)
def lA(x:OMsg)(t:Nat):List At:=atFrom (putM x) (t-1) 0
structure InvA(x:OMsg)(t:Nat):Prop where
 lo:1<=t
 hi:t<=18
 go:∀j,1<=j->j<t->goM x j=true
def IA(x:OMsg)(t:Nat):List Value×List (Option AObj):=([pA 100,mkS 158 (lA x t).length,pA 157,.int .u8 (t:Int)],some (cM x)::(pObjs++[mo (cellsA (lA x t)) 94 2]))
def RA(x:OMsg)(e:Exit)(v:List Value)(o:List (Option AObj)):Prop:=
 (allM x=true/\e = .exit 0/\v=[top,top,mkS 158 (attsM x).length]/\o=holes++[mo (cellsA (attsM x)) 94 2])∨
 (allM x=false/\e = .ret/\v=[.slice none 0 0,.bool false,top]/\o=holes)
abbrev backA(x:OMsg)(t:Nat)(vals:List Value)(objs:List (Option AObj)):Prop:=∃a':{t:Nat // InvA x t},18-a'.1<18-t/\Wk 100 (100+58) vals objs (IA x a'.1).1 (IA x a'.1).2/\∀e v o,RA x e v o->RA x e v o
abbrev outA(x:OMsg)(e:Exit)(vals:List Value)(objs:List (Option AObj)):Prop:=∃v o,Wk 100 (100+58) vals objs v o/\RA x e v o
theorem preA(x:OMsg){rest:List (Option AObj)}(i:Nat)(o:AObj)(h:(some (cM x)::pObjs)[i]?=some (some o)):(some (cM x)::(pObjs++rest))[i]?=some (some o)/\belowO (100+58) (some o)=true:=by
 refine⟨?_,allB_at (n0:=100+58) (l:=some (cM x)::pObjs) rfl i o h⟩
 rw[←List.cons_append,List.getElem?_append_left (List.getElem?_eq_some_iff.1 h).1];exact h
theorem wk_holesA(x:OMsg){vals:List Value}{ob:Option AObj}{n0:Nat}:Wk 100 n0 vals (some (cM x)::(pObjs++[ob])) vals (holes++[ob]):=by
 have e:holes=(some (cM x)::pObjs).map fun _=>none:=rfl
 have:∀l:List (Option AObj),WeakOs (l++[ob]) ((l.map fun _=>none)++[ob]):=by
  intro l
  induction l with
  |nil=>exact .cons (.refl _) .nil
  |cons a l ih=>exact .cons (.none _) ih
 rw[e]
 exact wk_weak (WeakL.refl _) (this (some (cM x)::pObjs))
theorem fin{x:OMsg}{t:Nat}(inv:InvA x t)(ht:t<=17)(ha:x.a0<256){s:ByteArray}(hs:s.data.toList=putM x t)(hi:isM x t=true):
  gotA (real Tryz.prog) MAr x (lA x t).length (mo (cellsA (lA x t)) 94 2) (t:Int) s (([]:List Deferred)=[]/\backA x t [pA 100,mkS 158 (lA x t).length,pA 157,.int .u8 ((t:Int)+1)] (some (cM x)::(pObjs++[mo (cellsA (lA x t)) 94 2])))
   (([]:List Deferred)=[]/\outA x .ret [.slice none 0 0,.bool false,mkS 158 (lA x t).length] (some (cM x)::(pObjs++[mo (cellsA (lA x t)) 94 2])))
   (fun vs' k'=>([]:List Deferred)=[]/\backA x t [pA 100,.slice (some ⟨160,0,none⟩) k' k',pA 157,.int .u8 ((t:Int)+1)] (some (cM x)::(pObjs++[none,some (.cells [.int .u8 (t:Int),.string s] 94 2 false true),some (.cells vs' 94 2 true true)]))):=by
 obtain⟨lo,hi18,hgo⟩:=inv
 have hT:tops=140737488355328:=rfl
 have hlen:(lA x t).length<=17:=Nat.le_trans (atFrom_len _ _) (by omega)
 have hnext:goM x t=true->InvA x (t+1):=fun h=>⟨by omega,by omega,fun j h1 h2=>by
  rcases Nat.lt_or_ge j t with h3|h3
  ·exact hgo j h1 h3
  ·rw[show j=t by omega];exact h⟩
 have hsn:lA x (t+1)=lA x t++one1 t (putM x t):=by
  unfold lA
  have:=atFrom_snoc (f:=putM x) (t-1) 0
  rw[show t-1+1=t by omega,Nat.zero_add,show t-1+1=t by omega]at this
  rw[show t+1-1=t by omega];exact this
 have hc:(t:Int)+1=((t+1:Nat):Int):=by omega
 have skip:s.data.toList=[]->([]:List Deferred)=[]/\backA x t [pA 100,mkS 158 (lA x t).length,pA 157,.int .u8 ((t:Int)+1)] (some (cM x)::(pObjs++[mo (cellsA (lA x t)) 94 2])):=fun h=>by
  have hp:putM x t=[]:=by rw[←hs];exact h
  have hg:goM x t=true:=by unfold goM;rw[hi,hp];rfl
  refine⟨rfl,⟨t+1,hnext hg⟩,by show 18-(t+1)<18-t;omega,?_,fun _ _ _ h=>h⟩
  have e:lA x (t+1)=lA x t:=by rw[hsn,hp];simp[one1]
  show Wk 100 (100+58) _ _ [pA 100,mkS 158 (lA x (t+1)).length,pA 157,.int .u8 ((t+1:Nat):Int)] (some (cM x)::(pObjs++[mo (cellsA (lA x (t+1))) 94 2]))
  rw[e,hc];exact Wk.refl _ _ _ _
 have no:goM x t=false->([]:List Deferred)=[]/\outA x .ret [.slice none 0 0,.bool false,mkS 158 (lA x t).length] (some (cM x)::(pObjs++[mo (cellsA (lA x t)) 94 2])):=fun h=>by
  refine⟨rfl,[.slice none 0 0,.bool false,top],holes,?_,.inr ⟨?_,rfl,rfl,rfl⟩⟩
  ·refine(wk_weak (WeakL.cons (Weak.refl _) (WeakL.cons (Weak.refl _) (WeakL.cons (Weak.top _) .nil))) (WeakOs.refl _)).trans ((wk_holesA x).trans (wk_drop (k0:=58) (pre:=holes) rfl rfl (fun i o h=>?_)))
   have:holes[i]?=some none∨holes[i]?=none:=by
    unfold holes;rw[List.getElem?_replicate];split
    ·exact .inl rfl
    ·exact .inr rfl
   rcases this with e|e<;>rw[e]at h<;>cases h
  ·cases ha:allM x with
   |false=>rfl
   |true=>rw[allM_iff.1 ha t lo ht]at h;cases h
 have app:s.data.toList≠[]->hasB x.a0 t=true->(real Tryz.prog).base true (lA x t).length (lA x t).length (mo (cellsA (lA x t)) 94 2) 94 2 fun vs=>(real Tryz.prog).appX (lA x t).length vs 1 [.int .u8 (t:Int),.string s] 2 24
   (fun vs' k'=>([]:List Deferred)=[]/\backA x t [pA 100,.slice (some ⟨160,0,none⟩) k' k',pA 157,.int .u8 ((t:Int)+1)] (some (cM x)::(pObjs++[none,some (.cells [.int .u8 (t:Int),.string s] 94 2 false true),some (.cells vs' 94 2 true true)]))):=fun h1 h2=>by
  have hp:putM x t≠[]:=by rw[←hs];exact h1
  have hg:goM x t=true:=by unfold goM;rw[hi,h2];simp
  have e:lA x (t+1)=lA x t++[⟨t,s⟩]:=by
   rw[hsn];unfold one1;rw[if_neg hp,←hs,bytes_eta]
  have ec:cellsA (lA x (t+1))=cellsA (lA x t)++[.int .u8 (t:Int),.string s]:=by rw[e,cellsA_app];rfl
  have el:(lA x (t+1)).length=(lA x t).length+1:=by rw[e];simp
  refine n_base_mo (cellsA_len _) (by omega) (n_appX (by omega) rfl rfl (by omega) (by omega) ⟨rfl,⟨t+1,hnext hg⟩,by show 18-(t+1)<18-t;omega,?_,fun _ _ _ h=>h⟩)
  show Wk 100 (100+58) _ _ ([pA 100]++mkS (100+58) (lA x (t+1)).length::[pA 157,.int .u8 ((t+1:Nat):Int)]) ((some (cM x)::pObjs)++[mo (cellsA (lA x (t+1))) 94 2])
  rw[mo_ne (by rw[ec];simp),ec,el,hc]
  exact wk_outG (k0:=58) (j:=60) (va:=[pA 100]) (by omega) rfl (by rw[←ec];exact cellsA_below _) rfl rfl (by omega) rfl (fun i o h=>preA x i o h)
 have nogo:s.data.toList≠[]->hasB x.a0 t=false->goM x t=false:=fun h1 h2=>by
  have hp:putM x t≠[]:=by rw[←hs];exact h1
  unfold goM;rw[hi,h2];simpa using hp
 refine n_scmp_ne (fun h=>⟨x.a0,t,rfl,rfl,ha,by omega,fun h2=>n_scmp_ne (fun _=>app h h2) (fun h3=>absurd h3 h),fun h2=>no (nogo h h2)⟩) (fun h=>n_scmp_ne (fun h3=>absurd h h3) (fun _=>skip h))
theorem finR{x:OMsg}{t:Nat}(inv:InvA x t)(ht:t<=17)(hi:isM x t=false):([]:List Deferred)=[]/\outA x .ret [.slice none 0 0,.bool false,mkS 158 (lA x t).length] (some (cM x)::(pObjs++[mo (cellsA (lA x t)) 94 2])):=by
 refine⟨rfl,[.slice none 0 0,.bool false,top],holes,?_,.inr ⟨?_,rfl,rfl,rfl⟩⟩
 ·refine(wk_weak (WeakL.cons (Weak.refl _) (WeakL.cons (Weak.refl _) (WeakL.cons (Weak.top _) .nil))) (WeakOs.refl _)).trans ((wk_holesA x).trans (wk_drop (k0:=58) (pre:=holes) rfl rfl (fun i o h=>?_)))
  have:holes[i]?=some none∨holes[i]?=none:=by
   unfold holes;rw[List.getElem?_replicate];split
   ·exact .inl rfl
   ·exact .inr rfl
  rcases this with e|e<;>rw[e]at h<;>cases h
 ·cases ha:allM x with
  |false=>rfl
  |true=>
   have h2:=allM_iff.1 ha t inv.lo ht
   unfold goM at h2;rw[hi]at h2;cases h2
theorem n_geqN{m d:Nat}{k:IntKind}{X Y:Prop}(h1:d<=m->X)(h2:m<d->Y):(real Tryz.prog).cmp .geq k (m:Int) k (d:Int) X Y:=n_geq (fun h=>h1 (by omega)) (fun h=>h2 (by omega))
def WAr:How:=howOf syO Zp [(147,sWd MAr.w)] [] (puA MAr) [(48,15),(48,17),(21,20)]
theorem rndA1{x:OMsg}(hx:okP x)(inv:InvA x 1):Is (wpe Tryz.prog (real Tryz.prog) WAr 300 (.code false (loopIn Tryz.prog 35 6) (stOf 100 48 [1,4,5,6] [] (IA x 1))) (roundQ 100 [1,4,5,6] [2,3,4] 48 [] (backA x 1) (outA x))):=by
 refine⟨?_⟩
 show gAttR (real Tryz.prog) MAr x (lA x 1).length (mo (cellsA (lA x 1)) 94 2) _ _ 1
 rw[gAttR1_eq]
 exact n_cv3 ⟨_,rfl,u64N_lt _,n_leN (d:=2147483647) (fun h=>fin inv (by omega) hx.a0 (bytes_toList _) (decide_eq_true h)) (fun h=>finR inv (by omega) (decide_eq_false (by omega)))⟩
theorem rndA2{x:OMsg}(hx:okP x)(inv:InvA x 2):Is (wpe Tryz.prog (real Tryz.prog) WAr 300 (.code false (loopIn Tryz.prog 35 6) (stOf 100 48 [1,4,5,6] [] (IA x 2))) (roundQ 100 [1,4,5,6] [2,3,4] 48 [] (backA x 2) (outA x))):=by
 refine⟨?_⟩
 show gAttR (real Tryz.prog) MAr x (lA x 2).length (mo (cellsA (lA x 2)) 94 2) _ _ 2
 rw[gAttR2_eq]
 exact n_cv3 ⟨_,rfl,u64N_lt _,n_leN (d:=2147483647) (fun h=>fin inv (by omega) hx.a0 (bytes_toList _) (decide_eq_true h)) (fun h=>finR inv (by omega) (decide_eq_false (by omega)))⟩
theorem rndA3{x:OMsg}(hx:okP x)(inv:InvA x 3):Is (wpe Tryz.prog (real Tryz.prog) WAr 300 (.code false (loopIn Tryz.prog 35 6) (stOf 100 48 [1,4,5,6] [] (IA x 3))) (roundQ 100 [1,4,5,6] [2,3,4] 48 [] (backA x 3) (outA x))):=by
 refine⟨?_⟩
 show gAttR (real Tryz.prog) MAr x (lA x 3).length (mo (cellsA (lA x 3)) 94 2) _ _ 3
 rw[gAttR3_eq]
 exact n_cv3 ⟨_,rfl,u64N_lt _,n_leN (d:=2147483647) (fun h=>fin inv (by omega) hx.a0 (bytes_toList _) (decide_eq_true h)) (fun h=>finR inv (by omega) (decide_eq_false (by omega)))⟩
theorem rndA4{x:OMsg}(hx:okP x)(inv:InvA x 4):Is (wpe Tryz.prog (real Tryz.prog) WAr 300 (.code false (loopIn Tryz.prog 35 6) (stOf 100 48 [1,4,5,6] [] (IA x 4))) (roundQ 100 [1,4,5,6] [2,3,4] 48 [] (backA x 4) (outA x))):=by
 refine⟨?_⟩
 show gAttR (real Tryz.prog) MAr x (lA x 4).length (mo (cellsA (lA x 4)) 94 2) _ _ 4
 rw[gAttR4_eq]
 exact n_cv3 ⟨_,rfl,u64N_lt _,n_leN (d:=2147483647) (fun h=>fin inv (by omega) hx.a0 (bytes_toList _) (decide_eq_true h)) (fun h=>finR inv (by omega) (decide_eq_false (by omega)))⟩
theorem rndA5{x:OMsg}(hx:okP x)(inv:InvA x 5):Is (wpe Tryz.prog (real Tryz.prog) WAr 300 (.code false (loopIn Tryz.prog 35 6) (stOf 100 48 [1,4,5,6] [] (IA x 5))) (roundQ 100 [1,4,5,6] [2,3,4] 48 [] (backA x 5) (outA x))):=by
 refine⟨?_⟩
 show gAttR (real Tryz.prog) MAr x (lA x 5).length (mo (cellsA (lA x 5)) 94 2) _ _ 5
 rw[gAttR5_eq]
 exact n_cv3 ⟨_,rfl,u64N_lt _,n_leN (d:=2147483647) (fun h=>fin inv (by omega) hx.a0 (bytes_toList _) (decide_eq_true h)) (fun h=>finR inv (by omega) (decide_eq_false (by omega)))⟩
theorem rndA6{x:OMsg}(hx:okP x)(inv:InvA x 6):Is (wpe Tryz.prog (real Tryz.prog) WAr 300 (.code false (loopIn Tryz.prog 35 6) (stOf 100 48 [1,4,5,6] [] (IA x 6))) (roundQ 100 [1,4,5,6] [2,3,4] 48 [] (backA x 6) (outA x))):=by
 refine⟨?_⟩
 show gAttR (real Tryz.prog) MAr x (lA x 6).length (mo (cellsA (lA x 6)) 94 2) _ _ 6
 rw[gAttR6_eq]
 exact⟨x.a7,rfl,hx.a7,n_leN (d:=18446744073709551615) (fun h=>fin inv (by omega) hx.a0 (bytes_toList _) rfl) (fun h=>absurd hx.a7 (by omega))⟩
theorem rndA7{x:OMsg}(hx:okP x)(inv:InvA x 7):Is (wpe Tryz.prog (real Tryz.prog) WAr 300 (.code false (loopIn Tryz.prog 35 6) (stOf 100 48 [1,4,5,6] [] (IA x 7))) (roundQ 100 [1,4,5,6] [2,3,4] 48 [] (backA x 7) (outA x))):=by
 refine⟨?_⟩
 show gAttR (real Tryz.prog) MAr x (lA x 7).length (mo (cellsA (lA x 7)) 94 2) _ _ 7
 rw[gAttR7_eq]
 exact⟨x.a8,rfl,hx.a8,n_leN (d:=18446744073709551615) (fun h=>fin inv (by omega) hx.a0 (bytes_toList _) rfl) (fun h=>absurd hx.a8 (by omega))⟩
theorem rndA8{x:OMsg}(hx:okP x)(inv:InvA x 8):Is (wpe Tryz.prog (real Tryz.prog) WAr 300 (.code false (loopIn Tryz.prog 35 6) (stOf 100 48 [1,4,5,6] [] (IA x 8))) (roundQ 100 [1,4,5,6] [2,3,4] 48 [] (backA x 8) (outA x))):=by
 refine⟨?_⟩
 show gAttR (real Tryz.prog) MAr x (lA x 8).length (mo (cellsA (lA x 8)) 94 2) _ _ 8
 rw[gAttR8_eq]
 exact fin inv (by omega) hx.a0 rfl rfl
theorem rndA9{x:OMsg}(hx:okP x)(inv:InvA x 9):Is (wpe Tryz.prog (real Tryz.prog) WAr 300 (.code false (loopIn Tryz.prog 35 6) (stOf 100 48 [1,4,5,6] [] (IA x 9))) (roundQ 100 [1,4,5,6] [2,3,4] 48 [] (backA x 9) (outA x))):=by
 refine⟨?_⟩
 show gAttR (real Tryz.prog) MAr x (lA x 9).length (mo (cellsA (lA x 9)) 94 2) _ _ 9
 rw[gAttR9_eq]
 exact⟨x,rfl,hx,branch_mk (fun h=>fin inv (by omega) hx.a0 (bytes_toList _) h) (fun h=>finR inv (by omega) h)⟩
theorem rndA10{x:OMsg}(hx:okP x)(inv:InvA x 10):Is (wpe Tryz.prog (real Tryz.prog) WAr 300 (.code false (loopIn Tryz.prog 35 6) (stOf 100 48 [1,4,5,6] [] (IA x 10))) (roundQ 100 [1,4,5,6] [2,3,4] 48 [] (backA x 10) (outA x))):=by
 refine⟨?_⟩
 show gAttR (real Tryz.prog) MAr x (lA x 10).length (mo (cellsA (lA x 10)) 94 2) _ _ 10
 rw[gAttR10_eq]
 exact⟨x.n,rfl,hx.n,fun h=>⟨rfl,fin inv (by omega) hx.a0 (by rw[bytes_toList];exact(if_pos h).symm) h⟩,fun h=>⟨rfl,finR inv (by omega) h⟩⟩
theorem rndA11{x:OMsg}(hx:okP x)(inv:InvA x 11):Is (wpe Tryz.prog (real Tryz.prog) WAr 300 (.code false (loopIn Tryz.prog 35 6) (stOf 100 48 [1,4,5,6] [] (IA x 11))) (roundQ 100 [1,4,5,6] [2,3,4] 48 [] (backA x 11) (outA x))):=by
 refine⟨?_⟩
 show gAttR (real Tryz.prog) MAr x (lA x 11).length (mo (cellsA (lA x 11)) 94 2) _ _ 11
 rw[gAttR11_eq]
 exact⟨x.f,rfl,hx.f,fun h=>⟨rfl,fin inv (by omega) hx.a0 (by rw[bytes_toList];exact(if_pos h).symm) h⟩,fun h=>⟨rfl,finR inv (by omega) h⟩⟩
theorem rndA12{x:OMsg}(hx:okP x)(inv:InvA x 12):Is (wpe Tryz.prog (real Tryz.prog) WAr 300 (.code false (loopIn Tryz.prog 35 6) (stOf 100 48 [1,4,5,6] [] (IA x 12))) (roundQ 100 [1,4,5,6] [2,3,4] 48 [] (backA x 12) (outA x))):=by
 refine⟨?_⟩
 show gAttR (real Tryz.prog) MAr x (lA x 12).length (mo (cellsA (lA x 12)) 94 2) _ _ 12
 rw[gAttR12_eq]
 exact⟨x.t,rfl,hx.t,fun h=>⟨rfl,fin inv (by omega) hx.a0 (by rw[bytes_toList];exact(if_pos h).symm) h⟩,fun h=>⟨rfl,finR inv (by omega) h⟩⟩
theorem rndA13{x:OMsg}(hx:okP x)(inv:InvA x 13):Is (wpe Tryz.prog (real Tryz.prog) WAr 300 (.code false (loopIn Tryz.prog 35 6) (stOf 100 48 [1,4,5,6] [] (IA x 13))) (roundQ 100 [1,4,5,6] [2,3,4] 48 [] (backA x 13) (outA x))):=by
 refine⟨?_⟩
 show gAttR (real Tryz.prog) MAr x (lA x 13).length (mo (cellsA (lA x 13)) 94 2) _ _ 13
 rw[gAttR13_eq]
 exact⟨x.e,rfl,hx.e,fun h=>⟨rfl,fin inv (by omega) hx.a0 (by rw[bytes_toList];exact(if_pos h).symm) h⟩,fun h=>⟨rfl,finR inv (by omega) h⟩⟩
theorem rndA14{x:OMsg}(hx:okP x)(inv:InvA x 14):Is (wpe Tryz.prog (real Tryz.prog) WAr 300 (.code false (loopIn Tryz.prog 35 6) (stOf 100 48 [1,4,5,6] [] (IA x 14))) (roundQ 100 [1,4,5,6] [2,3,4] 48 [] (backA x 14) (outA x))):=by
 refine⟨?_⟩
 show gAttR (real Tryz.prog) MAr x (lA x 14).length (mo (cellsA (lA x 14)) 94 2) _ _ 14
 rw[gAttR14_eq]
 exact⟨x.b,rfl,hx.b,fun h=>⟨rfl,fin inv (by omega) hx.a0 (by rw[bytes_toList];exact(if_pos h).symm) h⟩,fun h=>⟨rfl,finR inv (by omega) h⟩⟩
theorem rndA15{x:OMsg}(hx:okP x)(inv:InvA x 15):Is (wpe Tryz.prog (real Tryz.prog) WAr 300 (.code false (loopIn Tryz.prog 35 6) (stOf 100 48 [1,4,5,6] [] (IA x 15))) (roundQ 100 [1,4,5,6] [2,3,4] 48 [] (backA x 15) (outA x))):=by
 refine⟨?_⟩
 show gAttR (real Tryz.prog) MAr x (lA x 15).length (mo (cellsA (lA x 15)) 94 2) _ _ 15
 rw[gAttR15_eq]
 exact⟨x.g,rfl,hx.g,fun h=>⟨rfl,fin inv (by omega) hx.a0 (by rw[bytes_toList];exact(if_pos h).symm) h⟩,fun h=>⟨rfl,finR inv (by omega) h⟩⟩
theorem rndA16{x:OMsg}(hx:okP x)(inv:InvA x 16):Is (wpe Tryz.prog (real Tryz.prog) WAr 300 (.code false (loopIn Tryz.prog 35 6) (stOf 100 48 [1,4,5,6] [] (IA x 16))) (roundQ 100 [1,4,5,6] [2,3,4] 48 [] (backA x 16) (outA x))):=by
 refine⟨?_⟩
 show gAttR (real Tryz.prog) MAr x (lA x 16).length (mo (cellsA (lA x 16)) 94 2) _ _ 16
 rw[gAttR16_eq]
 exact⟨x.m,rfl,hx.m,fun h=>⟨rfl,fin inv (by omega) hx.a0 (by rw[bytes_toList];exact(if_pos h).symm) h⟩,fun h=>⟨rfl,finR inv (by omega) h⟩⟩
theorem rndA17{x:OMsg}(hx:okP x)(inv:InvA x 17):Is (wpe Tryz.prog (real Tryz.prog) WAr 300 (.code false (loopIn Tryz.prog 35 6) (stOf 100 48 [1,4,5,6] [] (IA x 17))) (roundQ 100 [1,4,5,6] [2,3,4] 48 [] (backA x 17) (outA x))):=by
 refine⟨?_⟩
 show gAttR (real Tryz.prog) MAr x (lA x 17).length (mo (cellsA (lA x 17)) 94 2) _ _ 17
 rw[gAttR17_eq]
 exact⟨x.r,rfl,hx.r,fun h=>⟨rfl,fin inv (by omega) hx.a0 (by rw[bytes_toList];exact(if_pos h).symm) h⟩,fun h=>⟨rfl,finR inv (by omega) h⟩⟩
theorem rndA18{x:OMsg}(hx:okP x)(inv:InvA x 18):Is (wpe Tryz.prog (real Tryz.prog) WAr 300 (.code false (loopIn Tryz.prog 35 6) (stOf 100 48 [1,4,5,6] [] (IA x 18))) (roundQ 100 [1,4,5,6] [2,3,4] 48 [] (backA x 18) (outA x))):=by
 refine⟨?_⟩
 show gAttR (real Tryz.prog) MAr x (lA x 18).length (mo (cellsA (lA x 18)) 94 2) _ _ 18
 rw[gAttR18_eq]
 exact⟨rfl,_,_,wk_holesA x,.inl ⟨allM_iff.2 fun t h1 h2=>inv.go t h1 (by omega),rfl,rfl,rfl⟩⟩
theorem rndA{x:OMsg}(hx:okP x)(a:{t:Nat // InvA x t}):Is (wpe Tryz.prog (real Tryz.prog) WAr 300 (.code false (loopIn Tryz.prog 35 6) (stOf 100 48 [1,4,5,6] [] (IA x a.1))) (roundQ 100 [1,4,5,6] [2,3,4] 48 [] (backA x a.1) (outA x))):=by
 obtain⟨t,inv⟩:=a
 have lo:=inv.lo
 have hi:=inv.hi
 rcases t with _|_|_|_|_|_|_|_|_|_|_|_|_|_|_|_|_|_|_|t
 ·omega
 ·exact rndA1 hx inv
 ·exact rndA2 hx inv
 ·exact rndA3 hx inv
 ·exact rndA4 hx inv
 ·exact rndA5 hx inv
 ·exact rndA6 hx inv
 ·exact rndA7 hx inv
 ·exact rndA8 hx inv
 ·exact rndA9 hx inv
 ·exact rndA10 hx inv
 ·exact rndA11 hx inv
 ·exact rndA12 hx inv
 ·exact rndA13 hx inv
 ·exact rndA14 hx inv
 ·exact rndA15 hx inv
 ·exact rndA16 hx inv
 ·exact rndA17 hx inv
 ·exact rndA18 hx inv
 ·omega
def LAr(x:OMsg):LAx:=fun c n vals obs A R=>c=loopIn Tryz.prog 35 6/\n=48/\vals=[pA 100,.slice none 0 0,pA 157,.int .u8 1]/\obs=some (cM x)::pObjs/\(allM x=true->A (attsM x).length (mo (cellsA (attsM x)) 94 2))/\(allM x=false->R)
theorem lpA{x:OMsg}(hx:okP x):LoopOk Tryz.prog 100 [1,4,5,6] (sLpA (LAr x)):=by
 show LoopOk Tryz.prog 100 [1,4,5,6] (lpS [2,3,4] _)
 refine lp_mk okp (W:=WAr) knA lp_none ?_
 rintro c n vals obs K ⟨hc,hn,hv,ho,hA,hR⟩
 subst hc;subst hn;subst hv;subst ho
 refine⟨{t:Nat // InvA x t},58,300,fun a=>18-a.1,fun a=>IA x a.1,fun _ e v o=>RA x e v o,⟨1,Nat.le_refl _,by omega,fun j h1 h2=>by omega⟩,rfl,?_,?_,rndA hx⟩
 ·exact wk_nilG (va:=[pA 100])
 ·intro e v o h
  rcases h with⟨h1,rfl,rfl,rfl⟩ | ⟨h1,rfl,rfl,rfl⟩
  ·exact hA h1
  ·exact hR h1
def attV(x:OMsg):Value:=if mayM x=true then .tuple ⟨[dsl ((attsM x).map rowA),.bool true]⟩else noV
theorem attC{x:OMsg}(hx:okP x):Is (gAtt (real Tryz.prog) (LAr x) x (PQ (attV x))):=by
 refine⟨?_⟩
 rw[gAtt_eq]
 refine n_geqN (d:=1) (fun h1=>n_leN (d:=46) (fun h2=>⟨rfl,rfl,rfl,rfl,fun h=>?_,fun h=>?_⟩) (fun h2=>?_)) (fun h1=>?_)
 ·have hm:mayM x=true:=by unfold mayM knownB;rw[decide_eq_true h1,decide_eq_true h2,h];rfl
  unfold attV;rw[if_pos hm]
  have h1:Wk 100 100 [mkS 158 (attsM x).length,.bool true] (holes++[mo (cellsA (attsM x)) 94 2]) _ _:=wk_set_frzM (G:=100) 0 58 (rows:=(attsM x).map rowA) rfl rfl (flatA _) (cellsA_below _) (by omega) (by simp)
  exact wk_tup (h1.trans (wk_pure rfl))
 ·have hm:mayM x=false:=by unfold mayM;rw[h];simp
  unfold attV;rw[if_neg (by rw[hm];simp)]
  exact PQ.pure rfl
 ·have hm:mayM x=false:=by unfold mayM knownB;rw[decide_eq_false (show ¬x.a0<=46 by omega)];simp
  unfold attV;rw[if_neg (by rw[hm];simp)]
  exact PQ.pure rfl
 ·have hm:mayM x=false:=by unfold mayM knownB;rw[decide_eq_false (show ¬1<=x.a0 by omega)];rfl
  unfold attV;rw[if_neg (by rw[hm];simp)]
  exact PQ.pure rfl
theorem attV_below(n:Nat)(x:OMsg):below n (attV x)=true:=by unfold attV;split<;>rfl
theorem attH{x:OMsg}(hx:okP x)(B:Base)(H:Heap):CallH Tryz.prog 100 B 35 [vMsg x] H (.returned (attV x)) H:=
 pu_mk okp kn_none (lp1 (lpA hx)) rfl (attV_below _ _) (attC hx) B H
end
end Go.Proofs.YtblbaohcelldpaaGreatDoor.Ob
namespace Go.Proofs.YtblbaohcelldpaaGreatDoor.Ob
open Go Go.Abs Go.Tlv
set_option maxRecDepth 100000
noncomputable section
theorem awEv:retTrue (ev Tryz.prog (fun _=>none) 2000 (.call 11 [] (tabV (hasL.map fun n:Nat => .int .u32 (n:Int)))))=true:=by kernel_rfl
theorem awakeH(B:Base)(H:Heap):CallH Tryz.prog 100 B 11 [] H (.returned (.bool true)) H:=run_tab okp tab0 plain_tab awEv B H
end
end Go.Proofs.YtblbaohcelldpaaGreatDoor.Ob
namespace Go.Proofs.YtblbaohcelldpaaGreatDoor.Ob
open Go Go.Abs Go.Tlv
set_option maxRecDepth 100000
noncomputable section
abbrev LQt:=Code->Nat->List Value->List (Option AObj)->Prop->Prop->Prop
def RQ{α:Type}(l m:List α)(e:Exit)(v:List Value)(o:List (Option AObj)):Prop:=(l=m/\e = .exit 0/\v=[top]/\o=[])∨(l≠m/\e = .ret/\v=[.bool false]/\o=[])
abbrev MEq:=List Value->List Value->Prop->Prop->Prop
def sEq(M:MEq):List Value->(Value->Prop)->Prop
 | [.iface t (.agg ⟨a⟩),.iface t' (.agg ⟨b⟩)],K=>match Nat.beq t mkD&&Nat.beq t' mkD with
  |true=>M a b (K (.bool true)) (K (.bool false))
  |false=>False
 |_,_=>False
def MEqr{α:Type}(c:α->List Value):MEq:=fun a b A E=>∃l m:List α,a=rowsOf c l/\b=rowsOf c m/\l.length<1000000000/\(l=m->A)/\(l≠m->E)
theorem pu_eq{α:Type}{c:α->List Value}{f:FuncId}(h:∀l m:List α,l.length<1000000000->∃b:Bool,(b=true↔l=m)/\∀B H,CallH Tryz.prog 100 B f [dsl (rowsOf c l),dsl (rowsOf c m)] H (.returned (.bool b)) H):PuOk Tryz.prog 100 f (sEq (MEqr c)):=by
 intro args K hs
 unfold sEq at hs
 split at hs<;>try exact hs.elim
 rename_i t a t' b
 split at hs<;>try exact hs.elim
 rename_i ht
 simp only[Bool.and_eq_true]at ht
 obtain rfl:=Nat.eq_of_beq_eq_true ht.1
 obtain rfl:=Nat.eq_of_beq_eq_true ht.2
 obtain⟨l,m,rfl,rfl,hl,hA,hE⟩:=hs
 obtain⟨q,h1,h2⟩:=h l m hl
 refine⟨.bool q,h2,?_⟩
 cases q with
 |true=>exact hA (h1.1 rfl)
 |false=>exact hE (fun h=>by have:=h1.2 h;cases this)
end
end Go.Proofs.YtblbaohcelldpaaGreatDoor.Ob
namespace Go.Proofs.YtblbaohcelldpaaGreatDoor.Ob
open Go Go.Abs Go.Tlv
set_option maxRecDepth 100000
noncomputable section
structure MSs where
 s0:MSm
 s1:MSm
 s2:MSm
 s3:MSm
 s4:MSm
 s5:MSm
 s6:MSm
 s7:MSm
def puR(M:MSs)(ME:MEq):PuL:=[(41,sEq ME),(42,sSm M.s0),(43,sSm M.s1),(44,sSm M.s2),(45,sSm M.s3),(46,sSm M.s4),(47,sSm M.s5),(48,sSm M.s6),(49,sSm M.s7)]
def gRSame(N:Nd)(M:MSs)(ME:MEq)(x y:OMsg)(K:Value->Prop):Prop:=wpe Tryz.prog N (howOf Z0 Zp [] [] (puR M ME) []) 300 (.call 22 [vMsg x,vMsg y] h0) (retV K)
theorem gRSame_eq(N:Nd)(M:MSs)(ME:MEq)(x y:OMsg)(K:Value->Prop):gRSame N M ME x y K=N.cmp .eql .u8 (x.a0:Int) .u8 (y.a0:Int) (N.cmp .eql .u32 (x.a1:Int) .u32 (y.a1:Int) (N.cmp .eql .i64 x.a2 .i64 y.a2 (N.cmp .eql .i64 x.a3 .i64 y.a3 (N.cmp .eql .i64 x.a4 .i64 y.a4 (N.cmp .eql .i64 x.a5 .i64 y.a5 (N.cmp .eql .i64 x.a6 .i64 y.a6 (N.cmp .eql .u64 (x.a7:Int) .u64 (y.a7:Int) (N.cmp .eql .u64 (x.a8:Int) .u64 (y.a8:Int) (N.scmp .eql x.a9 y.a9 (ME (rowsOf cNat x.a10) (rowsOf cNat y.a10) (M.s0 (vNode x.n) (vNode y.n) (M.s1 (vField x.f) (vField y.f) (M.s2 (vTable x.t) (vTable y.t) (M.s3 (vEntry x.e) (vEntry y.e) (M.s4 (vBlock x.b) (vBlock y.b) (M.s5 (vGroup x.g) (vGroup y.g) (M.s6 (vMeter x.m) (vMeter y.m) (M.s7 (vRegs x.r) (vRegs y.r) (K (.bool true)) (K (.bool false))) (K (.bool false))) (K (.bool false))) (K (.bool false))) (K (.bool false))) (K (.bool false))) (K (.bool false))) (K (.bool false))) (K (.bool false))) (K (.bool false))) (K (.bool false))) (K (.bool false))) (K (.bool false))) (K (.bool false))) (K (.bool false))) (K (.bool false))) (K (.bool false))) (K (.bool false))) (K (.bool false)):=by kernel_rfl
theorem msg_eq{x y:OMsg}(ha0:x.a0=y.a0)(ha1:x.a1=y.a1)(ha2:x.a2=y.a2)(ha3:x.a3=y.a3)(ha4:x.a4=y.a4)(ha5:x.a5=y.a5)(ha6:x.a6=y.a6)(ha7:x.a7=y.a7)(ha8:x.a8=y.a8)(ha9:x.a9=y.a9)(h10:x.a10=y.a10)(hn:x.n=y.n)(hf:x.f=y.f)(ht:x.t=y.t)(he:x.e=y.e)(hb:x.b=y.b)(hg:x.g=y.g)(hm:x.m=y.m)(hr:x.r=y.r):x=y:=by
 cases x;cases y
 simp_all
def MS1{α:Type}(v:α->Value)(fit:α->Prop):MSm:=fun a b A E=>∃x y:α,a=v x/\b=v y/\fit x/\True/\(x=y->A)/\(¬x=y->E)
theorem pu_s1{α:Type}{v:α->Value}{fit:α->Prop}{f:FuncId}(h:∀x y,fit x->∃b:Bool,(b=true↔x=y)/\∀B H,CallH Tryz.prog 100 B f [v x,v y] H (.returned (.bool b)) H):PuOk Tryz.prog 100 f (sSm (MS1 v fit)):=by
 intro args K hs
 unfold sSm at hs
 split at hs<;>try exact hs.elim
 rename_i a b
 obtain⟨x,y,ha,hb,hx,_,hA,hE⟩:=hs
 obtain⟨t,ht,hc⟩:=h x y hx
 refine⟨.bool t,fun B H=>callh_weak (.cons (weak_nrmV a) (.cons (weak_nrmV b) .nil)) (by rw[ha,hb];exact hc B H),?_⟩
 cases t with
 |true=>exact hA (ht.1 rfl)
 |false=>exact hE (fun h=>by have:=ht.2 h;cases this)
def MSr1:MSs:=⟨MS1 vNode fitNode,MS1 vField fitField,MS1 vTable fitTable,MS1 vEntry fitEntry,MS1 vBlock fitBlock,MS1 vGroup fitGroup,MS1 vMeter fitMeter,MS1 vRegs fitRegs⟩
theorem rSameC(x y:OMsg)(hx:okP x):Is (gRSame (real Tryz.prog) MSr1 (MEqr cNat) x y (fun v=>∃b:Bool,v = .bool b/\(b=true↔x=y))):=by
 refine⟨?_⟩
 rw[gRSame_eq]
 exact n_eqN (fun e_a0=>n_eqN (fun e_a1=>n_eql (fun e_a2=>n_eql (fun e_a3=>n_eql (fun e_a4=>n_eql (fun e_a5=>n_eql (fun e_a6=>n_eqN (fun e_a7=>n_eqN (fun e_a8=>n_scmp_eq (fun e_a9=>⟨x.a10,y.a10,rfl,rfl,by have:=hx.w;omega,fun e_a10=>⟨x.n,y.n,rfl,rfl,hx.n.1,trivial,fun e_n=>⟨x.f,y.f,rfl,rfl,hx.f.1,trivial,fun e_f=>⟨x.t,y.t,rfl,rfl,hx.t.1,trivial,fun e_t=>⟨x.e,y.e,rfl,rfl,hx.e.1,trivial,fun e_e=>⟨x.b,y.b,rfl,rfl,hx.b.1,trivial,fun e_b=>⟨x.g,y.g,rfl,rfl,hx.g.1,trivial,fun e_g=>⟨x.m,y.m,rfl,rfl,hx.m.1,trivial,fun e_m=>⟨x.r,y.r,rfl,rfl,hx.r.1,trivial,fun e_r=>⟨true,rfl,fun _=>msg_eq e_a0 e_a1 e_a2 e_a3 e_a4 e_a5 e_a6 e_a7 e_a8 (bytes_ext e_a9) e_a10 e_n e_f e_t e_e e_b e_g e_m e_r,fun _=>rfl⟩,fun h=>⟨false,rfl,no_eq (fun z:OMsg=>z.r) h⟩⟩,fun h=>⟨false,rfl,no_eq (fun z:OMsg=>z.m) h⟩⟩,fun h=>⟨false,rfl,no_eq (fun z:OMsg=>z.g) h⟩⟩,fun h=>⟨false,rfl,no_eq (fun z:OMsg=>z.b) h⟩⟩,fun h=>⟨false,rfl,no_eq (fun z:OMsg=>z.e) h⟩⟩,fun h=>⟨false,rfl,no_eq (fun z:OMsg=>z.t) h⟩⟩,fun h=>⟨false,rfl,no_eq (fun z:OMsg=>z.f) h⟩⟩,fun h=>⟨false,rfl,no_eq (fun z:OMsg=>z.n) h⟩⟩,fun h=>⟨false,rfl,no_eq (fun z:OMsg=>z.a10) h⟩⟩) (fun h=>⟨false,rfl,no_eq (fun z:OMsg=>z.a9) (fun e=>h (by rw[show x.a9=y.a9 from e]))⟩)) (fun h=>⟨false,rfl,no_eq (fun z:OMsg=>z.a8) h⟩)) (fun h=>⟨false,rfl,no_eq (fun z:OMsg=>z.a7) h⟩)) (fun h=>⟨false,rfl,no_eq (fun z:OMsg=>z.a6) h⟩)) (fun h=>⟨false,rfl,no_eq (fun z:OMsg=>z.a5) h⟩)) (fun h=>⟨false,rfl,no_eq (fun z:OMsg=>z.a4) h⟩)) (fun h=>⟨false,rfl,no_eq (fun z:OMsg=>z.a3) h⟩)) (fun h=>⟨false,rfl,no_eq (fun z:OMsg=>z.a2) h⟩)) (fun h=>⟨false,rfl,no_eq (fun z:OMsg=>z.a1) h⟩)) (fun h=>⟨false,rfl,no_eq (fun z:OMsg=>z.a0) h⟩)
end
end Go.Proofs.YtblbaohcelldpaaGreatDoor.Ob
