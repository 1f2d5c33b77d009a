/- . -/
import Derived.Test.YtblbaohcelldpaaGreatDoorU8
set_option linter.all false
set_option maxRecDepth 100000
namespace Go.Proofs.Ob
open Go Go.Abs Go.Tlv
noncomputable section
theorem AFh{k m:Nat}(h:VT[k]?=some m):m<262144:=by
 have:∀m∈VT,m<262144:=by decide
 exact this m (List.mem_of_getElem? h)
theorem AFv{m t:Nat}{K:Int->Prop}(hk:K ((m / 2 ^ (min t 32):Nat):Int)):(real Tryz.prog).ari .shr .u32 (m:Int) .u8 (t:Int) K:=by
 refine⟨((m / 2 ^ (min t 32):Nat):Int),?_,hk⟩
 have e:((m:Int)).fdiv (2 ^ (min (t:Int).toNat IntKind.u32.bits))=((m / 2 ^ (min t 32):Nat):Int):=by
  rw[Int.toNat_natCast,Int.fdiv_eq_ediv_of_nonneg _ (Int.pow_nonneg (by omega))]
  show(m:Int) / 2 ^ (min t 32)=_
  rw[Int.natCast_ediv,Int.natCast_pow];rfl
 have h0:(0:Int)<=(t:Int):=by omega
 simp only[FU,e,decide_eq_true h0]
theorem AHO{m:Nat}{K:Int->Prop}(hm:m<4294967296)(hk:K ((m % 2:Nat):Int)):(real Tryz.prog).ari .and .u32 (m:Int) .u32 (1:Int) K:=by
 refine⟨((m % 2:Nat):Int),?_,hk⟩
 have e:IntKind.u32.wrap ((BitVec.ofInt IntKind.u32.bits (m:Int)) &&& (BitVec.ofInt IntKind.u32.bits (1:Int))).toNat=((m % 2:Nat):Int):=by
  rw[BitVec.toNat_and]
  have h1:(BitVec.ofInt IntKind.u32.bits (m:Int)).toNat=m:=by
   rw[BitVec.ofInt_natCast,BitVec.toNat_ofNat];exact Nat.mod_eq_of_lt (by show m<2 ^ 32;omega)
  have h2:(BitVec.ofInt IntKind.u32.bits (1:Int)).toNat=1:=by decide
  rw[h1,h2,Nat.and_one_is_mod]
  simp[IntKind.wrap,IntKind.signed,IntKind.bits];omega
 simp only[FU,e];rfl
theorem ofC(k t:Nat)(hk:k<256)(ht:t<256):Is (gOf (real Tryz.prog) (VT.map fun n:Nat => .int .u32 (n:Int)) (k:Int) (t:Int) (fun v=>v = .bool (hasB k t))):=by
 refine⟨?_⟩
 rw[AHj]
 refine BI t5 t3 (AX (by omega)) (DW (fun h=>?_) (fun h=>?_))
 ·have hl:k<VT.length:=h
  have hx:VT[k]?=some VT[k]:=List.getElem?_eq_getElem hl
  generalize VT[k]=m at hx
  have hm:=AFh hx
  have e:hasB k t=Nat.beq (m / 2 ^ (min t 32) % 2) 1:=by
   unfold hasB
   rw[List.getD_eq_getElem?_getD,hx,decide_eq_true h];rfl
  have hd:m / 2 ^ (min t 32)<4294967296:=Nat.lt_of_le_of_lt (Nat.div_le_self _ _) (by omega)
  refine AGw k rfl h (EN (z:=(m:Int)) (by rw[Nat.zero_add,Nat.mul_one,List.getElem?_map,hx];rfl) (AFv (AHO hd (CG (d:=1) (fun h1=>?_) (fun h1=>?_)))))
  ·rw[e,h1];rfl
  ·rw[e];cases hb:Nat.beq (m / 2 ^ (min t 32) % 2) 1 with
   |false=>rfl
   |true=>exact absurd (Nat.eq_of_beq_eq_true hb) h1
 ·have h:47<=k:=h
  have e:hasB k t=false:=by unfold hasB;rw[decide_eq_false (by omega)];rfl
  rw[e]
def MOr:MOf:=fun a b A B=>∃k t:Nat,a=k/\b=t/\k<256/\t<256/\(hasB k t=true->A)/\(hasB k t=false->B)
theorem jV:DT (VT.map fun n:Nat => .int .u32 (n:Int))=true:=rfl
theorem ofH(k t:Nat)(hk:k<256)(ht:t<256)(B:Base)(H:Heap):BP Tryz.prog 100 B 34 [.int .u8 k,.int .u8 t] H (.returned (.bool (hasB k t))) H:=
 AHX okp (W:=WOf) DR BN AJ7 jV rfl (ofC k t hk ht) B H
theorem ALt:EW Tryz.prog 100 34 (sOf MOr):=by
 intro args K h
 unfold sOf at h
 split at h<;>try exact h.elim
 obtain⟨k,t,rfl,rfl,hk,ht,hA,hB⟩:=h
 refine⟨_,ofH k t hk ht,?_⟩
 cases hb:hasB k t with
 |true=>exact hA hb
 |false=>exact hB hb
def MPr{α:Type}(v:α->Value)(ok:α->Prop)(may:α->Bool)(atts:α->List At):MPx:=fun a A E=>∃x:α,a=v x/\ok x/\(may x=true->A (bytesOf (encS (atts x))))/\(may x=false->E)
def MAr:MAt:=⟨MNr,MOr,MWr,MPr QM (fun x=>O0 x/\wZ x) O4 MC,MPr LC (fun x=>XE x/\nZ x) M5 JZ,MPr LP (fun x=>MU x/\oF x) M8 J4,MPr LB (fun x=>MP x/\nY x) M0 JY,MPr LA (fun x=>MM x/\nX x) MZ JX,MPr LH (fun x=>MQ x/\oC x) M6 J2,MPr LM (fun x=>XF x/\oD x) M7 J3,MPr QN (fun x=>bB x/\w9 x) O5 MF⟩
def lA(x:BB)(t:Nat):List At:=BQ (IX x) (t-1) 0
structure AGL(x:BB)(t:Nat):Prop where
 lo:1<=t
 hi:t<=18
 go:∀j,1<=j->j<t->goM x j=true
def IA(x:BB)(t:Nat):Lv×Lo:=([pA 100,mkS 158 (lA x t).length,pA 157,.int .u8 (t:Int)],some (cM x)::(OC++[mo (DD (lA x t)) 94 2]))
def RA(x:BB)(e:Exit)(v:Lv)(o:Lo):Prop:=
 (allM x=true/\e = .exit 0/\v=[top,top,mkS 158 (bY x).length]/\o=XN++[mo (DD (bY x)) 94 2])∨
 (allM x=false/\e = .ret/\v=[.slice none 0 0,.bool false,top]/\o=XN)
abbrev yJ(x:BB)(t:Nat)(AB:Lv)(AL:Lo):Prop:=∃a':{t:Nat // AGL x t},18-a'.1<18-t/\Wk 100 (100+58) AB AL (IA x a'.1).1 (IA x a'.1).2/\∀e v o,RA x e v o->RA x e v o
abbrev AJK(x:BB)(e:Exit)(AB:Lv)(AL:Lo):Prop:=∃v o,Wk 100 (100+58) AB AL v o/\RA x e v o
theorem ALn(x:BB){rest:Lo}(i:Nat)(o:AJ)(h:(some (cM x)::OC)[i]?=some (some o)):(some (cM x)::(OC++rest))[i]?=some (some o)/\C8 (100+58) (some o)=true:=by
 refine⟨?_,lD (n0:=100+58) (l:=some (cM x)::OC) rfl i o h⟩
 rw[←List.cons_append,List.getElem?_append_left (List.getElem?_eq_some_iff.1 h).1];exact h
theorem ABD(x:BB){AB:Lv}{ob:Option AJ}{n0:Nat}:Wk 100 n0 AB (some (cM x)::(OC++[ob])) AB (XN++[ob]):=by
 have e:XN=(some (cM x)::OC).map fun _=>none:=rfl
 have:∀l:Lo,D7 (l++[ob]) ((l.map fun _=>none)++[ob]):=by
  intro l
  induction l with
  |nil=>exact .cons (.refl _) .nil
  |cons a l ih=>exact .cons (.none _) ih
 rw[e]
 exact CQ (BR.refl _) (this (some (cM x)::OC))
theorem fin{x:BB}{t:Nat}(inv:AGL x t)(ht:t<=17)(ha:x.a0<256){s:ByteArray}(hs:s.data.toList=IX x t)(hi:isM x t=true):
  AKE (real Tryz.prog) MAr x (lA x t).length (mo (DD (lA x t)) 94 2) (t:Int) s (nD/\yJ x t [pA 100,mkS 158 (lA x t).length,pA 157,.int .u8 ((t:Int)+1)] (some (cM x)::(OC++[mo (DD (lA x t)) 94 2])))
   (nD/\AJK x .ret [.slice none 0 0,.bool false,mkS 158 (lA x t).length] (some (cM x)::(OC++[mo (DD (lA x t)) 94 2])))
   (fun vs' k'=>nD/\yJ x t [pA 100,.slice (some ⟨160,0,none⟩) k' k',pA 157,.int .u8 ((t:Int)+1)] (some (cM x)::(OC++[none,some (.cells [.int .u8 (t:Int),.string s] 94 2 false true),some (.cells vs' 94 2 true true)]))):=by
 obtain⟨lo,hi18,hgo⟩:=inv
 have hT:JU=140737488355328:=rfl
 have hlen:(lA x t).length<=17:=Nat.le_trans (VH _ _) (by omega)
 have hnext:goM x t=true->AGL x (t+1):=fun h=>⟨by omega,by omega,fun j h1 h2=>by
  rcases Nat.lt_or_ge j t with h3|h3
  ·exact hgo j h1 h3
  ·rw[show j=t by omega];exact h⟩
 have hsn:lA x (t+1)=lA x t++OQ t (IX x t):=by
  unfold lA
  have:=OZ (f:=IX x) (t-1) 0
  rw[show t-1+1=t by omega,Nat.zero_add,show t-1+1=t by omega]at this
  rw[show t+1-1=t by omega];exact this
 have hc:(t:Int)+1=((t+1:Nat):Int):=by omega
 have skip:s.data.toList=[]->nD/\yJ x t [pA 100,mkS 158 (lA x t).length,pA 157,.int .u8 ((t:Int)+1)] (some (cM x)::(OC++[mo (DD (lA x t)) 94 2])):=fun h=>by
  have hp:IX x t=[]:=by rw[←hs];exact h
  have hg:goM x t=true:=by unfold goM;rw[hi,hp];rfl
  refine⟨rfl,⟨t+1,hnext hg⟩,by show 18-(t+1)<18-t;omega,?_,fun _ _ _ h=>h⟩
  have e:lA x (t+1)=lA x t:=by rw[hsn,hp];simp[OQ]
  show Wk 100 (100+58) _ _ [pA 100,mkS 158 (lA x (t+1)).length,pA 157,.int .u8 ((t+1:Nat):Int)] (some (cM x)::(OC++[mo (DD (lA x (t+1))) 94 2]))
  rw[e,hc];exact Wk.refl _ _ _ _
 have no:goM x t=false->nD/\AJK x .ret [.slice none 0 0,.bool false,mkS 158 (lA x t).length] (some (cM x)::(OC++[mo (DD (lA x t)) 94 2])):=fun h=>by
  refine⟨rfl,[.slice none 0 0,.bool false,top],XN,?_,.inr ⟨?_,rfl,rfl,rfl⟩⟩
  ·refine(CQ (BR.cons (EI.refl _) (BR.cons (EI.refl _) (BR.cons (EI.top _) .nil))) (D7.refl _)).trans ((ABD x).trans (I8 (k0:=58) (pre:=XN) rfl rfl (fun i o h=>?_)))
   have:XN[i]?=some none∨XN[i]?=none:=by
    unfold XN;rw[List.getElem?_replicate];split
    ·exact .inl rfl
    ·exact .inr rfl
   rcases this with e|e<;>rw[e]at h<;>cases h
  ·cases ha:allM x with
   |false=>rfl
   |true=>rw[pE.1 ha t lo ht]at h;cases h
 have app:s.data.toList≠[]->hasB x.a0 t=true->(real Tryz.prog).base true (lA x t).length (lA x t).length (mo (DD (lA x t)) 94 2) 94 2 fun vs=>(real Tryz.prog).appX (lA x t).length vs 1 [.int .u8 (t:Int),.string s] 2 24
   (fun vs' k'=>nD/\yJ x t [pA 100,.slice (some ⟨160,0,none⟩) k' k',pA 157,.int .u8 ((t:Int)+1)] (some (cM x)::(OC++[none,some (.cells [.int .u8 (t:Int),.string s] 94 2 false true),some (.cells vs' 94 2 true true)]))):=fun h1 h2=>by
  have hp:IX x t≠[]:=by rw[←hs];exact h1
  have hg:goM x t=true:=by unfold goM;rw[hi,h2];simp
  have e:lA x (t+1)=lA x t++[⟨t,s⟩]:=by
   rw[hsn];unfold OQ;rw[if_neg hp,←hs,bytes_eta]
  have ec:DD (lA x (t+1))=DD (lA x t)++[.int .u8 (t:Int),.string s]:=by rw[e,VO];rfl
  have el:(lA x (t+1)).length=(lA x t).length+1:=by rw[e];simp
  refine EM (VP _) (by omega) (I1 (by omega) rfl rfl (by omega) (by omega) ⟨rfl,⟨t+1,hnext hg⟩,by show 18-(t+1)<18-t;omega,?_,fun _ _ _ h=>h⟩)
  show Wk 100 (100+58) _ _ ([pA 100]++mkS (100+58) (lA x (t+1)).length::[pA 157,.int .u8 ((t+1:Nat):Int)]) ((some (cM x)::OC)++[mo (DD (lA x (t+1))) 94 2])
  rw[M9 (by rw[ec];simp),ec,el,hc]
  exact KN (k0:=58) (j:=60) (va:=[pA 100]) (by omega) rfl (by rw[←ec];exact KE _) rfl rfl (by omega) rfl (fun i o h=>ALn x i o h)
 have nogo:s.data.toList≠[]->hasB x.a0 t=false->goM x t=false:=fun h1 h2=>by
  have hp:IX x t≠[]:=by rw[←hs];exact h1
  unfold goM;rw[hi,h2];simpa using hp
 refine EH (fun h=>⟨x.a0,t,rfl,rfl,ha,by omega,fun h2=>EH (fun _=>app h h2) (fun h3=>absurd h3 h),fun h2=>no (nogo h h2)⟩) (fun h=>EH (fun h3=>absurd h h3) (fun _=>skip h))
theorem AKo:nT (ev Tryz.prog (fun _=>none) 2000 (.call 11 [] (AJ9 (VT.map fun n:Nat => .int .u32 (n:Int)))))=true:=by kernel_rfl
theorem AGU(B:Base)(H:Heap):BP Tryz.prog 100 B 11 [] H (.returned (.bool true)) H:=AFW okp AJ7 jV AKo B H
abbrev LQt:=Code->Nat->Lv->Lo->Prop->Prop->Prop
def RQ{α:Type}(l m:List α)(e:Exit)(v:Lv)(o:Lo):Prop:=(l=m/\e = .exit 0/\v=[top]/\o=[])∨(l≠m/\e = .ret/\v=[.bool false]/\o=[])
abbrev MEq:=Lv->Lv->Prop->Prop->Prop
def sEq(M:MEq):Lv->(Value->Prop)->Prop
 | [.iface t (.agg ⟨a⟩),.iface t' (.agg ⟨b⟩)],K=>match Nat.beq t mkD&&Nat.beq t' mkD with
  |true=>M a b (K (.bool true)) (K (.bool false))
  |false=>False
 |_,_=>False
def AGM{α:Type}(c:α->Lv):MEq:=fun a b A E=>∃l m:List α,a=rowsOf c l/\b=rowsOf c m/\l.length<1000000000/\(l=m->A)/\(l≠m->E)
theorem AJV{α:Type}{c:α->Lv}{f:FuncId}(h:∀l m:List α,l.length<1000000000->∃b:Bool,(b=true↔l=m)/\∀B H,BP Tryz.prog 100 B f [dsl (rowsOf c l),dsl (rowsOf c m)] H (.returned (.bool b)) H):EW Tryz.prog 100 f (sEq (AGM c)):=by
 intro args K hs
 unfold sEq at hs
 split at hs<;>try exact hs.elim
 rename_i t a t' b
 split at hs<;>try exact hs.elim
 rename_i ht
 simp only[Bool.and_eq_true]at ht
 obtain rfl:=Nat.eq_of_beq_eq_true ht.1
 obtain rfl:=Nat.eq_of_beq_eq_true ht.2
 obtain⟨l,m,rfl,rfl,hl,hA,hE⟩:=hs
 obtain⟨q,h1,h2⟩:=h l m hl
 refine⟨.bool q,h2,?_⟩
 cases q with
 |true=>exact hA (h1.1 rfl)
 |false=>exact hE (fun h=>by have:=h1.2 h;cases this)
structure MSs where
 s0:MSm
 s1:MSm
 s2:MSm
 s3:MSm
 s4:MSm
 s5:MSm
 s6:MSm
 s7:MSm
def puR(M:MSs)(ME:MEq):PuL:=[(41,sEq ME),(42,sSm M.s0),(43,sSm M.s1),(44,sSm M.s2),(45,sSm M.s3),(46,sSm M.s4),(47,sSm M.s5),(48,sSm M.s6),(49,sSm M.s7)]
def ACn(N:Nd)(M:MSs)(ME:MEq)(x y:BB)(K:Value->Prop):Prop:=wpe Tryz.prog N (AU Z0 Zp [] [] (puR M ME) []) 300 (.call 22 [JO x,JO y] h0) (II K)
theorem AAK(N:Nd)(M:MSs)(ME:MEq)(x y:BB)(K:Value->Prop):ACn N M ME x y K=N.cmp .eql .u8 (x.a0:Int) .u8 (y.a0:Int) (N.cmp .eql .u32 (x.a1:Int) .u32 (y.a1:Int) (N.cmp .eql .i64 x.a2 .i64 y.a2 (N.cmp .eql .i64 x.a3 .i64 y.a3 (N.cmp .eql .i64 x.a4 .i64 y.a4 (N.cmp .eql .i64 x.a5 .i64 y.a5 (N.cmp .eql .i64 x.a6 .i64 y.a6 (N.cmp .eql .u64 (x.a7:Int) .u64 (y.a7:Int) (N.cmp .eql .u64 (x.a8:Int) .u64 (y.a8:Int) (N.scmp .eql x.a9 y.a9 (ME (rowsOf CS x.a10) (rowsOf CS y.a10) (M.s0 (QM x.n) (QM y.n) (M.s1 (LC x.f) (LC y.f) (M.s2 (LP x.t) (LP y.t) (M.s3 (LB x.e) (LB y.e) (M.s4 (LA x.b) (LA y.b) (M.s5 (LH x.g) (LH y.g) (M.s6 (LM x.m) (LM y.m) (M.s7 (QN x.r) (QN y.r) (K (.bool true)) (K (.bool false))) (K (.bool false))) (K (.bool false))) (K (.bool false))) (K (.bool false))) (K (.bool false))) (K (.bool false))) (K (.bool false))) (K (.bool false))) (K (.bool false))) (K (.bool false))) (K (.bool false))) (K (.bool false))) (K (.bool false))) (K (.bool false))) (K (.bool false))) (K (.bool false))) (K (.bool false))) (K (.bool false)):=by kernel_rfl
theorem AHM{x y:BB}(ha0:x.a0=y.a0)(ha1:x.a1=y.a1)(ha2:x.a2=y.a2)(ha3:x.a3=y.a3)(ha4:x.a4=y.a4)(ha5:x.a5=y.a5)(ha6:x.a6=y.a6)(ha7:x.a7=y.a7)(ha8:x.a8=y.a8)(ha9:x.a9=y.a9)(h10:x.a10=y.a10)(hn:x.n=y.n)(hf:x.f=y.f)(ht:x.t=y.t)(he:x.e=y.e)(hb:x.b=y.b)(hg:x.g=y.g)(hm:x.m=y.m)(hr:x.r=y.r):x=y:=by
 cases x;cases y
 simp_all
def MS1{α:Type}(v:α->Value)(fit:α->Prop):MSm:=fun a b A E=>∃x y:α,a=v x/\b=v y/\fit x/\True/\(x=y->A)/\(¬x=y->E)
theorem ZH{α:Type}{v:α->Value}{fit:α->Prop}{f:FuncId}(h:∀x y,fit x->∃b:Bool,(b=true↔x=y)/\∀B H,BP Tryz.prog 100 B f [v x,v y] H (.returned (.bool b)) H):EW Tryz.prog 100 f (sSm (MS1 v fit)):=by
 intro args K hs
 unfold sSm at hs
 split at hs<;>try exact hs.elim
 rename_i a b
 obtain⟨x,y,ha,hb,hx,_,hA,hE⟩:=hs
 obtain⟨t,ht,hc⟩:=h x y hx
 refine⟨.bool t,fun B H=>uT (.cons (kI a) (.cons (kI b) .nil)) (by rw[ha,hb];exact hc B H),?_⟩
 cases t with
 |true=>exact hA (ht.1 rfl)
 |false=>exact hE (fun h=>by have:=ht.2 h;cases this)
def AIJ:MSs:=⟨MS1 QM O0,MS1 LC XE,MS1 LP MU,MS1 LB MP,MS1 LA MM,MS1 LH MQ,MS1 LM XF,MS1 QN bB⟩
theorem AHZ(x y:BB)(hx:okP x):Is (ACn (real Tryz.prog) AIJ (AGM CS) x y (fun v=>∃b:Bool,v = .bool b/\(b=true↔x=y))):=by
 refine⟨?_⟩
 rw[AAK]
 exact CG (fun e_a0=>CG (fun e_a1=>HY (fun e_a2=>HY (fun e_a3=>HY (fun e_a4=>HY (fun e_a5=>HY (fun e_a6=>CG (fun e_a7=>CG (fun e_a8=>YW (fun e_a9=>⟨x.a10,y.a10,rfl,rfl,by have:=hx.w;omega,fun e_a10=>⟨x.n,y.n,rfl,rfl,hx.n.1,trivial,fun e_n=>⟨x.f,y.f,rfl,rfl,hx.f.1,trivial,fun e_f=>⟨x.t,y.t,rfl,rfl,hx.t.1,trivial,fun e_t=>⟨x.e,y.e,rfl,rfl,hx.e.1,trivial,fun e_e=>⟨x.b,y.b,rfl,rfl,hx.b.1,trivial,fun e_b=>⟨x.g,y.g,rfl,rfl,hx.g.1,trivial,fun e_g=>⟨x.m,y.m,rfl,rfl,hx.m.1,trivial,fun e_m=>⟨x.r,y.r,rfl,rfl,hx.r.1,trivial,fun e_r=>⟨true,rfl,fun _=>AHM e_a0 e_a1 e_a2 e_a3 e_a4 e_a5 e_a6 e_a7 e_a8 (NN e_a9) e_a10 e_n e_f e_t e_e e_b e_g e_m e_r,fun _=>rfl⟩,fun h=>⟨false,rfl,DF (fun z:BB=>z.r) h⟩⟩,fun h=>⟨false,rfl,DF (fun z:BB=>z.m) h⟩⟩,fun h=>⟨false,rfl,DF (fun z:BB=>z.g) h⟩⟩,fun h=>⟨false,rfl,DF (fun z:BB=>z.b) h⟩⟩,fun h=>⟨false,rfl,DF (fun z:BB=>z.e) h⟩⟩,fun h=>⟨false,rfl,DF (fun z:BB=>z.t) h⟩⟩,fun h=>⟨false,rfl,DF (fun z:BB=>z.f) h⟩⟩,fun h=>⟨false,rfl,DF (fun z:BB=>z.n) h⟩⟩,fun h=>⟨false,rfl,DF (fun z:BB=>z.a10) h⟩⟩) (fun h=>⟨false,rfl,DF (fun z:BB=>z.a9) (fun e=>h (by rw[show x.a9=y.a9 from e]))⟩)) (fun h=>⟨false,rfl,DF (fun z:BB=>z.a8) h⟩)) (fun h=>⟨false,rfl,DF (fun z:BB=>z.a7) h⟩)) (fun h=>⟨false,rfl,DF (fun z:BB=>z.a6) h⟩)) (fun h=>⟨false,rfl,DF (fun z:BB=>z.a5) h⟩)) (fun h=>⟨false,rfl,DF (fun z:BB=>z.a4) h⟩)) (fun h=>⟨false,rfl,DF (fun z:BB=>z.a3) h⟩)) (fun h=>⟨false,rfl,DF (fun z:BB=>z.a2) h⟩)) (fun h=>⟨false,rfl,DF (fun z:BB=>z.a1) h⟩)) (fun h=>⟨false,rfl,DF (fun z:BB=>z.a0) h⟩)
end
end Go.Proofs.Ob
namespace Go.Tlv
open Go Go.Abs
structure Cd{β:Type}(get:List UInt8->Option β)(put:β->List UInt8)(good:β->Prop):Prop where
 back:∀a,good a->get (put a)=some a
 ok:∀s a,get s=some a->good a/\put a=s
theorem Cd.inj{β:Type}{get:List UInt8->Option β}{put:β->List UInt8}{good:β->Prop}(C:Cd get put good){a b:β}(ha:good a)(hb:good b)(h:put a=put b):a=b:=by
 have h1:=C.back a ha
 rw[h,C.back b hb]at h1
 exact(Option.some.inj h1).symm
theorem cdI:Cd (AV 2147483647) EF (gdI 2147483647):=⟨(BD 2147483647 (by decide)).back,(BD 2147483647 (by decide)).ok⟩
theorem cdN:Cd (DN 18446744073709551615) gQ (gdN 18446744073709551615):=⟨(KT 18446744073709551615 (by decide)).back,(KT 18446744073709551615 (by decide)).ok⟩
def getD(s:List UInt8):Option ByteArray:=some (bytesOf s)
theorem cdD:Cd getD sM (fun _=>True):=⟨fun a _=>by unfold getD sM;rw[bytes_eta],fun s a h=>by
 simp only[getD,Option.some.injEq]at h;subst h;exact⟨trivial,rfl⟩⟩
theorem cdW:Cd (D9 ET 128) (EZ OB) (gdL XL 128) where
  back:=fun l ⟨h1,h2⟩=>by
    have hs:∀s∈l.map OB,s.data.toList.length<=65535:=fun s hs=>by
      obtain⟨a,ha,rfl⟩:=List.mem_map.1 hs
      exact Nat.le_trans (U5.len a (h2 a ha)) (by omega)
    unfold D9 EZ QB
    rw[if_pos (TA hs),show vQ (l.map OB)=gF (l.map OB)from rfl,YT _ 128 0 hs (by simp;exact h1),if_pos rfl]
    exact dW fun b hb=>U5.back b (h2 b hb)
  ok := fun s l hs=>by
    unfold D9 at hs
    split at hs
    · rename_i h0
      have hd:DK 128 0 s=(0,(DK 128 0 s).2):=Prod.ext h0 rfl
      obtain⟨k1,k2,k3⟩:=UQ s.length s 128 0 _ (Nat.le_refl _) hd
      obtain⟨g1,g2⟩:=mX hs
      have g3:=g2 OB fun a b hab=>NN (U5.ok _ _ hab).2
      refine⟨⟨?_,dV (fun a b hab=>(U5.ok _ _ hab).1) hs⟩,?_⟩
      · rw[g1]
        rcases k2 with k2|k2
        · omega
        · rw[k2];simp
      · unfold EZ QB
        rw[g3,if_pos (TA k3)];exact k1
    · cases hs
theorem cdO{α:Type}{step:α->At->Option α}{zero:α}{may:α->Bool}{atts:α->List At}{good:α->Prop}(hm:∀x,good x->may x=true)(hb:∀x,good x->rdE step zero (encS (atts x))=(0,x))(ho:∀s x,rdE step zero s=(0,x)->good x/\encS (atts x)=s):
  Cd (rdO step zero) (fun x=>if may x=true then encS (atts x)else[]) good where
 back:=fun a ha=>by unfold rdO;rw[if_pos (hm a ha),hb a ha];rfl
 ok:=fun s a h=>by
  unfold rdO at h
  split at h
  ·rename_i h0
   simp only[Option.some.injEq]at h
   obtain⟨h1,h2⟩:=ho s a (Prod.ext h0 h)
   exact⟨h1,by rw[if_pos (hm a h1)];exact h2⟩
  ·cases h
theorem lN:Cd (rdO AY HZ) (fun x=>if O4 x=true then encS (MC x)else[]) NZ:=cdO (fun _ h=>Q6 h) (fun _ h=>nQ h) (fun _ _ h=>ABa h)
theorem lK:Cd (rdO BC FH) (fun x=>if M5 x=true then encS (JZ x)else[]) KX:=cdO (fun _ h=>PL h) (fun _ h=>gM h) (fun _ _ h=>wF h)
theorem aZ:Cd (rdO BA FK) (fun x=>if M8 x=true then encS (J4 x)else[]) K3:=cdO (fun _ h=>PO h) (fun _ h=>gT h) (fun _ _ h=>wJ h)
theorem aX:Cd (rdO AP FE) (fun x=>if M0 x=true then encS (JY x)else[]) KW:=cdO (fun _ h=>PK h) (fun _ h=>gL h) (fun _ _ h=>wE h)
theorem aW:Cd (rdO stepBlock FD) (fun x=>if MZ x=true then encS (JX x)else[]) KV:=cdO (fun _ h=>PI h) (fun _ h=>gK h) (fun _ _ h=>wD h)
theorem aY:Cd (rdO BF FI) (fun x=>if M6 x=true then encS (J2 x)else[]) KY:=cdO (fun _ h=>PM h) (fun _ h=>gN h) (fun _ _ h=>wH h)
theorem lL:Cd (rdO BL FJ) (fun x=>if M7 x=true then encS (J3 x)else[]) KZ:=cdO (fun _ h=>PN h) (fun _ h=>gP h) (fun _ _ h=>wI h)
theorem uU:Cd (rdO CB GU) (fun x=>if O5 x=true then encS (MF x)else[]) N7:=cdO (fun _ h=>Q7 h) (fun _ h=>nR h) (fun _ _ h=>ABb h)
def fld(x:BB)(t:Nat)(s:List UInt8):Option BB:=match t with
 | 1=>(AV 2147483647 s).map fun v=>{x with a2:=v}
 | 2=>(AV 2147483647 s).map fun v=>{x with a3:=v}
 | 3=>(AV 2147483647 s).map fun v=>{x with a4:=v}
 | 4=>(AV 2147483647 s).map fun v=>{x with a5:=v}
 | 5=>(AV 2147483647 s).map fun v=>{x with a6:=v}
 | 6=>(DN 18446744073709551615 s).map fun v=>{x with a7:=v}
 | 7=>(DN 18446744073709551615 s).map fun v=>{x with a8:=v}
 | 8=>(getD s).map fun v=>{x with a9:=v}
 | 9=>(D9 ET 128 s).map fun v=>{x with a10:=v}
 | 10=>(rdO AY HZ s).map fun v=>{x with n:=v}
 | 11=>(rdO BC FH s).map fun v=>{x with f:=v}
 | 12=>(rdO BA FK s).map fun v=>{x with t:=v}
 | 13=>(rdO AP FE s).map fun v=>{x with e:=v}
 | 14=>(rdO stepBlock FD s).map fun v=>{x with b:=v}
 | 15=>(rdO BF FI s).map fun v=>{x with g:=v}
 | 16=>(rdO BL FJ s).map fun v=>{x with m:=v}
 | 17=>(rdO CB GU s).map fun v=>{x with r:=v}
 |_=>none
structure dN(x:BB):Prop where
 a2:(gdI 2147483647) x.a2
 a3:(gdI 2147483647) x.a3
 a4:(gdI 2147483647) x.a4
 a5:(gdI 2147483647) x.a5
 a6:(gdI 2147483647) x.a6
 a7:(gdN 18446744073709551615) x.a7
 a8:(gdN 18446744073709551615) x.a8
 a9:(fun _=>True) x.a9
 a10:(gdL XL 128) x.a10
 n:(NZ) x.n
 f:(KX) x.f
 t:(K3) x.t
 e:(KW) x.e
 b:(KV) x.b
 g:(KY) x.g
 m:(KZ) x.m
 r:(N7) x.r
theorem AG0{x y:BB}{t:Nat}{s:List UInt8}(hx:dN x)(h:fld x t s=some y):dN y/\y.a0=x.a0/\y.a1=x.a1/\(1<=t/\t<=17)/\IX y t=s/\∀j,j≠t->IX y j=IX x j:=by
 unfold fld at h
 split at h
 ·obtain⟨v,hv,rfl⟩:=Option.map_eq_some_iff.1 h
  obtain⟨g1,g2⟩:=cdI.ok _ _ hv
  refine⟨⟨g1,hx.a3,hx.a4,hx.a5,hx.a6,hx.a7,hx.a8,hx.a9,hx.a10,hx.n,hx.f,hx.t,hx.e,hx.b,hx.g,hx.m,hx.r⟩,rfl,rfl,by omega,g2,fun j hj=>?_⟩
  unfold IX;split<;>first|rfl|exact absurd rfl hj
 ·obtain⟨v,hv,rfl⟩:=Option.map_eq_some_iff.1 h
  obtain⟨g1,g2⟩:=cdI.ok _ _ hv
  refine⟨⟨hx.a2,g1,hx.a4,hx.a5,hx.a6,hx.a7,hx.a8,hx.a9,hx.a10,hx.n,hx.f,hx.t,hx.e,hx.b,hx.g,hx.m,hx.r⟩,rfl,rfl,by omega,g2,fun j hj=>?_⟩
  unfold IX;split<;>first|rfl|exact absurd rfl hj
 ·obtain⟨v,hv,rfl⟩:=Option.map_eq_some_iff.1 h
  obtain⟨g1,g2⟩:=cdI.ok _ _ hv
  refine⟨⟨hx.a2,hx.a3,g1,hx.a5,hx.a6,hx.a7,hx.a8,hx.a9,hx.a10,hx.n,hx.f,hx.t,hx.e,hx.b,hx.g,hx.m,hx.r⟩,rfl,rfl,by omega,g2,fun j hj=>?_⟩
  unfold IX;split<;>first|rfl|exact absurd rfl hj
 ·obtain⟨v,hv,rfl⟩:=Option.map_eq_some_iff.1 h
  obtain⟨g1,g2⟩:=cdI.ok _ _ hv
  refine⟨⟨hx.a2,hx.a3,hx.a4,g1,hx.a6,hx.a7,hx.a8,hx.a9,hx.a10,hx.n,hx.f,hx.t,hx.e,hx.b,hx.g,hx.m,hx.r⟩,rfl,rfl,by omega,g2,fun j hj=>?_⟩
  unfold IX;split<;>first|rfl|exact absurd rfl hj
 ·obtain⟨v,hv,rfl⟩:=Option.map_eq_some_iff.1 h
  obtain⟨g1,g2⟩:=cdI.ok _ _ hv
  refine⟨⟨hx.a2,hx.a3,hx.a4,hx.a5,g1,hx.a7,hx.a8,hx.a9,hx.a10,hx.n,hx.f,hx.t,hx.e,hx.b,hx.g,hx.m,hx.r⟩,rfl,rfl,by omega,g2,fun j hj=>?_⟩
  unfold IX;split<;>first|rfl|exact absurd rfl hj
 ·obtain⟨v,hv,rfl⟩:=Option.map_eq_some_iff.1 h
  obtain⟨g1,g2⟩:=cdN.ok _ _ hv
  refine⟨⟨hx.a2,hx.a3,hx.a4,hx.a5,hx.a6,g1,hx.a8,hx.a9,hx.a10,hx.n,hx.f,hx.t,hx.e,hx.b,hx.g,hx.m,hx.r⟩,rfl,rfl,by omega,g2,fun j hj=>?_⟩
  unfold IX;split<;>first|rfl|exact absurd rfl hj
 ·obtain⟨v,hv,rfl⟩:=Option.map_eq_some_iff.1 h
  obtain⟨g1,g2⟩:=cdN.ok _ _ hv
  refine⟨⟨hx.a2,hx.a3,hx.a4,hx.a5,hx.a6,hx.a7,g1,hx.a9,hx.a10,hx.n,hx.f,hx.t,hx.e,hx.b,hx.g,hx.m,hx.r⟩,rfl,rfl,by omega,g2,fun j hj=>?_⟩
  unfold IX;split<;>first|rfl|exact absurd rfl hj
 ·obtain⟨v,hv,rfl⟩:=Option.map_eq_some_iff.1 h
  obtain⟨g1,g2⟩:=cdD.ok _ _ hv
  refine⟨⟨hx.a2,hx.a3,hx.a4,hx.a5,hx.a6,hx.a7,hx.a8,g1,hx.a10,hx.n,hx.f,hx.t,hx.e,hx.b,hx.g,hx.m,hx.r⟩,rfl,rfl,by omega,g2,fun j hj=>?_⟩
  unfold IX;split<;>first|rfl|exact absurd rfl hj
 ·obtain⟨v,hv,rfl⟩:=Option.map_eq_some_iff.1 h
  obtain⟨g1,g2⟩:=cdW.ok _ _ hv
  refine⟨⟨hx.a2,hx.a3,hx.a4,hx.a5,hx.a6,hx.a7,hx.a8,hx.a9,g1,hx.n,hx.f,hx.t,hx.e,hx.b,hx.g,hx.m,hx.r⟩,rfl,rfl,by omega,g2,fun j hj=>?_⟩
  unfold IX;split<;>first|rfl|exact absurd rfl hj
 ·obtain⟨v,hv,rfl⟩:=Option.map_eq_some_iff.1 h
  obtain⟨g1,g2⟩:=lN.ok _ _ hv
  refine⟨⟨hx.a2,hx.a3,hx.a4,hx.a5,hx.a6,hx.a7,hx.a8,hx.a9,hx.a10,g1,hx.f,hx.t,hx.e,hx.b,hx.g,hx.m,hx.r⟩,rfl,rfl,by omega,g2,fun j hj=>?_⟩
  unfold IX;split<;>first|rfl|exact absurd rfl hj
 ·obtain⟨v,hv,rfl⟩:=Option.map_eq_some_iff.1 h
  obtain⟨g1,g2⟩:=lK.ok _ _ hv
  refine⟨⟨hx.a2,hx.a3,hx.a4,hx.a5,hx.a6,hx.a7,hx.a8,hx.a9,hx.a10,hx.n,g1,hx.t,hx.e,hx.b,hx.g,hx.m,hx.r⟩,rfl,rfl,by omega,g2,fun j hj=>?_⟩
  unfold IX;split<;>first|rfl|exact absurd rfl hj
 ·obtain⟨v,hv,rfl⟩:=Option.map_eq_some_iff.1 h
  obtain⟨g1,g2⟩:=aZ.ok _ _ hv
  refine⟨⟨hx.a2,hx.a3,hx.a4,hx.a5,hx.a6,hx.a7,hx.a8,hx.a9,hx.a10,hx.n,hx.f,g1,hx.e,hx.b,hx.g,hx.m,hx.r⟩,rfl,rfl,by omega,g2,fun j hj=>?_⟩
  unfold IX;split<;>first|rfl|exact absurd rfl hj
 ·obtain⟨v,hv,rfl⟩:=Option.map_eq_some_iff.1 h
  obtain⟨g1,g2⟩:=aX.ok _ _ hv
  refine⟨⟨hx.a2,hx.a3,hx.a4,hx.a5,hx.a6,hx.a7,hx.a8,hx.a9,hx.a10,hx.n,hx.f,hx.t,g1,hx.b,hx.g,hx.m,hx.r⟩,rfl,rfl,by omega,g2,fun j hj=>?_⟩
  unfold IX;split<;>first|rfl|exact absurd rfl hj
 ·obtain⟨v,hv,rfl⟩:=Option.map_eq_some_iff.1 h
  obtain⟨g1,g2⟩:=aW.ok _ _ hv
  refine⟨⟨hx.a2,hx.a3,hx.a4,hx.a5,hx.a6,hx.a7,hx.a8,hx.a9,hx.a10,hx.n,hx.f,hx.t,hx.e,g1,hx.g,hx.m,hx.r⟩,rfl,rfl,by omega,g2,fun j hj=>?_⟩
  unfold IX;split<;>first|rfl|exact absurd rfl hj
 ·obtain⟨v,hv,rfl⟩:=Option.map_eq_some_iff.1 h
  obtain⟨g1,g2⟩:=aY.ok _ _ hv
  refine⟨⟨hx.a2,hx.a3,hx.a4,hx.a5,hx.a6,hx.a7,hx.a8,hx.a9,hx.a10,hx.n,hx.f,hx.t,hx.e,hx.b,g1,hx.m,hx.r⟩,rfl,rfl,by omega,g2,fun j hj=>?_⟩
  unfold IX;split<;>first|rfl|exact absurd rfl hj
 ·obtain⟨v,hv,rfl⟩:=Option.map_eq_some_iff.1 h
  obtain⟨g1,g2⟩:=lL.ok _ _ hv
  refine⟨⟨hx.a2,hx.a3,hx.a4,hx.a5,hx.a6,hx.a7,hx.a8,hx.a9,hx.a10,hx.n,hx.f,hx.t,hx.e,hx.b,hx.g,g1,hx.r⟩,rfl,rfl,by omega,g2,fun j hj=>?_⟩
  unfold IX;split<;>first|rfl|exact absurd rfl hj
 ·obtain⟨v,hv,rfl⟩:=Option.map_eq_some_iff.1 h
  obtain⟨g1,g2⟩:=uU.ok _ _ hv
  refine⟨⟨hx.a2,hx.a3,hx.a4,hx.a5,hx.a6,hx.a7,hx.a8,hx.a9,hx.a10,hx.n,hx.f,hx.t,hx.e,hx.b,hx.g,hx.m,g1⟩,rfl,rfl,by omega,g2,fun j hj=>?_⟩
  unfold IX;split<;>first|rfl|exact absurd rfl hj
 ·cases h
theorem ACi{x y:BB}(hx:dN x){t:Nat}(h1:1<=t)(h2:t<=17):∃y',fld y t (IX x t)=some y':=by
 rcases t with _|_|_|_|_|_|_|_|_|_|_|_|_|_|_|_|_|_|t
 ·omega
 ·exact⟨_,congrArg (Option.map _) (cdI.back x.a2 hx.a2)⟩
 ·exact⟨_,congrArg (Option.map _) (cdI.back x.a3 hx.a3)⟩
 ·exact⟨_,congrArg (Option.map _) (cdI.back x.a4 hx.a4)⟩
 ·exact⟨_,congrArg (Option.map _) (cdI.back x.a5 hx.a5)⟩
 ·exact⟨_,congrArg (Option.map _) (cdI.back x.a6 hx.a6)⟩
 ·exact⟨_,congrArg (Option.map _) (cdN.back x.a7 hx.a7)⟩
 ·exact⟨_,congrArg (Option.map _) (cdN.back x.a8 hx.a8)⟩
 ·exact⟨_,rfl⟩
 ·exact⟨_,congrArg (Option.map _) (cdW.back x.a10 hx.a10)⟩
 ·exact⟨_,congrArg (Option.map _) (lN.back x.n hx.n)⟩
 ·exact⟨_,congrArg (Option.map _) (lK.back x.f hx.f)⟩
 ·exact⟨_,congrArg (Option.map _) (aZ.back x.t hx.t)⟩
 ·exact⟨_,congrArg (Option.map _) (aX.back x.e hx.e)⟩
 ·exact⟨_,congrArg (Option.map _) (aW.back x.b hx.b)⟩
 ·exact⟨_,congrArg (Option.map _) (aY.back x.g hx.g)⟩
 ·exact⟨_,congrArg (Option.map _) (lL.back x.m hx.m)⟩
 ·exact⟨_,congrArg (Option.map _) (uU.back x.r hx.r)⟩
 ·omega
theorem AFI{x y:BB}(hx:dN x)(hy:dN y)(h0:x.a0=y.a0)(h1:x.a1=y.a1)(h:∀k,1<=k->k<=17->IX x k=IX y k):x=y:=by
 have e1:x.a2=y.a2:=cdI.inj hx.a2 hy.a2 (h 1 (by omega) (by omega))
 have e2:x.a3=y.a3:=cdI.inj hx.a3 hy.a3 (h 2 (by omega) (by omega))
 have e3:x.a4=y.a4:=cdI.inj hx.a4 hy.a4 (h 3 (by omega) (by omega))
 have e4:x.a5=y.a5:=cdI.inj hx.a5 hy.a5 (h 4 (by omega) (by omega))
 have e5:x.a6=y.a6:=cdI.inj hx.a6 hy.a6 (h 5 (by omega) (by omega))
 have e6:x.a7=y.a7:=cdN.inj hx.a7 hy.a7 (h 6 (by omega) (by omega))
 have e7:x.a8=y.a8:=cdN.inj hx.a8 hy.a8 (h 7 (by omega) (by omega))
 have e8:x.a9=y.a9:=cdD.inj hx.a9 hy.a9 (h 8 (by omega) (by omega))
 have e9:x.a10=y.a10:=cdW.inj hx.a10 hy.a10 (h 9 (by omega) (by omega))
 have e10:x.n=y.n:=lN.inj hx.n hy.n (h 10 (by omega) (by omega))
 have e11:x.f=y.f:=lK.inj hx.f hy.f (h 11 (by omega) (by omega))
 have e12:x.t=y.t:=aZ.inj hx.t hy.t (h 12 (by omega) (by omega))
 have e13:x.e=y.e:=aX.inj hx.e hy.e (h 13 (by omega) (by omega))
 have e14:x.b=y.b:=aW.inj hx.b hy.b (h 14 (by omega) (by omega))
 have e15:x.g=y.g:=aY.inj hx.g hy.g (h 15 (by omega) (by omega))
 have e16:x.m=y.m:=lL.inj hx.m hy.m (h 16 (by omega) (by omega))
 have e17:x.r=y.r:=uU.inj hx.r hy.r (h 17 (by omega) (by omega))
 cases x;cases y
 simp_all
def G5(kd xid:Nat):BB:={ZT with a0:=kd,a1:=xid}
theorem Y2(kd xid:Nat)(k:Nat):IX (G5 kd xid) k=[]:=by
 unfold IX
 split
 ·exact EA
 ·exact EA
 ·exact EA
 ·exact EA
 ·exact EA
 ·exact EA
 ·exact EA
 ·exact rfl
 ·exact rfl
 ·show(if O4 HZ=true then encS (MC HZ)else[])=[]
  rw[if_pos (Q6 X7.z),SL];exact X7.put_zero
 ·show(if M5 FH=true then encS (JZ FH)else[])=[]
  rw[if_pos (PL TS.z),QY];exact TS.put_zero
 ·show(if M8 FK=true then encS (J4 FK)else[])=[]
  rw[if_pos (PO TV.z),Q3];exact TV.put_zero
 ·show(if M0 FE=true then encS (JY FE)else[])=[]
  rw[if_pos (PK TQ.z),QX];exact TQ.put_zero
 ·show(if MZ FD=true then encS (JX FD)else[])=[]
  rw[if_pos (PI TP.z),QW];exact TP.put_zero
 ·show(if M6 FI=true then encS (J2 FI)else[])=[]
  rw[if_pos (PM TT.z),QZ];exact TT.put_zero
 ·show(if M7 FJ=true then encS (J3 FJ)else[])=[]
  rw[if_pos (PN TU.z),Q0];exact TU.put_zero
 ·show(if O5 GU=true then encS (MF GU)else[])=[]
  rw[if_pos (Q7 X8.z),SN];exact X8.put_zero
 ·rfl
theorem vG(kd xid:Nat):dN (G5 kd xid) where
 a2:=⟨Int.le_refl 0,by show(0:Int)<=2147483647;omega⟩
 a3:=⟨Int.le_refl 0,by show(0:Int)<=2147483647;omega⟩
 a4:=⟨Int.le_refl 0,by show(0:Int)<=2147483647;omega⟩
 a5:=⟨Int.le_refl 0,by show(0:Int)<=2147483647;omega⟩
 a6:=⟨Int.le_refl 0,by show(0:Int)<=2147483647;omega⟩
 a7:=Nat.zero_le _
 a8:=Nat.zero_le _
 a9:=trivial
 a10:=⟨Nat.zero_le _,fun a h=>by cases h⟩
 n:=X7.z
 f:=TS.z
 t:=TV.z
 e:=TQ.z
 b:=TP.z
 g:=TT.z
 m:=TU.z
 r:=X8.z
def FB(kd:Nat)(x:BB)(a:At):Option BB:=
 if a.v.data.toList.length<=65535 then(if hasB kd a.t=true then fld x a.t a.v.data.toList else if a.v.data.toList=[]/\1<=a.t/\a.t<=17 then some x else none)else none
structure jF(kd xid:Nat)(x:BB):Prop where
 k:x.a0=kd
 q:x.a1=xid
 f:dN x
 no:∀t,hasB kd t=false->IX x t=[]
 len:∀t,(IX x t).length<=65535
theorem AFZ (kd xid:Nat):Sch 17 (FB kd) IX (jF kd xid) (G5 kd xid) where
  no := fun y a h=>by
    unfold FB
    split
    · split
      · cases hf:fld y a.t a.v.data.toList with
        |none=>rfl
        |some z=>
          unfold fld at hf
          split at hf<;>first|omega|cases hf
      · rw[if_neg (by omega)]
    · rfl
  is := fun y a y' hy h=>by
    unfold FB at h
    split at h
    · rename_i hl
      split at h
      · rename_i hh
        obtain⟨g1,g2,g3,_,g4,g5⟩:=AG0 hy.f h
        refine⟨⟨g2.trans hy.k,g3.trans hy.q,g1,fun t ht=>?_,fun t=>?_⟩,g4,g5⟩
        · by_cases e:t=a.t
          · rw[e,hh]at ht;cases ht
          · rw[g5 t e];exact hy.no t ht
        · by_cases e:t=a.t
          · rw[e,g4];exact hl
          · rw[g5 t e];exact hy.len t
      · rename_i hh
        split at h
        · rename_i h0
          simp only[Option.some.injEq]at h;subst h
          have hb:hasB kd a.t=false:=by
            cases hb:hasB kd a.t with
            |false=>rfl
            |true=>exact absurd hb hh
          exact⟨hy,(hy.no _ hb).trans h0.1.symm,fun _ _=>rfl⟩
        · cases h
    · cases h
  back:=fun x y k hx h1 h2=>by
    unfold FB
    rw[if_pos (show(bytesOf (IX x k)).data.toList.length<=65535 from hx.len k)]
    cases hb:hasB kd k with
    |true=>
      rw[if_pos rfl]
      exact ACi hx.f h1 h2
    |false=>
      rw[if_neg (by simp),if_pos ⟨hx.no k hb,h1,h2⟩]
      exact⟨y,rfl⟩
  inj:=fun x y hx hy h=>AFI hx.f hy.f (hx.k.trans hy.k.symm) (hx.q.trans hy.q.symm) h
  z:=⟨rfl,rfl,vG kd xid,fun t _=>Y2 kd xid t,fun t=>by rw[Y2];exact Nat.zero_le _⟩
  z0:=fun k=>Y2 kd xid k
  len:=fun x k hx=>hx.len k
  m:=by omega
theorem ACx(k:Nat):hasB k 0=false:=by
 have h:∀k:Fin 47,hasB k.1 0=false:=by decide
 by_cases hk:k<47
 ·exact h ⟨k,hk⟩
 ·unfold hasB;rw[decide_eq_false hk];rfl
theorem AAO{kd xid:Nat}{x:BB}(h:jF kd xid x):allM x=true:=pE.2 fun t h1 h2=>by
 have hi:isM x t=true:=by
  have f:=h.f
  rcases t with _|_|_|_|_|_|_|_|_|_|_|_|_|_|_|_|_|_|t
  ·omega
  ·exact decide_eq_true (by have:=f.a2;unfold gdI at this;show EL x.a2<=_;unfold EL;omega)
  ·exact decide_eq_true (by have:=f.a3;unfold gdI at this;show EL x.a3<=_;unfold EL;omega)
  ·exact decide_eq_true (by have:=f.a4;unfold gdI at this;show EL x.a4<=_;unfold EL;omega)
  ·exact decide_eq_true (by have:=f.a5;unfold gdI at this;show EL x.a5<=_;unfold EL;omega)
  ·exact decide_eq_true (by have:=f.a6;unfold gdI at this;show EL x.a6<=_;unfold EL;omega)
  ·exact rfl
  ·exact rfl
  ·exact rfl
  ·exact decide_eq_true f.a10.1
  ·exact Q6 f.n
  ·exact PL f.f
  ·exact PO f.t
  ·exact PK f.e
  ·exact PI f.b
  ·exact PM f.g
  ·exact PN f.m
  ·exact Q7 f.r
  ·omega
 unfold goM
 rw[hi,Bool.true_and]
 cases hb:hasB x.a0 t with
 |true=>simp
 |false=>rw[h.no t (by rw[←h.k];exact hb)];rfl
def AGr(x:BB):List UInt8:=[UInt8.ofNat x.a0,UInt8.ofNat (x.a1 / 16777216 % 256),UInt8.ofNat (x.a1 / 65536 % 256),UInt8.ofNat (x.a1 / 256 % 256),UInt8.ofNat (x.a1 % 256)]
def AEB(x:BB):Nat:=if AFr x=true then(if JS 0 (bY x)=0 then(if 16379<(encS (bY x)).length then 5 else 0)else 5)else 3
def AGm(x:BB):List UInt8:=if AEB x=0 then AGr x++encS (bY x)else[]
end Go.Tlv
namespace Go.Proofs.Ob
open Go Go.Abs Go.Tlv
noncomputable section
abbrev ML1:=Value->Prop->Prop->Prop
def sAw:Lv->(Value->Prop)->Prop
 | [],K=>K (.bool true)
 |_,_=>False
theorem ALp:EW Tryz.prog 100 11 sAw:=by
 intro args K h
 unfold sAw at h
 split at h<;>try exact h.elim
 exact⟨_,AGU,h⟩
abbrev ME1:=Value->(ByteArray->Int->Prop)->Prop
def hdB(k z:Nat):List UInt8:=[UInt8.ofNat k,UInt8.ofNat (z / 16777216 % 256),UInt8.ofNat (z / 65536 % 256),UInt8.ofNat (z / 256 % 256),UInt8.ofNat (z % 256)]
theorem ACy(x:BB):AGr x=hdB x.a0 x.a1:=rfl
end
end Go.Proofs.Ob
