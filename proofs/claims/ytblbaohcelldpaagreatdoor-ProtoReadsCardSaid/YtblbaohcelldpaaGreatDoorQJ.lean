/- . -/
import Derived.Test.YtblbaohcelldpaaGreatDoorQF
set_option linter.all false
set_option maxRecDepth 100000
namespace Go.Proofs.Ob
open Go Go.Abs Go.Tlv
noncomputable section
theorem YX{s:ByteArray}{K:ByteArray->Prop}(l h:Nat){i j:Int}(hi:i=l)(hj:j=h)(hl:l<=h)(hh:h<=s.data.toList.length)(hk:K (bytesOf ((s.data.toList.drop l).take (h-l)))):(real Tryz.prog).ssl s (some i) (some j) K:=by
 refine⟨l,h,s.size,?_,hk⟩
 subst hi;subst hj
 simp only[Option.map_some,Option.map_none,U1,bnd]
 rw[show(decide (0<=(h:Int))&&Nat.ble (h:Int).toNat s.size)=true by rw[KR];simp;exact hh]
 simp only[Int.toNat_natCast]
 rw[show(decide (0<=(l:Int))&&Nat.ble l h)=true by simp;exact hl]
 simp only
 rw[show Nat.ble h s.size=true from Nat.ble_eq_true_of_le (by rw[KR];exact hh)]
abbrev LR6:=Code->Nat->Lv->Lo->(Nat->Option AJ->Prop)->(Int->Prop)->Prop
def AGE(L:LR6):LpS:=lpS [2,3,4] fun c n AB obs K=>L c n AB obs (fun k ob=>K (.exit 0) [top,top,mkS 100 k] [ob]) (fun e=>K .ret [.slice none 0 0,.int .i64 e,top] [])
def gR6(N:Nd)(L:LR6)(s:ByteArray)(K:RK):Prop:=wpe Tryz.prog N (AU (syB 100) Zp [] [(3,(45,([0,4,5],AGE L)))] [] []) 300 (.call 25 [(.string s)] h0) (PT 100 K)
theorem AHn(N:Nd)(L:LR6)(s:ByteArray)(K:RK):gR6 N L s K=L (AO Tryz.prog 25 3) 45 [.string s,.slice none 0 0,.int .u8 0] [] (fun k ob=>K (.tuple ⟨[mkS 100 k,.int .i64 0]⟩) [ob]) (fun e=>K (.tuple ⟨[.slice none 0 0,.int .i64 e]⟩) []):=by kernel_rfl
def AJe(N:Nd)(s:ByteArray)(k:Nat)(ob:Option AJ)(last:Int)(back:Bk)(out:Ot):Prop:=
 wpe Tryz.prog N (AU (syB 100) Zp [] [] [] []) 300 (.code false (AO Tryz.prog 25 3) (C9 100 45 [0,4,5] [] ([.string s,mkS 100 k,.int .u8 last],[ob]))) (BM 100 [0,4,5] [2,3,4] 45 [] back out)
def nS(k:Nat)(ob:Option AJ)(out:Ot)(e:Int):Prop:=nD/\out .ret [.slice none 0 0,.int .i64 e,mkS 100 k] [ob]
theorem AE1(N:Nd)(s:ByteArray)(k:Nat)(ob:Option AJ)(last:Int)(back:Bk)(out:Ot):AJe N s k ob last back out=N.scmp .neq s (bytesOf []) (N.slen s fun n=>N.cmp .lss .i64 n .i64 3 (nS k ob out 4) (N.ssl s (some 1) (some 3) fun s1=>N.sat s1 0 fun a=>N.conv 5 3 .u8 a .i64 fun a'=>N.ari .mul .i64 a' .i64 256 fun m=>N.sat s1 1 fun b=>N.conv 5 3 .u8 b .i64 fun b'=>N.ari .add .i64 m .i64 b' fun z=>N.sat s 0 fun t=>N.cmp .leq .u8 t .u8 last (nS k ob out 3) (N.cmp .eql .i64 z .i64 0 (nS k ob out 3) (N.slen s fun n=>N.ari .add .i64 3 .i64 z fun w=>N.cmp .lss .i64 n .i64 w (nS k ob out 4) (N.sat s 0 fun t1=>N.sat s 0 fun t2=>N.ari .add .i64 3 .i64 z fun w=>N.ssl s (some 3) (some w) fun v=>N.base true k k ob 75 2 fun vs=>N.appX k vs 1 [.int .u8 t2,.string v] 2 24 fun vs' k'=>N.ari .add .i64 3 .i64 z fun w=>N.ssl s (some w) none fun s'=>nD/\back [.string s',.slice (some ⟨102,0,none⟩) k' k',.int .u8 t1] [none,some (.cells [.int .u8 t2,.string v] 75 2 false true),some (.cells vs' 75 2 true true)])))))
 (nD/\out (.exit 0) [top,top,mkS 100 k] [ob]):=by kernel_rfl
def IR6(s0:List UInt8)(p:StD s0):Lv×Lo:=([.string (bytesOf p.1.1),mkS 100 p.1.2.2.length,.int .u8 (p.1.2.1:Int)],[mo (DD p.1.2.2) 75 2])
def RR6(s0:List UInt8)(e:Exit)(v:Lv)(o:Lo):Prop:=
 ((CP 0 s0).1=0/\e = .exit 0/\v=[top,top,mkS 100 (CP 0 s0).2.length]/\o=[mo (DD (CP 0 s0).2) 75 2])∨
 ((CP 0 s0).1≠0/\e = .ret/\v=[.slice none 0 0,.int .i64 ((CP 0 s0).1:Int),top]/\o=[])
theorem AGJ{e:Int}{x:Value}{AL:Lo}:Wk 100 (100+0) [.slice none 0 0,.int .i64 e,x] AL [.slice none 0 0,.int .i64 e,top] []:=
 (CQ (.cons (.refl _) (.cons (.refl _) (.cons (.top _) .nil))) (D7.refl _)).trans (F5 rfl)
theorem AFT(s0:List UInt8)(p:StD s0):
  Is (wpe Tryz.prog (real Tryz.prog) (AU (syB 100) Zp [] [] [] []) 300 (.code false (AO Tryz.prog 25 3) (C9 100 45 [0,4,5] [] (IR6 s0 p))) (BM 100 [0,4,5] [2,3,4] 45 []
   (fun AB AL=>∃a':StD s0,a'.1.1.length<p.1.1.length/\Wk 100 (100+0) AB AL (IR6 s0 a').1 (IR6 s0 a').2/\∀e v o,RR6 s0 e v o->RR6 s0 e v o)
   (fun e AB AL=>∃v o,Wk 100 (100+0) AB AL v o/\RR6 s0 e v o))):=by
 refine⟨?_⟩
 obtain⟨⟨s,last,acc⟩,inv⟩:=p
 have heq:=inv.eq
 have hla:=inv.la
 have hil:=inv.il
 dsimp only at heq hla hil
 show AJe (real Tryz.prog) (bytesOf s) acc.length (mo (DD acc) 75 2) (last:Int) _ _
 rw[AE1]
 have bad:∀(e:Nat),(CP last s)=(e,[])->e≠0->nS acc.length (mo (DD acc) 75 2) (fun e AB AL=>∃v o,Wk 100 (100+0) AB AL v o/\RR6 s0 e v o) (e:Int):=fun e h1 h2=>by
  have hp:=YY heq h1 h2
  have he:(CP 0 s0).1=e:=by
   have:=heq
   rw[h1]at this
   rw[this];unfold QU;simp[h2]
  exact⟨rfl,_,_,AGJ,.inr ⟨hp.1,rfl,by rw[he],rfl⟩⟩
 rcases s with _|⟨t,_|⟨a,_|⟨b,r⟩⟩⟩
 ·refine EH (fun h=>absurd rfl h) (fun _=>⟨rfl,_,_,Wk.refl _ _ _ _,.inl ?_⟩)
  have h0:CP 0 s0=(0,acc):=by rw[heq,NY];unfold QU;simp
  rw[h0];exact⟨rfl,rfl,rfl,rfl⟩
 ·exact EH (fun _=>FQ (DW (d:=3) (fun _=>bad 4 (G8 (by simp) (by simp)) (by omega)) (fun h=>absurd h (by simp[AZ])))) (fun h=>absurd h (List.cons_ne_nil _ _))
 ·exact EH (fun _=>FQ (DW (d:=3) (fun _=>bad 4 (G8 (by simp) (by simp)) (by omega)) (fun h=>absurd h (by simp[AZ])))) (fun h=>absurd h (List.cons_ne_nil _ _))
 refine EH (fun _=>FQ (DW (d:=3) (fun h=>absurd h (by simp[AZ])) (fun _=>?_))) (fun h=>absurd h (List.cons_ne_nil _ _))
 have ht:t.toNat<256:=t.toNat_lt
 have ha:a.toNat<256:=a.toNat_lt
 have hb:b.toNat<256:=b.toNat_lt
 have hn:=UT a b
 have hz:(a.toNat:Int)*256+(b.toNat:Int)=((BX a b:Nat):Int):=by unfold BX;omega
 refine YX 1 3 rfl rfl (by omega) (by simp[AZ]) ?_
 refine IW 0 rfl (b:=a) rfl (BI uU8 DU (AX (by omega)) (AGx (by omega) (by omega) ?_))
 refine IW 1 rfl (b:=b) rfl (BI uU8 DU (AX (by omega)) (XR (by omega) (by omega) ?_))
 rw[hz]
 refine IW 0 rfl (b:=t) rfl (zH (fun h1=>bad 3 (J6 (.inl h1)) (by omega)) (fun h1=>?_))
 refine CG (m:=BX a b) (d:=0) (fun h2=>bad 3 (J6 (.inr h2)) (by omega)) (fun h2=>?_)
 have hc:¬(t.toNat<=last∨BX a b=0):=by omega
 have h3:(3:Int)+((BX a b:Nat):Int)=((3+BX a b:Nat):Int):=by omega
 refine FQ (XR (by omega) (by omega) ?_)
 rw[h3]
 refine DW (d:=3+BX a b) (fun h4=>bad 4 (SX hc (by simp[AZ]at h4;omega)) (by omega)) (fun h4=>?_)
 have h5:BX a b<=r.length:=by simp[AZ]at h4;omega
 have hT:JU=140737488355328:=rfl
 rw[J7 hc (by omega),UI]at heq
 have hacc:(acc++[(⟨t.toNat,bytesOf (r.take (BX a b))⟩:At)]).length=acc.length+1:=by simp
 refine IW 0 rfl (b:=t) rfl (IW 0 rfl (b:=t) rfl (XR (by omega) (by omega) ?_))
 rw[h3]
 refine YX 3 (3+BX a b) rfl rfl (by omega) (by simp[AZ];omega) ?_
 refine EM (VP _) (by omega) (I1 (by omega) rfl rfl (by omega) (by omega) (XR (by omega) (by omega) ?_))
 rw[h3]
 refine IP (3+BX a b) rfl (by simp[AZ];omega) ?_
 have e1:((bytesOf (t::a::b::r)).data.toList.drop 3).take (3+BX a b-3)=r.take (BX a b):=by
  rw[AZ,show 3+BX a b-3=BX a b by omega];rfl
 have e2:(bytesOf (t::a::b::r)).data.toList.drop (3+BX a b)=r.drop (BX a b):=by
  rw[AZ,Nat.add_comm];rfl
 rw[e1,e2]
 refine⟨rfl,⟨⟨r.drop (BX a b),t.toNat,acc++[⟨t.toNat,bytesOf (r.take (BX a b))⟩]⟩,⟨heq,by dsimp only;omega,by dsimp only;omega⟩⟩,?_,?_,fun _ _ _ h=>h⟩
 ·show(r.drop (BX a b)).length<(t::a::b::r).length
  simp;omega
 ·have hcell:DD acc++[.int .u8 (t.toNat:Int),.string (bytesOf (r.take (BX a b)))]=DD (acc++[⟨t.toNat,bytesOf (r.take (BX a b))⟩]):=by
   rw[VO];rfl
  show Wk 100 (100+0) _ _ ([.string (bytesOf (r.drop (BX a b)))]++mkS (100+0) (acc++[(⟨t.toNat,bytesOf (r.take (BX a b))⟩:At)]).length::[.int .u8 (t.toNat:Int)]) ([]++[mo (DD (acc++[⟨t.toNat,bytesOf (r.take (BX a b))⟩])) 75 2])
  rw[←hcell,M9 (by simp),hacc]
  exact KN (k0:=0) (j:=2) (va:=[.string (bytesOf (r.drop (BX a b)))]) (by omega) rfl (by rw[hcell];exact KE _) rfl rfl (by omega) rfl (fun i o h=>by simp at h)
def AIA(s0:List UInt8):LR6:=fun c n AB obs A E=>c=AO Tryz.prog 25 3/\n=45/\AB=[.string (bytesOf s0),.slice none 0 0,.int .u8 (0:Int)]/\obs=[]/\
 ((CP 0 s0).1=0->A (CP 0 s0).2.length (mo (DD (CP 0 s0).2) 75 2))/\((CP 0 s0).1≠0->E ((CP 0 s0).1:Int))
theorem AKW(s0:List UInt8):BH Tryz.prog 100 [0,4,5] (AGE (AIA s0)):=by
 show BH Tryz.prog 100 [0,4,5] (lpS [2,3,4] _)
 refine FW okp (W:=AU (syB 100) Zp [] [] [] []) DR BN ?_
 rintro c n AB obs K ⟨hc,hn,hv,ho,hA,hE⟩
 subst hc;subst hn;subst hv;subst ho
 refine⟨StD s0,0,300,fun p=>p.1.1.length,IR6 s0,fun _ e v o=>RR6 s0 e v o,⟨⟨s0,0,[]⟩,⟨(SI _ (MH _ _)).symm,by dsimp only;omega,by simp⟩⟩,rfl,?_,?_,AFT s0⟩
 ·exact L6 (va:=[.string (bytesOf s0)])
 intro e v o hR
 rcases hR with⟨h1,rfl,rfl,rfl⟩ | ⟨h1,rfl,rfl,rfl⟩
 ·exact hA h1
 ·exact hE h1
theorem r6C(s0:List UInt8):Is (gR6 (real Tryz.prog) (AIA s0) (bytesOf s0) (PQ (ZQ (CP 0 s0)))):=by
 refine⟨?_⟩
 rw[AHn]
 refine⟨rfl,rfl,rfl,rfl,fun h=>?_,fun h=>?_⟩
 ·unfold ZQ;rw[h]
  exact(fJ (GG 0 0 rfl rfl (AGo _) (KE _) (by omega) (List.length_map _).symm)).trans (F5 rfl)
 ·exact(CQ (.cons (sV (MH _ _ h)) .nil) (D7.refl _)).trans (F5 rfl)
def AFX(M:ByteArray->(Lv->Int->Prop)->Prop):Lv->(Value->Prop)->Prop
 | [.string s],K=>M s fun rs e=>K (.tuple ⟨[dsl rs,.int .i64 e]⟩)
 |_,_=>False
def MR6:ByteArray->(Lv->Int->Prop)->Prop:=fun s K=>K (CZ (CP 0 s.data.toList).2) ((CP 0 s.data.toList).1:Int)
theorem AJT:EW Tryz.prog 100 25 (AFX MR6):=by
 intro args K h
 unfold AFX at h
 split at h<;>try exact h.elim
 rename_i s
 have hc:∀B H,BP Tryz.prog 100 B 25 [.string s] H (.returned (ZQ (CP 0 s.data.toList))) H:=fun B H=>by
  have:=jW okp DR (lp1 (AKW s.data.toList)) rfl (eX _) (r6C s.data.toList) B H
  rw[bytes_eta]at this;exact this
 exact⟨_,hc,h⟩
end
end Go.Proofs.Ob
namespace Go.Proofs.Ob
open Go Go.Abs Go.Tlv
end Go.Proofs.Ob
namespace Go.Proofs.Ob
open Go Go.Abs Go.Tlv
noncomputable section
def AF4:List (Nat×List Nat):=[(2,[6]),(44,[6]),(3,[8]),(4,[8]),(6,[2,6]),(9,[2,3]),(10,[3]),(11,[10]),(13,[11]),(15,[12]),(17,[13]),(18,[13]),(19,[14]),(21,[15]),(23,[16]),(25,[17]),(12,[1]),(14,[1]),(16,[1]),(20,[1]),(22,[1]),(24,[1]),(26,[1]),(27,[1]),(28,[1]),(29,[1]),(34,[1]),(45,[1]),(30,[1,6,7]),(31,[1,2,6]),(32,[1,2,9]),(33,[1,2,9]),(35,[1,6]),(46,[1,6]),(37,[9]),(38,[4]),(39,[2,4,6]),(40,[4,8]),(41,[4,5,8]),(42,[5,13])]
def chH(N:Nd)(k:Int)(K:RK):List (Nat×List Nat)->Prop
 | []=>K (.slice none 0 0) []
 |(c,l)::r=>N.cmp .eql .u8 k .u8 (c:Int) (K (.slice (some ⟨100,0,none⟩) l.length l.length) [some (.cells (AD0 l) 5 1 false true)]) (chH N k K r)
def jO(k:Nat):List (Nat×List Nat)->List Nat
 | []=>[]
 |(c,l)::r=>if k=c then l else jO k r
def gRH(N:Nd)(k:Int)(K:RK):Prop:=wpe Tryz.prog N (AU Z0 Zp [] [] [] []) 1000 (.call 33 [(.int .u8 k)] h0) (PT 100 K)
theorem AHp(N:Nd)(k:Int)(K:RK):gRH N k K=chH N k K AF4:=by kernel_rfl
theorem chC(k:Nat):∀r:List (Nat×List Nat),chH (real Tryz.prog) (k:Int) (PQ (dsl (rowsOf cU8 (jO k r)))) r
 | []=>(CQ (.cons .nilD .nil) (D7.refl _)).trans (F5 rfl)
 |(c,l)::r=>by
  by_cases h:k=c
  ·refine CG (fun _=>?_) (fun h2=>absurd h h2)
   rw[jO,if_pos h]
   exact(U0 (G:=100) (n0:=100) (i:=0) (A7:=rowsOf cU8 l) (AB:=[.slice (some ⟨100,0,none⟩) l.length l.length]) (AL:=[some (.cells (AD0 l) 5 1 false true)]) (vals':=[dsl (rowsOf cU8 l)]) rfl (AGp l) (fD l) (by omega) rfl (fun j v v' h1 h2=>by
    cases j with
    |zero=>
     simp only[List.getElem?_cons_zero,Option.some.injEq]at h1 h2
     subst h1;subst h2
     exact .inr ⟨rfl,l.length,by rw[BJ];exact Nat.le_refl _,.inl (by rw[BJ])⟩
    |succ j=>simp at h1)).trans (F5 rfl)
  ·refine CG (fun h2=>absurd h2 h) (fun _=>?_)
   rw[jO,if_neg h]
   exact chC k r
theorem ACJ(k:Nat)(hk:k<256):jO k AF4=dO k 17:=by
 have h:∀k:Fin 256,jO k.val AF4=dO k.val 17:=by decide +kernel
 exact h ⟨k,hk⟩
theorem rhC(k:Nat)(hk:k<256):Is (gRH (real Tryz.prog) (k:Int) (PQ (dsl (rowsOf cU8 (dO k 17))))):=by
 refine⟨?_⟩
 rw[AHp,←ACJ k hk]
 exact chC k AF4
theorem ALx:EW Tryz.prog 100 33 (sHs AIH):=by
 intro args K h
 unfold sHs at h
 split at h<;>try exact h.elim
 obtain⟨k,rfl,hk,hK⟩:=h
 exact⟨_,fun B H=>jW okp DR BN rfl rfl (rhC k hk) B H,hK⟩
structure isR(b:Nat)(l:List At):Prop where
 b:l.length<=b
 t:∀a∈l,a.t<256
theorem isR.step{b:Nat}{l:List At}(h:isR b l){k:Nat}(s:ByteArray)(hk:k<256):isR (b+1) (OO l k s):=by
 refine⟨?_,?_⟩
 ·have:=h.b
  unfold OO;split
  ·omega
  ·simp;omega
 ·unfold OO;split
  ·exact h.t
  ·intro a ha
   rcases List.mem_append.1 ha with ha|ha
   ·exact h.t a ha
   ·simp only[List.mem_singleton]at ha;subst ha;exact hk
theorem OZ(f:Nat->List UInt8):∀n j,BQ f (n+1) j=BQ f n j++OQ (j+n+1) (f (j+n+1))
 | 0,j=>by simp[BQ]
 |n+1,j=>by
  rw[BQ,OZ f n (j+1),BQ,List.append_assoc]
  rw[show j+1+n+1=j+(n+1)+1 by omega]
structure AKn where
 g:ML1
 e:ME1
 f:ME1
 m:ML1
 n:ML1
 p:MSm
 s:MSm
 h:MHs
 k:MHs
 y:MEq
section
variable (N:Nd) (M:AKn) (x y:BB) (t:Int) (K:Value->Prop)
end
abbrev LN9:=Code->Nat->Lv->Lo->(Int->Prop)->Prop
def AGC(L:LN9):LpS:=lpS [1,6] fun c n AB obs K=>match AB with
 | [_,t,_,_]=>L c n AB obs fun z=>K (.exit 0) [t,.int .u64 z] []
 |_=>False
def vR(K:Value->Prop):Prop:=K (.tuple ⟨[.int .u64 0,.int .i64 3]⟩)
def AJy(N:Nd)(L:LN9)(s:ByteArray)(t:Int)(K:Value->Prop):Prop:=L (AO Tryz.prog 118 5) 37 [.string s,.int .u64 t,.int .u64 0,.int .i64 0] [] fun z=>N.cmp .gtr .u64 z .u64 t (vR K) (K (.tuple ⟨[.int .u64 z,.int .i64 0]⟩))
def gN9(N:Nd)(L:LN9)(s:ByteArray)(t:Int)(K:Value->Prop):Prop:=wpe Tryz.prog N (AU Z0 Zp [] [(5,(37,([0,1,6,7],AGC L)))] [] []) 300 (.call 118 [(.string s),(.int .u64 t)] h0) (II K)
theorem AHg(N:Nd)(L:LN9)(s:ByteArray)(t:Int)(K:Value->Prop):gN9 N L s t K=N.slen s fun n=>N.cmp .gtr .i64 n .i64 8 (vR K) (N.scmp .neq s (bytesOf []) (N.sat s 0 fun b=>N.cmp .eql .u8 b .u8 0 (vR K) (AJy N L s t K)) (AJy N L s t K)):=by kernel_rfl
def AJb(N:Nd)(s:ByteArray)(t z i:Int)(back:Bk)(out:Ot):Prop:=
 wpe Tryz.prog N (AU Z0 Zp [] [] [] []) 300 (.code false (AO Tryz.prog 118 5) (C9 100 37 [0,1,6,7] [] ([.string s,.int .u64 t,.int .u64 z,.int .i64 i],[]))) (BM 100 [0,1,6,7] [1,6] 37 [] back out)
theorem AEW(N:Nd)(s:ByteArray)(t z i:Int)(back:Bk)(out:Ot):AJb N s t z i back out=N.slen s fun n=>N.cmp .lss .i64 i .i64 n (N.ari .mul .u64 z .u64 256 fun z1=>N.sat s i fun b=>N.conv 5 28 .u8 b .u64 fun b1=>N.ari .add .u64 z1 .u64 b1 fun z2=>N.ari .add .i64 i .i64 1 fun j=>nD/\back [.string s,.int .u64 t,.int .u64 z2,.int .i64 j] [])
 (nD/\out (.exit 0) [.int .u64 t,.int .u64 z] []):=by kernel_rfl
theorem AHP{m d:Nat}{K:Int->Prop}(h:m*d<18446744073709551616)(hk:K ((m*d:Nat):Int)):(real Tryz.prog).ari .mul .u64 (m:Int) .u64 (d:Int) K:=by
 refine⟨((m*d:Nat):Int),?_,hk⟩
 have e:IntKind.u64.wrap ((m:Int)*(d:Int))=((m*d:Nat):Int):=by rw[←Int.natCast_mul];exact bC h
 simp[FU,UE,e]
theorem AHN{m d:Nat}{K:Int->Prop}(h:m+d<18446744073709551616)(hk:K ((m+d:Nat):Int)):(real Tryz.prog).ari .add .u64 (m:Int) .u64 (d:Int) K:=by
 refine⟨((m+d:Nat):Int),?_,hk⟩
 have e:IntKind.u64.wrap ((m:Int)+(d:Int))=((m+d:Nat):Int):=by rw[←Int.natCast_add];exact bC h
 simp[FU,UE,e]
def IN9(s:ByteArray)(t:Nat)(i:{i:Nat // i<=s.data.toList.length}):Lv×Lo:=([.string s,.int .u64 (t:Int),.int .u64 (JV (s.data.toList.take i.1):Int),.int .i64 (i.1:Int)],[])
theorem AJ0(s:ByteArray)(t:Nat)(h8:s.data.toList.length<=8)(i:{i:Nat // i<=s.data.toList.length}):
  Is (wpe Tryz.prog (real Tryz.prog) (AU Z0 Zp [] [] [] []) 300 (.code false (AO Tryz.prog 118 5) (C9 100 37 [0,1,6,7] [] (IN9 s t i))) (BM 100 [0,1,6,7] [1,6] 37 []
   (fun AB AL=>∃a':{i:Nat // i<=s.data.toList.length},s.data.toList.length-a'.1<s.data.toList.length-i.1/\Wk 100 (100+0) AB AL (IN9 s t a').1 (IN9 s t a').2/\∀e v o,RN s t e v o->RN s t e v o)
   (fun e AB AL=>∃v o,Wk 100 (100+0) AB AL v o/\RN s t e v o))):=by
 refine⟨?_⟩
 obtain⟨i,hi⟩:=i
 show AJb (real Tryz.prog) s (t:Int) (JV (s.data.toList.take i):Int) (i:Int) _ _
 rw[AEW]
 refine FQ (DW (fun hlt=>?_) (fun hge=>?_))
 ·have hx:s.data.toList[i]?=some s.data.toList[i]:=List.getElem?_eq_getElem hlt
  have hms:s.data.toList.length-(i+1)<s.data.toList.length-i:=by omega
  generalize s.data.toList[i]=b at hx
  have hb:b.toNat<256:=b.toNat_lt
  have h7:=AJO (l:=s.data.toList.take i) (by rw[List.length_take];omega)
  refine AHP (d:=256) (by omega) (IW i rfl hx (BI uU8 CW (bC (by omega)) (AHN (by omega) (BS (by omega) ⟨rfl,⟨i+1,hlt⟩,hms,?_,fun _ _ _ h=>h⟩))))
  have:JV (s.data.toList.take (i+1))=JV (s.data.toList.take i)*256+b.toNat:=by rw[List.take_add_one,hx];exact UZ _ _
  show Wk 100 (100+0) _ _ [.string s,.int .u64 (t:Int),.int .u64 (JV (s.data.toList.take (i+1)):Int),_] []
  rw[this]
  exact Wk.refl _ _ _ _
 ·have e:i=s.data.toList.length:=by omega
  subst e
  rw[List.take_length]
  exact⟨rfl,_,_,Wk.refl _ _ _ _,rfl,rfl,rfl⟩
def AIy(s:ByteArray)(t:Nat):LN9:=fun c n AB obs A=>c=AO Tryz.prog 118 5/\n=37/\AB=[.string s,.int .u64 (t:Int),.int .u64 (0:Int),.int .i64 (0:Int)]/\obs=[]/\s.data.toList.length<=8/\A (JV s.data.toList:Int)
theorem AKS(s:ByteArray)(t:Nat):BH Tryz.prog 100 [0,1,6,7] (AGC (AIy s t)):=by
 show BH Tryz.prog 100 [0,1,6,7] (lpS [1,6] _)
 refine FW okp (W:=AU Z0 Zp [] [] [] []) DR BN ?_
 intro c n AB obs K h
 split at h<;>try exact h.elim
 obtain⟨hc,hn,hv,ho,h8,hA⟩:=h
 subst hc;subst hn;subst ho
 simp only[List.cons.injEq,and_true]at hv
 obtain⟨rfl,rfl,rfl,rfl⟩:=hv
 refine⟨{i:Nat // i<=s.data.toList.length},0,300,fun i=>s.data.toList.length-i.1,IN9 s t,fun _ e v o=>RN s t e v o,⟨0,Nat.zero_le _⟩,rfl,Wk.refl _ _ _ _,?_,AJ0 s t h8⟩
 intro e v o hR
 obtain⟨rfl,rfl,rfl⟩:=hR
 exact hA
theorem n9C(s:ByteArray)(t:Nat):Is (gN9 (real Tryz.prog) (AIy s t) s (t:Int) (fun v=>v=AJX (GQ s.data.toList t))):=by
 refine⟨?_⟩
 rw[AHg]
 refine FQ (U6 (d:=8) (fun h=>by unfold vR;rw[X0 (.inl h)];rfl) (fun h8=>EH (fun hne=>?_) (fun he=>?_)))
 ·have hx:∃b,s.data.toList[0]?=some b:=by
   cases h:s.data.toList with
   |nil=>exact absurd h hne
   |cons b l=>exact⟨b,rfl⟩
  obtain⟨b,hb⟩:=hx
  refine IW 0 rfl hb (CG (d:=0) (fun h0=>?_) (fun h0=>?_))
  ·have:b=0:=by apply UInt8.toNat_inj.1;exact h0
   subst this
   unfold vR;rw[X0 (.inr hb)];rfl
  ·have h2:s.data.toList[0]?≠some 0:=by
    rw[hb];intro e
    simp only[Option.some.injEq]at e
    subst e;exact h0 rfl
   exact⟨rfl,rfl,rfl,rfl,h8,U6 (fun h=>by unfold vR;rw[X3 h];rfl) (fun h=>by rw[bL (by omega) h2 (by omega)];rfl)⟩
 ·have he':s.data.toList=[]:=he
  have h2:s.data.toList[0]?≠some 0:=by rw[he'];simp
  exact⟨rfl,rfl,rfl,rfl,h8,U6 (fun h=>by unfold vR;rw[X3 h];rfl) (fun h=>by rw[bL (by omega) h2 (by omega)];rfl)⟩
theorem AFH:EW Tryz.prog 100 118 (VZ WF):=by
 intro args K h
 unfold VZ at h
 split at h<;>try exact h.elim
 rename_i s m
 obtain⟨t,rfl,h1,h2⟩:=h
 refine⟨_,fun B H=>PS okp DR (lp1 (AKS s t)) rfl (n9C s t) B H,?_⟩
 cases hr:GQ s.data.toList t with
 |none=>exact h2 hr
 |some n=>exact h1 n hr
abbrev LR9:=Code->Nat->Lv->Lo->(Nat->Option AJ->Prop)->(Int->Prop)->Prop
def AGF(L:LR9):LpS:=lpS [4,5,6] fun c n AB obs K=>L c n AB obs (fun k ob=>K (.exit 0) [top,top,mkS 100 k] [ob]) (fun e=>K .ret [.slice none 0 0,.int .i64 e,top] [])
def gR9(N:Nd)(L:LR9)(s:ByteArray)(t:Int)(K:RK):Prop:=wpe Tryz.prog N (AU (syB 100) Zp [] [(2,(36,([0,1,6],AGF L)))] [] []) 300 (.call 210 [(.string s),(.int .i64 t)] h0) (PT 100 K)
theorem AHo(N:Nd)(L:LR9)(s:ByteArray)(t:Int)(K:RK):gR9 N L s t K=L (AO Tryz.prog 210 2) 36 [.string s,.int .i64 t,.slice none 0 0] [] (fun k ob=>K (.tuple ⟨[mkS 100 k,.int .i64 0]⟩) [ob]) (fun e=>K (.tuple ⟨[.slice none 0 0,.int .i64 e]⟩) []):=by kernel_rfl
def AJf(N:Nd)(s:ByteArray)(t:Int)(k:Nat)(ob:Option AJ)(back:Bk)(out:Ot):Prop:=
 wpe Tryz.prog N (AU (syB 100) Zp [] [] [] []) 300 (.code false (AO Tryz.prog 210 2) (C9 100 36 [0,1,6] [] ([.string s,.int .i64 t,mkS 100 k],[ob]))) (BM 100 [0,1,6] [4,5,6] 36 [] back out)
theorem AE2(N:Nd)(s:ByteArray)(t:Int)(k:Nat)(ob:Option AJ)(back:Bk)(out:Ot):AJf N s t k ob back out=N.scmp .neq s (bytesOf []) (N.slen s fun n=>N.cmp .lss .i64 n .i64 2 (nS k ob out 4) (N.cmp .geq .i64 (k:Int) .i64 t (nS k ob out 3) (N.sat s 0 fun a=>N.conv 5 3 .u8 a .i64 fun a'=>N.ari .mul .i64 a' .i64 256 fun m=>N.sat s 1 fun b=>N.conv 5 3 .u8 b .i64 fun b'=>N.ari .add .i64 m .i64 b' fun z=>N.slen s fun n=>N.ari .add .i64 2 .i64 z fun w=>N.cmp .lss .i64 n .i64 w (nS k ob out 4) (N.ari .add .i64 2 .i64 z fun w=>N.ssl s (some 2) (some w) fun v=>N.base true k k ob 9 1 fun vs=>N.appX k vs 1 [.string v] 1 16 fun vs' k'=>N.ari .add .i64 2 .i64 z fun w=>N.ssl s (some w) none fun s'=>nD/\back [.string s',.int .i64 t,.slice (some ⟨102,0,none⟩) k' k'] [none,some (.cells [.string v] 9 1 false true),some (.cells vs' 9 1 true true)]))))
 (nD/\out (.exit 0) [top,top,mkS 100 k] [ob]):=by kernel_rfl
def IR9(t:Nat)(s0:List UInt8)(p:StL t s0):Lv×Lo:=([.string (bytesOf p.1.1),.int .i64 (t:Int),mkS 100 p.1.2.length],[mo (OU p.1.2) 9 1])
def RR9(t:Nat)(s0:List UInt8)(e:Exit)(v:Lv)(o:Lo):Prop:=
 ((DK t 0 s0).1=0/\e = .exit 0/\v=[top,top,mkS 100 (DK t 0 s0).2.length]/\o=[mo (OU (DK t 0 s0).2) 9 1])∨
 ((DK t 0 s0).1≠0/\e = .ret/\v=[.slice none 0 0,.int .i64 ((DK t 0 s0).1:Int),top]/\o=[])
theorem AFU(t:Nat)(hm:t<=1000)(s0:List UInt8)(p:StL t s0):
  Is (wpe Tryz.prog (real Tryz.prog) (AU (syB 100) Zp [] [] [] []) 300 (.code false (AO Tryz.prog 210 2) (C9 100 36 [0,1,6] [] (IR9 t s0 p))) (BM 100 [0,1,6] [4,5,6] 36 []
   (fun AB AL=>∃a':StL t s0,a'.1.1.length<p.1.1.length/\Wk 100 (100+0) AB AL (IR9 t s0 a').1 (IR9 t s0 a').2/\∀e v o,RR9 t s0 e v o->RR9 t s0 e v o)
   (fun e AB AL=>∃v o,Wk 100 (100+0) AB AL v o/\RR9 t s0 e v o))):=by
 refine⟨?_⟩
 obtain⟨⟨s,acc⟩,inv⟩:=p
 have heq:=inv.eq
 have hil:=inv.il
 dsimp only at heq hil
 show AJf (real Tryz.prog) (bytesOf s) (t:Int) acc.length (mo (OU acc) 9 1) _ _
 rw[AE2]
 have bad:∀(e:Nat),(DK t acc.length s)=(e,[])->e≠0->nS acc.length (mo (OU acc) 9 1) (fun e AB AL=>∃v o,Wk 100 (100+0) AB AL v o/\RR9 t s0 e v o) (e:Int):=fun e h1 h2=>by
  have hp:=bH heq h1 h2
  have he:(DK t 0 s0).1=e:=by
   have:=heq
   rw[h1]at this
   rw[this];unfold QU;simp[h2]
  exact⟨rfl,_,_,AGJ,.inr ⟨hp.1,rfl,by rw[he],rfl⟩⟩
 rcases s with _|⟨a,_|⟨b,r⟩⟩
 ·refine EH (fun h=>absurd rfl h) (fun _=>⟨rfl,_,_,Wk.refl _ _ _ _,.inl ?_⟩)
  have h0:DK t 0 s0=(0,acc):=by rw[heq,QD];unfold QU;simp
  rw[h0];exact⟨rfl,rfl,rfl,rfl⟩
 ·exact EH (fun _=>FQ (DW (d:=2) (fun _=>bad 4 (N8 (by simp) (by simp)) (by omega)) (fun h=>absurd h (by simp[AZ])))) (fun h=>absurd h (List.cons_ne_nil _ _))
 refine EH (fun _=>FQ (DW (d:=2) (fun h=>absurd h (by simp[AZ])) (fun _=>?_))) (fun h=>absurd h (List.cons_ne_nil _ _))
 have ha:a.toNat<256:=a.toNat_lt
 have hb:b.toNat<256:=b.toNat_lt
 have hn:=UT a b
 have hz:(a.toNat:Int)*256+(b.toNat:Int)=((BX a b:Nat):Int):=by unfold BX;omega
 refine AC0 (fun h1=>bad 3 (QC (by omega)) (by omega)) (fun h1=>?_)
 refine IW 0 rfl (b:=a) rfl (BI uU8 DU (AX (by omega)) (AGx (by omega) (by omega) ?_))
 refine IW 1 rfl (b:=b) rfl (BI uU8 DU (AX (by omega)) (XR (by omega) (by omega) ?_))
 rw[hz]
 have h3:(2:Int)+((BX a b:Nat):Int)=((2+BX a b:Nat):Int):=by omega
 refine FQ (XR (by omega) (by omega) ?_)
 rw[h3]
 refine DW (d:=2+BX a b) (fun h4=>bad 4 (TB (by omega) (by simp[AZ]at h4;omega)) (by omega)) (fun h4=>?_)
 have h5:BX a b<=r.length:=by simp[AZ]at h4;omega
 have hT:JU=140737488355328:=rfl
 rw[NP (by omega) (by omega),UI]at heq
 have hacc:(acc++[bytesOf (r.take (BX a b))]).length=acc.length+1:=by simp
 rw[←hacc]at heq
 refine XR (by omega) (by omega) ?_
 rw[h3]
 refine YX 2 (2+BX a b) rfl rfl (by omega) (by simp[AZ];omega) ?_
 refine EM (by rw[tO,Nat.mul_one]) (by omega) (I1 (by omega) rfl rfl (by omega) (by omega) (XR (by omega) (by omega) ?_))
 rw[h3]
 refine IP (2+BX a b) rfl (by simp[AZ];omega) ?_
 have e1:((bytesOf (a::b::r)).data.toList.drop 2).take (2+BX a b-2)=r.take (BX a b):=by
  rw[AZ,show 2+BX a b-2=BX a b by omega];rfl
 have e2:(bytesOf (a::b::r)).data.toList.drop (2+BX a b)=r.drop (BX a b):=by
  rw[AZ,Nat.add_comm];rfl
 rw[e1,e2]
 refine⟨rfl,⟨⟨r.drop (BX a b),acc++[bytesOf (r.take (BX a b))]⟩,⟨heq,by dsimp only;omega⟩⟩,?_,?_,fun _ _ _ h=>h⟩
 ·show(r.drop (BX a b)).length<(a::b::r).length
  simp;omega
 ·have hcell:OU acc++[.string (bytesOf (r.take (BX a b)))]=OU (acc++[bytesOf (r.take (BX a b))]):=by simp[OU]
  show Wk 100 (100+0) _ _ ([.string (bytesOf (r.drop (BX a b))),.int .i64 (t:Int)]++mkS (100+0) (acc++[bytesOf (r.take (BX a b))]).length::[]) ([]++[mo (OU (acc++[bytesOf (r.take (BX a b))])) 9 1])
  rw[←hcell,M9 (by simp),hacc]
  exact KN (k0:=0) (j:=2) (va:=[.string (bytesOf (r.drop (BX a b))),.int .i64 (t:Int)]) (by omega) rfl (by rw[hcell];exact RU _ _) rfl rfl (by omega) rfl (fun i o h=>by simp at h)
def AIB(t:Nat)(s0:List UInt8):LR9:=fun c n AB obs A E=>c=AO Tryz.prog 210 2/\n=36/\AB=[.string (bytesOf s0),.int .i64 (t:Int),.slice none 0 0]/\obs=[]/\
 ((DK t 0 s0).1=0->A (DK t 0 s0).2.length (mo (OU (DK t 0 s0).2) 9 1))/\((DK t 0 s0).1≠0->E ((DK t 0 s0).1:Int))
theorem AKX(t:Nat)(hm:t<=1000)(s0:List UInt8):BH Tryz.prog 100 [0,1,6] (AGF (AIB t s0)):=by
 show BH Tryz.prog 100 [0,1,6] (lpS [4,5,6] _)
 refine FW okp (W:=AU (syB 100) Zp [] [] [] []) DR BN ?_
 rintro c n AB obs K ⟨hc,hn,hv,ho,hA,hE⟩
 subst hc;subst hn;subst hv;subst ho
 refine⟨StL t s0,0,300,fun p=>p.1.1.length,IR9 t s0,fun _ e v o=>RR9 t s0 e v o,⟨⟨s0,[]⟩,⟨(SI _ (MX _ _ _)).symm,by simp⟩⟩,rfl,?_,?_,AFU t hm s0⟩
 ·exact L6 (va:=[.string (bytesOf s0),.int .i64 (t:Int)])
 intro e v o hR
 rcases hR with⟨h1,rfl,rfl,rfl⟩ | ⟨h1,rfl,rfl,rfl⟩
 ·exact hA h1
 ·exact hE h1
theorem r9C(t:Nat)(s0:List UInt8):Is (gR9 (real Tryz.prog) (AIB t s0) (bytesOf s0) (t:Int) (PQ (R6 (DK t 0 s0)))):=by
 refine⟨?_⟩
 rw[AHo]
 refine⟨rfl,rfl,rfl,rfl,fun h=>?_,fun h=>?_⟩
 ·unfold R6;rw[h]
  exact(fJ (GG 0 0 rfl rfl (kD _) (RU _ _) (by omega) (BJ _ _).symm)).trans (F5 rfl)
 ·exact(CQ (.cons (jY (MX _ _ _ h)) .nil) (D7.refl _)).trans (F5 rfl)
def AFY(M:ByteArray->Int->(Lv->Int->Prop)->Prop):Lv->(Value->Prop)->Prop
 | [.string s,.int .i64 t],K=>M s t fun rs e=>K (.tuple ⟨[dsl rs,.int .i64 e]⟩)
 |_,_=>False
def MR9:ByteArray->Int->(Lv->Int->Prop)->Prop:=fun s m K=>∃t:Nat,m=t/\t<=1000/\K (rowsOf cSt (DK t 0 s.data.toList).2) ((DK t 0 s.data.toList).1:Int)
theorem AJU:EW Tryz.prog 100 210 (AFY MR9):=by
 intro args K h
 unfold AFY at h
 split at h<;>try exact h.elim
 rename_i s m
 obtain⟨t,rfl,ht,hK⟩:=h
 have hc:∀B H,BP Tryz.prog 100 B 210 [.string s,.int .i64 (t:Int)] H (.returned (R6 (DK t 0 s.data.toList))) H:=fun B H=>by
  have:=jW okp DR (lp1 (AKX t ht s.data.toList)) rfl (ZI _) (r9C t s.data.toList) B H
  rw[bytes_eta]at this;exact this
 exact⟨_,hc,hK⟩
def gRb(N:Nd)(M:YH)(s:ByteArray)(t:Int)(K:Value->Prop):Prop:=wpe Tryz.prog N (AU Z0 Zp [] [] [(118,VZ M)] []) 300 (.call 239 [(.string s),(.int .u64 t)] h0) (II K)
theorem AHr(N:Nd)(M:YH)(s:ByteArray)(t:Int)(K:Value->Prop):gRb N M s t K=M s t fun n e=>N.cmp .eql .i64 e .i64 0 (K (.tuple ⟨[.int .u64 (n:Int),.bool true]⟩)) (K (.tuple ⟨[.int .u64 (n:Int),.bool false]⟩)):=by kernel_rfl
def sRb(M:MNt):Lv->(Value->Prop)->Prop
 | [.string s,.int .u64 t],K=>M s t (fun n=>K (.tuple ⟨[.int .u64 n,.bool true]⟩)) (K (.tuple ⟨[.int .u64 0,.bool false]⟩))
 |_,_=>False
def rbV(o:Option Nat):Value:=match o with
 |some n => .tuple ⟨[.int .u64 (n:Int),.bool true]⟩
 |none => .tuple ⟨[.int .u64 0,.bool false]⟩
theorem rbC(s:ByteArray)(t:Nat):Is (gRb (real Tryz.prog) WF s (t:Int) (fun v=>v=rbV (GQ s.data.toList t))):=by
 refine⟨?_⟩
 rw[AHr]
 exact⟨t,rfl,fun n hn=>CG (m:=0) (d:=0) (fun _=>by rw[hn];rfl) (fun h=>absurd rfl h),fun hn=>CG (m:=3) (d:=0) (fun h=>absurd h (by decide)) (fun _=>by rw[hn];rfl)⟩
theorem nO:EW Tryz.prog 100 239 (sRb MRN):=by
 intro args K h
 unfold sRb at h
 split at h<;>try exact h.elim
 rename_i s m
 obtain⟨t,rfl,h1,h2⟩:=h
 refine⟨_,fun B H=>PS okp (DI (pu1 AFH)) BN rfl (rbC s t) B H,?_⟩
 cases hr:GQ s.data.toList t with
 |none=>exact h2 hr
 |some n=>exact h1 n hr
def gIb(N:Nd)(M:ByteArray->Int->(Lv->Int->Prop)->Prop)(s:ByteArray)(t:Int)(K:Value->Prop):Prop:=wpe Tryz.prog N (AU Z0 Zp [] [] [(210,AFY M)] []) 300 (.call 240 [(.string s),(.int .i64 t)] h0) (II K)
theorem AHc(N:Nd)(M:ByteArray->Int->(Lv->Int->Prop)->Prop)(s:ByteArray)(t:Int)(K:Value->Prop):gIb N M s t K=M s t fun rs e=>N.cmp .eql .i64 e .i64 0 (K (.tuple ⟨[dsl rs,.bool true]⟩)) (K (.tuple ⟨[dsl rs,.bool false]⟩)):=by kernel_rfl
def sIb(M:ByteArray->Int->(Lv->Bool->Prop)->Prop):Lv->(Value->Prop)->Prop
 | [.string s,.int .i64 t],K=>M s t fun rs b=>K (.tuple ⟨[dsl rs,.bool b]⟩)
 |_,_=>False
def MIb:ByteArray->Int->(Lv->Bool->Prop)->Prop:=fun s m K=>∃t:Nat,m=t/\t<=1000/\K (rowsOf cSt (DK t 0 s.data.toList).2) (decide ((DK t 0 s.data.toList).1=0))
theorem ibC(s:ByteArray)(t:Nat)(ht:t<=1000):Is (gIb (real Tryz.prog) MR9 s (t:Int) (fun v=>v = .tuple ⟨[dsl (rowsOf cSt (DK t 0 s.data.toList).2),.bool (decide ((DK t 0 s.data.toList).1=0))]⟩)):=by
 refine⟨?_⟩
 rw[AHc]
 exact⟨t,rfl,ht,CG (d:=0) (fun h=>by rw[decide_eq_true h]) (fun h=>by rw[decide_eq_false h])⟩
theorem ALr:EW Tryz.prog 100 240 (sIb MIb):=by
 intro args K h
 unfold sIb at h
 split at h<;>try exact h.elim
 rename_i s m
 obtain⟨t,rfl,ht,hK⟩:=h
 exact⟨_,fun B H=>PS okp (DI (pu1 AJU)) BN rfl (ibC s t ht) B H,hK⟩
end
end Go.Proofs.Ob
