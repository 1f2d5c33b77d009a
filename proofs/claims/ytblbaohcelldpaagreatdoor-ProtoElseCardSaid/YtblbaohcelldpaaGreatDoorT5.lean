/- Are all numbers such as may be said: program and reference. -/
import Derived.Test.YtblbaohcelldpaaGreatDoorT2
set_option linter.all false
namespace Go.Proofs.YtblbaohcelldpaaGreatDoor.Ob
open Go Go.Abs Go.Tlv
noncomputable section
abbrev LIt:=Code->Nat->List Value->List (Option AObj)->(Int->Prop)->Prop->Prop
def sLoopI(L:LIt):LpS:=lpS [4] fun c n vals obs K=>L c n vals obs (fun i=>K .ret [.int .i64 i] []) (K (.exit 0) [top] [])
def WI(L:LIt):How:=howOf (fun _=>none) (fun _=>false) [] [(2,(19,([0,1,7,8],sLoopI L)))] [] []
abbrev PMt:=Value->(Bool->Prop)->Prop
def sP(M:PMt):List Value->(Value->Prop)->Prop
 | [a],K=>M a fun b=>K (.bool b)
 |_,_=>False
def WPu(f:Nat)(M:PMt):How:=howOf (fun _=>none) (fun _=>false) [] [] [(f,sP M)] []
def gP117(N:Nd)(n:Int)(K:RK):Prop:=wpe Tryz.prog N (howOf (fun _=>none) (fun _=>false) [] [] [] []) 300 (.call 245 [(.int .i64 n)] h0) (retQ 100 K)
set_option maxRecDepth 100000
theorem gP117_eq(N:Nd)(n:Int)(K:RK):gP117 N n K=(N.cmp .lss .i64 n .i64 0 (K (.bool true) []) (N.cmp .gtr .i64 n .i64 2147483647 (K (.bool true) []) (K (.bool false) []))):=by kernel_rfl
def gCArm(N:Nd)(L:LIt)(rows:List Value)(K:RK):Prop:=wpe Tryz.prog N (WI L) 300 (.call 228 [(dsl rows),.func (.func 229) ⟨[]⟩ ⟨[]⟩] h0) (retQ 100 K)
def gRArm(N:Nd)(M:PMt)(rows:List Value)(n i:Int)(back:List Value->List (Option AObj)->Prop)(out:Exit->List Value->List (Option AObj)->Prop):Prop:=
 wpe Tryz.prog N (WPu 229 M) 300 (.code false (loopIn Tryz.prog 246 2) (stOf 100 19 [0,1,7,8] [] ([dsl rows,.func (.func 229) ⟨[]⟩ ⟨[]⟩,.int .i64 n,.int .i64 i],[]))) (roundQ 100 [0,1,7,8] [4] 19 [] back out)
set_option maxRecDepth 100000
theorem gCArm_eq(N:Nd)(L:LIt)(rows:List Value)(K:RK):gCArm N L rows K=(N.dlen rows (fun o0=>L (loopIn Tryz.prog 246 2) 19 [dsl rows,(.func (Fn.func 229) ⟨[]⟩ ⟨[]⟩),(.int .i64 (Int.ofNat o0)),.int .i64 0] [] (fun z1=>N.cmp .geq .i64 z1 .i64 0 (K (.bool true) []) (K (.bool false) [])) (N.cmp .geq .i64 (-1:Int) .i64 0 (K (.bool true) []) (K (.bool false) [])))):=by kernel_rfl
theorem gRArm_eq(N:Nd)(M:PMt)(rows:List Value)(n i:Int)(back:Bk)(out:Ot):gRArm N M rows n i back out=(N.cmp .lss .i64 i .i64 n (N.dget rows i 2 (fun l0=>N.rdI .u32 l0 0 (fun z1=>N.rdI .i64 l0 1 (fun z2=>M (.agg (Array.mk [.int .u32 z1,.int .i64 z2])) (fun b3=>branch b3
 (nD/\(out Exit.ret [.int .i64 i] []))
 (N.ari .add .i64 i .i64 1 (fun z4=>nD/\(back [dsl rows,(.func (Fn.func 229) ⟨[]⟩ ⟨[]⟩),.int .i64 n,.int .i64 z4] [])))))))) (nD/\(out (Exit.exit 0) [(.chan (some 0))] []))):=by kernel_rfl
def gCInstr(N:Nd)(L:LIt)(rows:List Value)(K:RK):Prop:=wpe Tryz.prog N (WI L) 300 (.call 233 [(dsl rows),.func (.func 234) ⟨[]⟩ ⟨[]⟩] h0) (retQ 100 K)
def gRInstr(N:Nd)(M:PMt)(rows:List Value)(n i:Int)(back:List Value->List (Option AObj)->Prop)(out:Exit->List Value->List (Option AObj)->Prop):Prop:=
 wpe Tryz.prog N (WPu 234 M) 300 (.code false (loopIn Tryz.prog 247 2) (stOf 100 19 [0,1,7,8] [] ([dsl rows,.func (.func 234) ⟨[]⟩ ⟨[]⟩,.int .i64 n,.int .i64 i],[]))) (roundQ 100 [0,1,7,8] [4] 19 [] back out)
set_option maxRecDepth 100000
theorem gCInstr_eq(N:Nd)(L:LIt)(rows:List Value)(K:RK):gCInstr N L rows K=(N.dlen rows (fun o0=>L (loopIn Tryz.prog 247 2) 19 [dsl rows,(.func (Fn.func 234) ⟨[]⟩ ⟨[]⟩),(.int .i64 (Int.ofNat o0)),.int .i64 0] [] (fun z1=>N.cmp .geq .i64 z1 .i64 0 (K (.bool true) []) (K (.bool false) [])) (N.cmp .geq .i64 (-1:Int) .i64 0 (K (.bool true) []) (K (.bool false) [])))):=by kernel_rfl
theorem gRInstr_eq(N:Nd)(M:PMt)(rows:List Value)(n i:Int)(back:Bk)(out:Ot):gRInstr N M rows n i back out=(N.cmp .lss .i64 i .i64 n (N.dget rows i 7 (fun l0=>N.rdI .u8 l0 0 (fun z1=>N.rdI .i64 l0 1 (fun z2=>N.rdI .u8 l0 2 (fun z3=>N.rdI .u64 l0 3 (fun z4=>N.rdI .u8 l0 4 (fun z5=>N.rdI .u64 l0 5 (fun z6=>N.rdI .i64 l0 6 (fun z7=>M (.agg (Array.mk [.int .u8 z1,.int .i64 z2,.int .u8 z3,.int .u64 z4,.int .u8 z5,.int .u64 z6,.int .i64 z7])) (fun b8=>branch b8
 (nD/\(out Exit.ret [.int .i64 i] []))
 (N.ari .add .i64 i .i64 1 (fun z9=>nD/\(back [dsl rows,(.func (Fn.func 234) ⟨[]⟩ ⟨[]⟩),.int .i64 n,.int .i64 z9] []))))))))))))) (nD/\(out (Exit.exit 0) [(.chan (some 0))] []))):=by kernel_rfl
def gCBucket(N:Nd)(L:LIt)(rows:List Value)(K:RK):Prop:=wpe Tryz.prog N (WI L) 300 (.call 236 [(dsl rows),.func (.func 237) ⟨[]⟩ ⟨[]⟩] h0) (retQ 100 K)
def gRBucket(N:Nd)(M:PMt)(rows:List Value)(n i:Int)(back:List Value->List (Option AObj)->Prop)(out:Exit->List Value->List (Option AObj)->Prop):Prop:=
 wpe Tryz.prog N (WPu 237 M) 300 (.code false (loopIn Tryz.prog 248 2) (stOf 100 19 [0,1,7,8] [] ([dsl rows,.func (.func 237) ⟨[]⟩ ⟨[]⟩,.int .i64 n,.int .i64 i],[]))) (roundQ 100 [0,1,7,8] [4] 19 [] back out)
set_option maxRecDepth 100000
theorem gCBucket_eq(N:Nd)(L:LIt)(rows:List Value)(K:RK):gCBucket N L rows K=(N.dlen rows (fun o0=>L (loopIn Tryz.prog 248 2) 19 [dsl rows,(.func (Fn.func 237) ⟨[]⟩ ⟨[]⟩),(.int .i64 (Int.ofNat o0)),.int .i64 0] [] (fun z1=>N.cmp .geq .i64 z1 .i64 0 (K (.bool true) []) (K (.bool false) [])) (N.cmp .geq .i64 (-1:Int) .i64 0 (K (.bool true) []) (K (.bool false) [])))):=by kernel_rfl
theorem gRBucket_eq(N:Nd)(M:PMt)(rows:List Value)(n i:Int)(back:Bk)(out:Ot):gRBucket N M rows n i back out=(N.cmp .lss .i64 i .i64 n (N.dget rows i 2 (fun l0=>N.rdI .u64 l0 0 (fun z1=>N.rdI .i64 l0 1 (fun z2=>M (.agg (Array.mk [.int .u64 z1,.int .i64 z2])) (fun b3=>branch b3
 (nD/\(out Exit.ret [.int .i64 i] []))
 (N.ari .add .i64 i .i64 1 (fun z4=>nD/\(back [dsl rows,(.func (Fn.func 237) ⟨[]⟩ ⟨[]⟩),.int .i64 n,.int .i64 z4] [])))))))) (nD/\(out (Exit.exit 0) [(.chan (some 0))] []))):=by kernel_rfl
def gCInt(N:Nd)(L:LIt)(rows:List Value)(K:RK):Prop:=wpe Tryz.prog N (WI L) 300 (.call 244 [(dsl rows),.func (.func 245) ⟨[]⟩ ⟨[]⟩] h0) (retQ 100 K)
def gRInt(N:Nd)(M:PMt)(rows:List Value)(n i:Int)(back:List Value->List (Option AObj)->Prop)(out:Exit->List Value->List (Option AObj)->Prop):Prop:=
 wpe Tryz.prog N (WPu 245 M) 300 (.code false (loopIn Tryz.prog 249 2) (stOf 100 19 [0,1,7,8] [] ([dsl rows,.func (.func 245) ⟨[]⟩ ⟨[]⟩,.int .i64 n,.int .i64 i],[]))) (roundQ 100 [0,1,7,8] [4] 19 [] back out)
set_option maxRecDepth 100000
theorem gCInt_eq(N:Nd)(L:LIt)(rows:List Value)(K:RK):gCInt N L rows K=(N.dlen rows (fun o0=>L (loopIn Tryz.prog 249 2) 19 [dsl rows,(.func (Fn.func 245) ⟨[]⟩ ⟨[]⟩),(.int .i64 (Int.ofNat o0)),.int .i64 0] [] (fun z1=>N.cmp .geq .i64 z1 .i64 0 (K (.bool true) []) (K (.bool false) [])) (N.cmp .geq .i64 (-1:Int) .i64 0 (K (.bool true) []) (K (.bool false) [])))):=by kernel_rfl
theorem gRInt_eq(N:Nd)(M:PMt)(rows:List Value)(n i:Int)(back:Bk)(out:Ot):gRInt N M rows n i back out=(N.cmp .lss .i64 i .i64 n (N.dget rows i 1 (fun l0=>N.rdI .i64 l0 0 (fun z1=>M (.int .i64 z1) (fun b2=>branch b2
 (nD/\(out Exit.ret [.int .i64 i] []))
 (N.ari .add .i64 i .i64 1 (fun z3=>nD/\(back [dsl rows,(.func (Fn.func 245) ⟨[]⟩ ⟨[]⟩),.int .i64 n,.int .i64 z3] []))))))) (nD/\(out (Exit.exit 0) [(.chan (some 0))] []))):=by kernel_rfl
end
end Go.Proofs.YtblbaohcelldpaaGreatDoor.Ob
namespace Go.Proofs.YtblbaohcelldpaaGreatDoor.Ob
open Go Go.Abs Go.Tlv
set_option maxRecDepth 100000
noncomputable section
def PM{α:Type}(arg:α->Value)(p:α->Bool):PMt:=fun a K=>∃x:α,a=arg x/\K (p x)
theorem branch_mk{b:Bool}{X Y:Prop}(h1:b=true->X)(h2:b=false->Y):branch b X Y:=by cases b;exact h2 rfl;exact h1 rfl
abbrev InvI{α:Type}(l:List α)(p:α->Bool):={i:Nat // i<=l.length/\(l.take i).any p=false}
def RI{α:Type}(l:List α)(p:α->Bool)(e:Exit)(v:List Value)(o:List (Option AObj)):Prop:=
 (l.any p=true/\e = .ret/\o=[]/\∃i:Nat,v=[.int .i64 (i:Int)])∨(l.any p=false/\e = .exit 0/\v=[top]/\o=[])
def big:Nat:=1000000000
def LI{α:Type}(c:α->List Value)(p:α->Bool)(f ix:Nat):LIt:=fun code n vals obs A E=>∃l:List α,l.length<big/\code=loopIn Tryz.prog ix 2/\n=19/\vals=[dsl (rowsOf c l),.func (.func f) ⟨[]⟩ ⟨[]⟩,.int .i64 (Int.ofNat l.length),.int .i64 (0:Int)]/\obs=[]/\
 (l.any p=true->∀i:Nat,A (i:Int))/\(l.any p=false->E)
def II{α:Type}(c:α->List Value)(f:Nat)(l:List α)(p:α->Bool)(i:InvI l p):List Value×List (Option AObj):=([dsl (rowsOf c l),.func (.func f) ⟨[]⟩ ⟨[]⟩,.int .i64 (l.length:Int),.int .i64 (i.1:Int)],[])
abbrev MCt:=List Value->(Bool->Prop)->Prop
def sCt(f:Nat)(M:MCt):List Value->(Value->Prop)->Prop
 | [.iface t (.agg ⟨rs⟩),.func (.func g) ⟨x⟩ ⟨y⟩],K=>match Nat.beq t mkD,Nat.beq g f,x,y with
  |true,true,[],[]=>M rs fun b=>K (.bool b)
  |_,_,_,_=>False
 |_,_=>False
def MC{α:Type}(c:α->List Value)(p:α->Bool):MCt:=fun rs K=>∃l:List α,rs=rowsOf c l/\l.length<big/\K (l.any p)
theorem p117C(n:Int):Is (gP117 (real Tryz.prog) n (PQ (.bool (pInt n)))):=by
 refine⟨?_⟩
 rw[gP117_eq]
 exact n_lss (fun h=>PQ.of (by simp[pInt,okI];omega) rfl) (fun h=>n_gtr (fun h2=>PQ.of (by simp[pInt,okI];omega) rfl) (fun h2=>PQ.of (by simp[pInt,okI];omega) rfl))
theorem pu117:PuOk Tryz.prog 100 245 (sP (PM (fun n:Int => .int .i64 n) pInt)):=by
 intro args K h
 unfold sP at h
 split at h<;>try exact h.elim
 obtain⟨n,rfl,hK⟩:=h
 exact⟨_,fun B H=>pu_mk okp kn_none lp_none rfl rfl (p117C n) B H,hK⟩
theorem rndInt(l:List Int)(hl:l.length<big)(i:InvI l pInt):
  Is (wpe Tryz.prog (real Tryz.prog) (WPu 245 (PM (fun n:Int => .int .i64 n) pInt)) 300 (.code false (loopIn Tryz.prog 249 2) (stOf 100 19 [0,1,7,8] [] (II cInt 245 l pInt i))) (roundQ 100 [0,1,7,8] [4] 19 []
   (fun vals objs=>∃a':InvI l pInt,l.length-a'.1<l.length-i.1/\Wk 100 (100+0) vals objs (II cInt 245 l pInt a').1 (II cInt 245 l pInt a').2/\∀e v o,RI l pInt e v o->RI l pInt e v o)
   (fun e vals objs=>∃v o,Wk 100 (100+0) vals objs v o/\RI l pInt e v o))):=by
 refine⟨?_⟩
 obtain⟨i,hi,ha⟩:=i
 show gRInt (real Tryz.prog) (PM (fun n:Int => .int .i64 n) pInt) (rowsOf cInt l) (l.length:Int) (i:Int) _ _
 rw[gRInt_eq]
 have hbig:big=1000000000:=rfl
 refine n_ltN (fun hlt=>?_) (fun hge=>?_)
 ·have hx:l[i]?=some l[i]:=by simp[hlt]
  generalize l[i]=x at hx
  refine n_dget i rfl (rowsOf_get hx) rfl (n_rdI rfl (⟨x,rfl,branch_mk (fun hp=>⟨rfl,_,_,Wk.refl _ _ _ _,.inl ⟨any_of hx hp,rfl,rfl,i,rfl⟩⟩) (fun hp=>n_inc (by omega) ⟨rfl,⟨i+1,hlt,any_take hx ha hp⟩,?_,Wk.refl _ _ _ _,fun _ _ _ h=>h⟩)⟩))
  show l.length-(i+1)<l.length-i
  omega
 ·have e:i=l.length:=by omega
  subst e
  rw[List.take_length]at ha
  exact⟨rfl,_,_,Wk.refl _ _ _ _,.inr ⟨ha,rfl,rfl,rfl⟩⟩
theorem lpInt(hpu:PuOk Tryz.prog 100 245 (sP (PM (fun n:Int => .int .i64 n) pInt))):LoopOk Tryz.prog 100 [0,1,7,8] (sLoopI (LI cInt pInt 245 249)):=by
 show LoopOk Tryz.prog 100 [0,1,7,8] (lpS [4] _)
 refine lp_mk okp (W:=WPu 245 (PM (fun n:Int => .int .i64 n) pInt)) (kn_pu (fun x hx=>by simp only[List.mem_singleton]at hx;subst hx;exact hpu)) lp_none ?_
 rintro c n vals obs K ⟨l,hl,hc,hn,hv,ho,hA,hE⟩
 subst hc;subst hn;subst hv;subst ho
 refine⟨InvI l pInt,0,300,fun a=>l.length-a.1,II cInt 245 l pInt,fun _ e v o=>RI l pInt e v o,⟨0,Nat.zero_le _,rfl⟩,rfl,Wk.refl _ _ _ _,?_,rndInt l hl⟩
 intro e v o hR
 rcases hR with⟨h1,rfl,rfl,i,rfl⟩ | ⟨h1,rfl,rfl,rfl⟩
 ·exact hA h1 i
 ·exact hE h1
theorem ctIntC(l:List Int)(hl:l.length<big):Is (gCInt (real Tryz.prog) (LI cInt pInt 245 249) (rowsOf cInt l) (PQ (.bool (l.any pInt)))):=by
 refine⟨?_⟩
 rw[gCInt_eq]
 refine n_dlen l.length (rowsOf_len _ _) ⟨l,hl,rfl,rfl,rfl,rfl,fun h i=>?_,fun h=>?_⟩
 ·exact n_geq (fun _=>PQ.of (by rw[h]) rfl) (fun h=>absurd (Int.natCast_nonneg i) h)
 ·exact n_geq (fun h=>absurd h (by decide)) (fun _=>PQ.of (by rw[h]) rfl)
theorem pu116(hpu:PuOk Tryz.prog 100 245 (sP (PM (fun n:Int => .int .i64 n) pInt))):PuOk Tryz.prog 100 244 (sCt 245 (MC cInt pInt)):=by
 intro args K h
 unfold sCt at h
 split at h<;>try exact h.elim
 rename_i t rs g x y
 split at h<;>try exact h.elim
 rename_i e1 e2
 obtain rfl:=Nat.eq_of_beq_eq_true e1
 obtain rfl:=Nat.eq_of_beq_eq_true e2
 obtain⟨l,rfl,hl,hK⟩:=h
 exact⟨_,fun B H=>pu_mk okp kn_none (lp_ok (fun x hx=>by simp only[List.mem_singleton]at hx;subst hx;exact lpInt hpu)) rfl rfl (ctIntC l hl) B H,hK⟩
theorem rndArm(l:List Arm)(hl:l.length<big)(i:InvI l pArm):
  Is (wpe Tryz.prog (real Tryz.prog) (WPu 229 (PM (fun x:Arm => .agg ⟨cArm x⟩) pArm)) 300 (.code false (loopIn Tryz.prog 246 2) (stOf 100 19 [0,1,7,8] [] (II cArm 229 l pArm i))) (roundQ 100 [0,1,7,8] [4] 19 []
   (fun vals objs=>∃a':InvI l pArm,l.length-a'.1<l.length-i.1/\Wk 100 (100+0) vals objs (II cArm 229 l pArm a').1 (II cArm 229 l pArm a').2/\∀e v o,RI l pArm e v o->RI l pArm e v o)
   (fun e vals objs=>∃v o,Wk 100 (100+0) vals objs v o/\RI l pArm e v o))):=by
 refine⟨?_⟩
 obtain⟨i,hi,ha⟩:=i
 show gRArm (real Tryz.prog) (PM (fun x:Arm => .agg ⟨cArm x⟩) pArm) (rowsOf cArm l) (l.length:Int) (i:Int) _ _
 rw[gRArm_eq]
 have hbig:big=1000000000:=rfl
 refine n_ltN (fun hlt=>?_) (fun hge=>?_)
 ·have hx:l[i]?=some l[i]:=by simp[hlt]
  generalize l[i]=x at hx
  refine n_dget i rfl (rowsOf_get hx) rfl (n_rdI rfl (n_rdI rfl (⟨x,rfl,branch_mk (fun hp=>⟨rfl,_,_,Wk.refl _ _ _ _,.inl ⟨any_of hx hp,rfl,rfl,i,rfl⟩⟩) (fun hp=>n_inc (by omega) ⟨rfl,⟨i+1,hlt,any_take hx ha hp⟩,?_,Wk.refl _ _ _ _,fun _ _ _ h=>h⟩)⟩)))
  show l.length-(i+1)<l.length-i
  omega
 ·have e:i=l.length:=by omega
  subst e
  rw[List.take_length]at ha
  exact⟨rfl,_,_,Wk.refl _ _ _ _,.inr ⟨ha,rfl,rfl,rfl⟩⟩
theorem lpArm(hpu:PuOk Tryz.prog 100 229 (sP (PM (fun x:Arm => .agg ⟨cArm x⟩) pArm))):LoopOk Tryz.prog 100 [0,1,7,8] (sLoopI (LI cArm pArm 229 246)):=by
 show LoopOk Tryz.prog 100 [0,1,7,8] (lpS [4] _)
 refine lp_mk okp (W:=WPu 229 (PM (fun x:Arm => .agg ⟨cArm x⟩) pArm)) (kn_pu (fun x hx=>by simp only[List.mem_singleton]at hx;subst hx;exact hpu)) lp_none ?_
 rintro c n vals obs K ⟨l,hl,hc,hn,hv,ho,hA,hE⟩
 subst hc;subst hn;subst hv;subst ho
 refine⟨InvI l pArm,0,300,fun a=>l.length-a.1,II cArm 229 l pArm,fun _ e v o=>RI l pArm e v o,⟨0,Nat.zero_le _,rfl⟩,rfl,Wk.refl _ _ _ _,?_,rndArm l hl⟩
 intro e v o hR
 rcases hR with⟨h1,rfl,rfl,i,rfl⟩ | ⟨h1,rfl,rfl,rfl⟩
 ·exact hA h1 i
 ·exact hE h1
theorem ctArmC(l:List Arm)(hl:l.length<big):Is (gCArm (real Tryz.prog) (LI cArm pArm 229 246) (rowsOf cArm l) (PQ (.bool (l.any pArm)))):=by
 refine⟨?_⟩
 rw[gCArm_eq]
 refine n_dlen l.length (rowsOf_len _ _) ⟨l,hl,rfl,rfl,rfl,rfl,fun h i=>?_,fun h=>?_⟩
 ·exact n_geq (fun _=>PQ.of (by rw[h]) rfl) (fun h=>absurd (Int.natCast_nonneg i) h)
 ·exact n_geq (fun h=>absurd h (by decide)) (fun _=>PQ.of (by rw[h]) rfl)
theorem pu85(hpu:PuOk Tryz.prog 100 229 (sP (PM (fun x:Arm => .agg ⟨cArm x⟩) pArm))):PuOk Tryz.prog 100 228 (sCt 229 (MC cArm pArm)):=by
 intro args K h
 unfold sCt at h
 split at h<;>try exact h.elim
 rename_i t rs g x y
 split at h<;>try exact h.elim
 rename_i e1 e2
 obtain rfl:=Nat.eq_of_beq_eq_true e1
 obtain rfl:=Nat.eq_of_beq_eq_true e2
 obtain⟨l,rfl,hl,hK⟩:=h
 exact⟨_,fun B H=>pu_mk okp kn_none (lp_ok (fun x hx=>by simp only[List.mem_singleton]at hx;subst hx;exact lpArm hpu)) rfl rfl (ctArmC l hl) B H,hK⟩
theorem rndInstr(l:List Instr)(hl:l.length<big)(i:InvI l pInstr):
  Is (wpe Tryz.prog (real Tryz.prog) (WPu 234 (PM (fun x:Instr => .agg ⟨cInstr x⟩) pInstr)) 300 (.code false (loopIn Tryz.prog 247 2) (stOf 100 19 [0,1,7,8] [] (II cInstr 234 l pInstr i))) (roundQ 100 [0,1,7,8] [4] 19 []
   (fun vals objs=>∃a':InvI l pInstr,l.length-a'.1<l.length-i.1/\Wk 100 (100+0) vals objs (II cInstr 234 l pInstr a').1 (II cInstr 234 l pInstr a').2/\∀e v o,RI l pInstr e v o->RI l pInstr e v o)
   (fun e vals objs=>∃v o,Wk 100 (100+0) vals objs v o/\RI l pInstr e v o))):=by
 refine⟨?_⟩
 obtain⟨i,hi,ha⟩:=i
 show gRInstr (real Tryz.prog) (PM (fun x:Instr => .agg ⟨cInstr x⟩) pInstr) (rowsOf cInstr l) (l.length:Int) (i:Int) _ _
 rw[gRInstr_eq]
 have hbig:big=1000000000:=rfl
 refine n_ltN (fun hlt=>?_) (fun hge=>?_)
 ·have hx:l[i]?=some l[i]:=by simp[hlt]
  generalize l[i]=x at hx
  refine n_dget i rfl (rowsOf_get hx) rfl (n_rdI rfl (n_rdI rfl (n_rdI rfl (n_rdI rfl (n_rdI rfl (n_rdI rfl (n_rdI rfl (⟨x,rfl,branch_mk (fun hp=>⟨rfl,_,_,Wk.refl _ _ _ _,.inl ⟨any_of hx hp,rfl,rfl,i,rfl⟩⟩) (fun hp=>n_inc (by omega) ⟨rfl,⟨i+1,hlt,any_take hx ha hp⟩,?_,Wk.refl _ _ _ _,fun _ _ _ h=>h⟩)⟩))))))))
  show l.length-(i+1)<l.length-i
  omega
 ·have e:i=l.length:=by omega
  subst e
  rw[List.take_length]at ha
  exact⟨rfl,_,_,Wk.refl _ _ _ _,.inr ⟨ha,rfl,rfl,rfl⟩⟩
theorem lpInstr(hpu:PuOk Tryz.prog 100 234 (sP (PM (fun x:Instr => .agg ⟨cInstr x⟩) pInstr))):LoopOk Tryz.prog 100 [0,1,7,8] (sLoopI (LI cInstr pInstr 234 247)):=by
 show LoopOk Tryz.prog 100 [0,1,7,8] (lpS [4] _)
 refine lp_mk okp (W:=WPu 234 (PM (fun x:Instr => .agg ⟨cInstr x⟩) pInstr)) (kn_pu (fun x hx=>by simp only[List.mem_singleton]at hx;subst hx;exact hpu)) lp_none ?_
 rintro c n vals obs K ⟨l,hl,hc,hn,hv,ho,hA,hE⟩
 subst hc;subst hn;subst hv;subst ho
 refine⟨InvI l pInstr,0,300,fun a=>l.length-a.1,II cInstr 234 l pInstr,fun _ e v o=>RI l pInstr e v o,⟨0,Nat.zero_le _,rfl⟩,rfl,Wk.refl _ _ _ _,?_,rndInstr l hl⟩
 intro e v o hR
 rcases hR with⟨h1,rfl,rfl,i,rfl⟩ | ⟨h1,rfl,rfl,rfl⟩
 ·exact hA h1 i
 ·exact hE h1
theorem ctInstrC(l:List Instr)(hl:l.length<big):Is (gCInstr (real Tryz.prog) (LI cInstr pInstr 234 247) (rowsOf cInstr l) (PQ (.bool (l.any pInstr)))):=by
 refine⟨?_⟩
 rw[gCInstr_eq]
 refine n_dlen l.length (rowsOf_len _ _) ⟨l,hl,rfl,rfl,rfl,rfl,fun h i=>?_,fun h=>?_⟩
 ·exact n_geq (fun _=>PQ.of (by rw[h]) rfl) (fun h=>absurd (Int.natCast_nonneg i) h)
 ·exact n_geq (fun h=>absurd h (by decide)) (fun _=>PQ.of (by rw[h]) rfl)
theorem pu87(hpu:PuOk Tryz.prog 100 234 (sP (PM (fun x:Instr => .agg ⟨cInstr x⟩) pInstr))):PuOk Tryz.prog 100 233 (sCt 234 (MC cInstr pInstr)):=by
 intro args K h
 unfold sCt at h
 split at h<;>try exact h.elim
 rename_i t rs g x y
 split at h<;>try exact h.elim
 rename_i e1 e2
 obtain rfl:=Nat.eq_of_beq_eq_true e1
 obtain rfl:=Nat.eq_of_beq_eq_true e2
 obtain⟨l,rfl,hl,hK⟩:=h
 exact⟨_,fun B H=>pu_mk okp kn_none (lp_ok (fun x hx=>by simp only[List.mem_singleton]at hx;subst hx;exact lpInstr hpu)) rfl rfl (ctInstrC l hl) B H,hK⟩
theorem rndBucket(l:List Bucket)(hl:l.length<big)(i:InvI l pBucket):
  Is (wpe Tryz.prog (real Tryz.prog) (WPu 237 (PM (fun x:Bucket => .agg ⟨cBucket x⟩) pBucket)) 300 (.code false (loopIn Tryz.prog 248 2) (stOf 100 19 [0,1,7,8] [] (II cBucket 237 l pBucket i))) (roundQ 100 [0,1,7,8] [4] 19 []
   (fun vals objs=>∃a':InvI l pBucket,l.length-a'.1<l.length-i.1/\Wk 100 (100+0) vals objs (II cBucket 237 l pBucket a').1 (II cBucket 237 l pBucket a').2/\∀e v o,RI l pBucket e v o->RI l pBucket e v o)
   (fun e vals objs=>∃v o,Wk 100 (100+0) vals objs v o/\RI l pBucket e v o))):=by
 refine⟨?_⟩
 obtain⟨i,hi,ha⟩:=i
 show gRBucket (real Tryz.prog) (PM (fun x:Bucket => .agg ⟨cBucket x⟩) pBucket) (rowsOf cBucket l) (l.length:Int) (i:Int) _ _
 rw[gRBucket_eq]
 have hbig:big=1000000000:=rfl
 refine n_ltN (fun hlt=>?_) (fun hge=>?_)
 ·have hx:l[i]?=some l[i]:=by simp[hlt]
  generalize l[i]=x at hx
  refine n_dget i rfl (rowsOf_get hx) rfl (n_rdI rfl (n_rdI rfl (⟨x,rfl,branch_mk (fun hp=>⟨rfl,_,_,Wk.refl _ _ _ _,.inl ⟨any_of hx hp,rfl,rfl,i,rfl⟩⟩) (fun hp=>n_inc (by omega) ⟨rfl,⟨i+1,hlt,any_take hx ha hp⟩,?_,Wk.refl _ _ _ _,fun _ _ _ h=>h⟩)⟩)))
  show l.length-(i+1)<l.length-i
  omega
 ·have e:i=l.length:=by omega
  subst e
  rw[List.take_length]at ha
  exact⟨rfl,_,_,Wk.refl _ _ _ _,.inr ⟨ha,rfl,rfl,rfl⟩⟩
theorem lpBucket(hpu:PuOk Tryz.prog 100 237 (sP (PM (fun x:Bucket => .agg ⟨cBucket x⟩) pBucket))):LoopOk Tryz.prog 100 [0,1,7,8] (sLoopI (LI cBucket pBucket 237 248)):=by
 show LoopOk Tryz.prog 100 [0,1,7,8] (lpS [4] _)
 refine lp_mk okp (W:=WPu 237 (PM (fun x:Bucket => .agg ⟨cBucket x⟩) pBucket)) (kn_pu (fun x hx=>by simp only[List.mem_singleton]at hx;subst hx;exact hpu)) lp_none ?_
 rintro c n vals obs K ⟨l,hl,hc,hn,hv,ho,hA,hE⟩
 subst hc;subst hn;subst hv;subst ho
 refine⟨InvI l pBucket,0,300,fun a=>l.length-a.1,II cBucket 237 l pBucket,fun _ e v o=>RI l pBucket e v o,⟨0,Nat.zero_le _,rfl⟩,rfl,Wk.refl _ _ _ _,?_,rndBucket l hl⟩
 intro e v o hR
 rcases hR with⟨h1,rfl,rfl,i,rfl⟩ | ⟨h1,rfl,rfl,rfl⟩
 ·exact hA h1 i
 ·exact hE h1
theorem ctBucketC(l:List Bucket)(hl:l.length<big):Is (gCBucket (real Tryz.prog) (LI cBucket pBucket 237 248) (rowsOf cBucket l) (PQ (.bool (l.any pBucket)))):=by
 refine⟨?_⟩
 rw[gCBucket_eq]
 refine n_dlen l.length (rowsOf_len _ _) ⟨l,hl,rfl,rfl,rfl,rfl,fun h i=>?_,fun h=>?_⟩
 ·exact n_geq (fun _=>PQ.of (by rw[h]) rfl) (fun h=>absurd (Int.natCast_nonneg i) h)
 ·exact n_geq (fun h=>absurd h (by decide)) (fun _=>PQ.of (by rw[h]) rfl)
theorem pu89(hpu:PuOk Tryz.prog 100 237 (sP (PM (fun x:Bucket => .agg ⟨cBucket x⟩) pBucket))):PuOk Tryz.prog 100 236 (sCt 237 (MC cBucket pBucket)):=by
 intro args K h
 unfold sCt at h
 split at h<;>try exact h.elim
 rename_i t rs g x y
 split at h<;>try exact h.elim
 rename_i e1 e2
 obtain rfl:=Nat.eq_of_beq_eq_true e1
 obtain rfl:=Nat.eq_of_beq_eq_true e2
 obtain⟨l,rfl,hl,hK⟩:=h
 exact⟨_,fun B H=>pu_mk okp kn_none (lp_ok (fun x hx=>by simp only[List.mem_singleton]at hx;subst hx;exact lpBucket hpu)) rfl rfl (ctBucketC l hl) B H,hK⟩
end
end Go.Proofs.YtblbaohcelldpaaGreatDoor.Ob
namespace Go.Proofs.YtblbaohcelldpaaGreatDoor.Ob
open Go Go.Abs Go.Tlv
noncomputable section
structure Mi where
 own:List Value->(Bool->Prop)->Prop
 deep:List Value->(Bool->Prop)->Prop
def sInts(M:Mi):List Value->Heap->VK->Prop
 | [.slice (some ⟨b,0,none⟩) k k'],H,K=>match H.get b with
  |some (.cells vs e sz lo ow)=>match Nat.beq sz 1&&ow with
   |true=>k=vs.length/\k'=k/\M.own vs fun b=>K (.bool b) H
   |false=>False
  |_=>False
 | [.iface t (.agg ⟨rs⟩)],H,K=>match Nat.beq t mkD with
  |true=>M.deep rs fun b=>K (.bool b) H
  |false=>False
 |_,_,_=>False
abbrev S0:Sy:=fun _=>none
abbrev Sp0:Nat->Bool:=fun _=>false
def gInts(N:Nd)(M:MCt)(rows:List Value)(K:RK):Prop:=wpe Tryz.prog N (howOf S0 Sp0 [] [] [(244,sCt 245 M)] []) 300 (.call 227 [(dsl rows)] h0) (retQ 100 K)
def WIn(f:Nat)(M:Mi):How:=howOf S0 Sp0 [(f,sInts M)] [] [] []
def gP86(N:Nd)(M:Mi)(v nx:Int)(K:RK):Prop:=wpe Tryz.prog N (WIn 227 M) 300 (.call 229 [.agg ⟨[.int .u32 v,.int .i64 nx]⟩] h0) (retQ 100 K)
def gP88(N:Nd)(M:Mi)(op to ak an bk bn n:Int)(K:RK):Prop:=wpe Tryz.prog N (WIn 227 M) 300 (.call 234 [.agg ⟨[.int .u8 op,.int .i64 to,.int .u8 ak,.int .u64 an,.int .u8 bk,.int .u64 bn,.int .i64 n]⟩] h0) (retQ 100 K)
def gP90(N:Nd)(M:Mi)(w b:Int)(K:RK):Prop:=wpe Tryz.prog N (WIn 227 M) 300 (.call 237 [.agg ⟨[.int .u64 w,.int .i64 b]⟩] h0) (retQ 100 K)
set_option maxRecDepth 100000
theorem gInts_eq(N:Nd)(M:MCt)(rows:List Value)(K:RK):gInts N M rows K=(M rows (fun b0=>branch b0
 (K (.bool false) [])
 (K (.bool true) []))):=by kernel_rfl
theorem gP86_eq(N:Nd)(M:Mi)(v nx:Int)(K:RK):gP86 N M v nx K=((1=1)/\((1=1)/\(M.own [.int .i64 nx] (fun b0=>branch b0
 (K (.bool false) [qq16 v nx,qq13 nx])
 (K (.bool true) [qq16 v nx,qq13 nx]))))):=by kernel_rfl
theorem gP88_eq(N:Nd)(M:Mi)(op to ak an bk bn n:Int)(K:RK):gP88 N M op to ak an bk bn n K=((2=2)/\((2=2)/\(M.own [.int .i64 to,.int .i64 n] (fun b0=>branch b0
 (K (.bool false) [qq7 op to ak an bk bn n,qq15 to n])
 (K (.bool true) [qq7 op to ak an bk bn n,qq15 to n]))))):=by kernel_rfl
theorem gP90_eq(N:Nd)(M:Mi)(w b:Int)(K:RK):gP90 N M w b K=((1=1)/\((1=1)/\(M.own [.int .i64 b] (fun b0=>branch b0
 (K (.bool false) [qq17 w b,qq13 b])
 (K (.bool true) [qq17 w b,qq13 b]))))):=by kernel_rfl
set_option maxRecDepth 100000
def gMayNode(N:Nd)(M:Mi)(MA:MCt)(id size lo lw lu so sw:Int)(arms:List Value)(ot:Int)(K:RK):Prop:=wpe Tryz.prog N (howOf S0 Sp0 [(227,sInts M)] [] [(228,sCt 229 MA)] []) 300 (.call 153 [.agg ⟨[.int .i64 id,.int .i64 size,.int .i64 lo,.int .i64 lw,.int .i64 lu,.int .i64 so,.int .i64 sw,dsl arms,.int .i64 ot]⟩] h0) (retQ 100 K)
set_option maxRecDepth 100000
theorem gMayNode_eq(N:Nd)(M:Mi)(MA:MCt)(id size lo lw lu so sw:Int)(arms:List Value)(ot:Int)(K:RK):gMayNode N M MA id size lo lw lu so sw arms ot K=((8=8)/\((8=8)/\(M.own [.int .i64 id,.int .i64 size,.int .i64 lo,.int .i64 lw,.int .i64 lu,.int .i64 so,.int .i64 sw,.int .i64 ot] (fun b0=>branch b0
 (N.dlen arms (fun o1=>N.cmp .leq .i64 (Int.ofNat o1) .i64 32 (MA arms (fun b2=>branch b2
 (K (.bool false) [qq3 id size lo lw lu so sw arms ot,qq12 id size lo lw lu so sw ot])
 (K (.bool true) [qq3 id size lo lw lu so sw arms ot,qq12 id size lo lw lu so sw ot]))) (K (.bool false) [qq3 id size lo lw lu so sw arms ot,qq12 id size lo lw lu so sw ot])))
 (K (.bool false) [qq3 id size lo lw lu so sw arms ot,qq12 id size lo lw lu so sw ot]))))):=by kernel_rfl
set_option maxRecDepth 100000
def gMayField(N:Nd)(M:Mi)(MA:MCt)(id base node off wid:Int)(K:RK):Prop:=wpe Tryz.prog N (howOf S0 Sp0 [(227,sInts M)] [] [] []) 300 (.call 165 [.agg ⟨[.int .i64 id,.int .u8 base,.int .i64 node,.int .i64 off,.int .i64 wid]⟩] h0) (retQ 100 K)
set_option maxRecDepth 100000
theorem gMayField_eq(N:Nd)(M:Mi)(MA:MCt)(id base node off wid:Int)(K:RK):gMayField N M MA id base node off wid K=((4=4)/\((4=4)/\(M.own [.int .i64 id,.int .i64 node,.int .i64 off,.int .i64 wid] (fun b0=>K (.bool b0) [qq9 id base node off wid,qq10 id node off wid])))):=by kernel_rfl
set_option maxRecDepth 100000
def gMayTable(N:Nd)(M:Mi)(MA:MCt)(id kind:Int)(keys:List Value)(cap miss:Int)(K:RK):Prop:=wpe Tryz.prog N (howOf S0 Sp0 [(227,sInts M)] [] [] []) 300 (.call 170 [.agg ⟨[.int .i64 id,.int .u8 kind,dsl keys,.int .i64 cap,.int .i64 miss]⟩] h0) (retQ 100 K)
set_option maxRecDepth 100000
theorem gMayTable_eq(N:Nd)(M:Mi)(MA:MCt)(id kind:Int)(keys:List Value)(cap miss:Int)(K:RK):gMayTable N M MA id kind keys cap miss K=((3=3)/\((3=3)/\(M.own [.int .i64 id,.int .i64 cap,.int .i64 miss] (fun b0=>branch b0
 (N.dlen keys (fun o1=>N.cmp .leq .i64 (Int.ofNat o1) .i64 4 (M.deep keys (fun b2=>K (.bool b2) [qq4 id kind keys cap miss,(some (AObj.cells [.int .i64 id,.int .i64 cap,.int .i64 miss] 3 1 false true))])) (K (.bool false) [qq4 id kind keys cap miss,(some (AObj.cells [.int .i64 id,.int .i64 cap,.int .i64 miss] 3 1 false true))])))
 (K (.bool false) [qq4 id kind keys cap miss,(some (AObj.cells [.int .i64 id,.int .i64 cap,.int .i64 miss] 3 1 false true))]))))):=by kernel_rfl
set_option maxRecDepth 100000
def gMayEntry(N:Nd)(M:Mi)(MA:MCt)(tab:Int)(key oth:ByteArray)(len prio blk:Int)(args:List Value)(idle hard cook:Int)(tell:Bool)(K:RK):Prop:=wpe Tryz.prog N (howOf S0 Sp0 [(227,sInts M)] [] [] []) 300 (.call 177 [.agg ⟨[.int .i64 tab,.string key,.string oth,.int .i64 len,.int .i64 prio,.int .i64 blk,dsl args,.int .i64 idle,.int .i64 hard,.int .u64 cook,.bool tell]⟩] h0) (retQ 100 K)
set_option maxRecDepth 100000
theorem gMayEntry_eq(N:Nd)(M:Mi)(MA:MCt)(tab:Int)(key oth:ByteArray)(len prio blk:Int)(args:List Value)(idle hard cook:Int)(tell:Bool)(K:RK):gMayEntry N M MA tab key oth len prio blk args idle hard cook tell K=((4=4)/\((4=4)/\(M.own [.int .i64 tab,.int .i64 len,.int .i64 prio,.int .i64 blk] (fun b0=>branch b0
 (N.cmp .geq .i64 idle .i64 0 (N.cmp .geq .i64 hard .i64 0 (N.slen key (fun z1=>N.cmp .leq .i64 z1 .i64 32 (N.slen oth (fun z2=>N.cmp .leq .i64 z2 .i64 32 (N.dlen args (fun o3=>N.cmp .leq .i64 (Int.ofNat o3) .i64 4 (K (.bool true) [qq0 tab key oth len prio blk args idle hard cook tell,qq10 tab len prio blk]) (K (.bool false) [qq0 tab key oth len prio blk args idle hard cook tell,qq10 tab len prio blk]))) (K (.bool false) [qq0 tab key oth len prio blk args idle hard cook tell,qq10 tab len prio blk]))) (K (.bool false) [qq0 tab key oth len prio blk args idle hard cook tell,qq10 tab len prio blk]))) (K (.bool false) [qq0 tab key oth len prio blk args idle hard cook tell,qq10 tab len prio blk])) (K (.bool false) [qq0 tab key oth len prio blk args idle hard cook tell,qq10 tab len prio blk]))
 (K (.bool false) [qq0 tab key oth len prio blk args idle hard cook tell,qq10 tab len prio blk]))))):=by kernel_rfl
set_option maxRecDepth 100000
def gMayBlock(N:Nd)(M:Mi)(MA:MCt)(id:Int)(code:List Value)(K:RK):Prop:=wpe Tryz.prog N (howOf S0 Sp0 [(227,sInts M)] [] [(233,sCt 234 MA)] []) 300 (.call 188 [.agg ⟨[.int .i64 id,dsl code]⟩] h0) (retQ 100 K)
set_option maxRecDepth 100000
theorem gMayBlock_eq(N:Nd)(M:Mi)(MA:MCt)(id:Int)(code:List Value)(K:RK):gMayBlock N M MA id code K=((1=1)/\((1=1)/\(M.own [.int .i64 id] (fun b0=>branch b0
 (N.dlen code (fun o1=>N.cmp .leq .i64 (Int.ofNat o1) .i64 32 (MA code (fun b2=>branch b2
 (K (.bool false) [qq8 id code,qq13 id])
 (K (.bool true) [qq8 id code,qq13 id]))) (K (.bool false) [qq8 id code,qq13 id])))
 (K (.bool false) [qq8 id code,qq13 id]))))):=by kernel_rfl
set_option maxRecDepth 100000
def gMayGroup(N:Nd)(M:Mi)(MA:MCt)(id kind fld:Int)(bks:List Value)(K:RK):Prop:=wpe Tryz.prog N (howOf S0 Sp0 [(227,sInts M)] [] [(236,sCt 237 MA)] []) 300 (.call 196 [.agg ⟨[.int .i64 id,.int .u8 kind,.int .i64 fld,dsl bks]⟩] h0) (retQ 100 K)
set_option maxRecDepth 100000
theorem gMayGroup_eq(N:Nd)(M:Mi)(MA:MCt)(id kind fld:Int)(bks:List Value)(K:RK):gMayGroup N M MA id kind fld bks K=((2=2)/\((2=2)/\(M.own [.int .i64 id,.int .i64 fld] (fun b0=>branch b0
 (N.dlen bks (fun o1=>N.cmp .leq .i64 (Int.ofNat o1) .i64 16 (MA bks (fun b2=>branch b2
 (K (.bool false) [qq6 id kind fld bks,qq15 id fld])
 (K (.bool true) [qq6 id kind fld bks,qq15 id fld]))) (K (.bool false) [qq6 id kind fld bks,qq15 id fld])))
 (K (.bool false) [qq6 id kind fld bks,qq15 id fld]))))):=by kernel_rfl
set_option maxRecDepth 100000
def gMayMeter(N:Nd)(M:Mi)(MA:MCt)(id rate burst:Int)(K:RK):Prop:=wpe Tryz.prog N (howOf S0 Sp0 [(227,sInts M)] [] [] []) 300 (.call 204 [.agg ⟨[.int .i64 id,.int .i64 rate,.int .i64 burst]⟩] h0) (retQ 100 K)
set_option maxRecDepth 100000
theorem gMayMeter_eq(N:Nd)(M:Mi)(MA:MCt)(id rate burst:Int)(K:RK):gMayMeter N M MA id rate burst K=((1=1)/\((1=1)/\(M.own [.int .i64 id] (fun b0=>branch b0
 (N.cmp .geq .i64 rate .i64 0 (N.cmp .geq .i64 burst .i64 0 (K (.bool true) [qq11 id rate burst,qq13 id]) (K (.bool false) [qq11 id rate burst,qq13 id])) (K (.bool false) [qq11 id rate burst,qq13 id]))
 (K (.bool false) [qq11 id rate burst,qq13 id]))))):=by kernel_rfl
set_option maxRecDepth 100000
def gMayRegs(N:Nd)(M:Mi)(MA:MCt)(id size:Int)(K:RK):Prop:=wpe Tryz.prog N (howOf S0 Sp0 [(227,sInts M)] [] [] []) 300 (.call 208 [.agg ⟨[.int .i64 id,.int .i64 size]⟩] h0) (retQ 100 K)
set_option maxRecDepth 100000
theorem gMayRegs_eq(N:Nd)(M:Mi)(MA:MCt)(id size:Int)(K:RK):gMayRegs N M MA id size K=((2=2)/\((2=2)/\(M.own [.int .i64 id,.int .i64 size] (fun b0=>K (.bool b0) [qq18 id size,qq15 id size])))):=by kernel_rfl
set_option maxRecDepth 100000
end
end Go.Proofs.YtblbaohcelldpaaGreatDoor.Ob
