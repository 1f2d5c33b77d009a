/- . -/
import Derived.Test.YtblbaohcelldpaaGreatDoorT2
set_option linter.all false
set_option maxRecDepth 100000
namespace Go.Proofs.Ob
open Go Go.Abs Go.Tlv
noncomputable section
abbrev LIt:=Code->Nat->Lv->Lo->(Int->Prop)->Prop->Prop
def lC(L:LIt):LpS:=lpS [4] fun c n AB obs K=>L c n AB obs (fun i=>K .ret [.int .i64 i] []) (K (.exit 0) [top] [])
def WI(L:LIt):How:=AP (fun _=>none) (fun _=>false) [] [(2,(19,([0,1,7,8],lC L)))] [] []
abbrev PMt:=Value->(Bool->Prop)->Prop
def sP(M:PMt):Lv->(Value->Prop)->Prop
 | [a],K=>M a fun b=>K (.bool b)
 |_,_=>False
def WPu(f:Nat)(M:PMt):How:=AP (fun _=>none) (fun _=>false) [] [] [(f,sP M)] []
def ALn(N:Nd)(n:Int)(K:RK):Prop:=wpe Tryz.prog N (AP (fun _=>none) (fun _=>false) [] [] [] []) 300 (.call 245 [(.int .i64 n)] h0) (FD 100 K)
theorem AG3(N:Nd)(n:Int)(K:RK):ALn N n K=(N.cmp .lss .i64 n .i64 0 (K (.bool true) []) (N.cmp .gtr .i64 n .i64 2147483647 (K (.bool true) []) (K (.bool false) []))):=by kernel_rfl
def ALc(N:Nd)(L:LIt)(AY:Lv)(K:RK):Prop:=wpe Tryz.prog N (WI L) 300 (.call 228 [(dsl AY),.func (.func 229) ⟨[]⟩ ⟨[]⟩] h0) (FD 100 K)
def ALA(N:Nd)(M:PMt)(AY:Lv)(n i:Int)(back:Bk)(out:Ot):Prop:=
 wpe Tryz.prog N (WPu 229 M) 300 (.code false (AJ Tryz.prog 246 2) (CX 100 19 [0,1,7,8] [] ([dsl AY,.func (.func 229) ⟨[]⟩ ⟨[]⟩,.int .i64 n,.int .i64 i],[]))) (A7 100 [0,1,7,8] [4] 19 [] back out)
theorem AGN(N:Nd)(L:LIt)(AY:Lv)(K:RK):ALc N L AY K=(N.dlen AY (fun o0=>L (AJ Tryz.prog 246 2) 19 [dsl AY,(.func (Fn.func 229) ⟨[]⟩ ⟨[]⟩),(.int .i64 (Int.ofNat o0)),.int .i64 0] [] (fun z1=>N.cmp .geq .i64 z1 .i64 0 (K (.bool true) []) (K (.bool false) [])) (N.cmp .geq .i64 (-1:Int) .i64 0 (K (.bool true) []) (K (.bool false) [])))):=by kernel_rfl
theorem AG4(N:Nd)(M:PMt)(AY:Lv)(n i:Int)(back:Bk)(out:Ot):ALA N M AY n i back out=(N.cmp .lss .i64 i .i64 n (N.dget AY i 2 (fun l0=>N.rdI .u32 l0 0 (fun z1=>N.rdI .i64 l0 1 (fun z2=>M (.agg (Array.mk [.int .u32 z1,.int .i64 z2])) (fun b3=>branch b3
 (nD/\(out Exit.ret [.int .i64 i] []))
 (N.ari .add .i64 i .i64 1 (fun z4=>nD/\(back [dsl AY,(.func (Fn.func 229) ⟨[]⟩ ⟨[]⟩),.int .i64 n,.int .i64 z4] [])))))))) (nD/\(out (Exit.exit 0) [(.chan (some 0))] []))):=by kernel_rfl
def AC0(N:Nd)(L:LIt)(AY:Lv)(K:RK):Prop:=wpe Tryz.prog N (WI L) 300 (.call 233 [(dsl AY),.func (.func 234) ⟨[]⟩ ⟨[]⟩] h0) (FD 100 K)
def ADd(N:Nd)(M:PMt)(AY:Lv)(n i:Int)(back:Bk)(out:Ot):Prop:=
 wpe Tryz.prog N (WPu 234 M) 300 (.code false (AJ Tryz.prog 247 2) (CX 100 19 [0,1,7,8] [] ([dsl AY,.func (.func 234) ⟨[]⟩ ⟨[]⟩,.int .i64 n,.int .i64 i],[]))) (A7 100 [0,1,7,8] [4] 19 [] back out)
theorem ABn(N:Nd)(L:LIt)(AY:Lv)(K:RK):AC0 N L AY K=(N.dlen AY (fun o0=>L (AJ Tryz.prog 247 2) 19 [dsl AY,(.func (Fn.func 234) ⟨[]⟩ ⟨[]⟩),(.int .i64 (Int.ofNat o0)),.int .i64 0] [] (fun z1=>N.cmp .geq .i64 z1 .i64 0 (K (.bool true) []) (K (.bool false) [])) (N.cmp .geq .i64 (-1:Int) .i64 0 (K (.bool true) []) (K (.bool false) [])))):=by kernel_rfl
theorem ABD(N:Nd)(M:PMt)(AY:Lv)(n i:Int)(back:Bk)(out:Ot):ADd N M AY n i back out=(N.cmp .lss .i64 i .i64 n (N.dget AY i 7 (fun l0=>N.rdI .u8 l0 0 (fun z1=>N.rdI .i64 l0 1 (fun z2=>N.rdI .u8 l0 2 (fun z3=>N.rdI .u64 l0 3 (fun z4=>N.rdI .u8 l0 4 (fun z5=>N.rdI .u64 l0 5 (fun z6=>N.rdI .i64 l0 6 (fun z7=>M (.agg (Array.mk [.int .u8 z1,.int .i64 z2,.int .u8 z3,.int .u64 z4,.int .u8 z5,.int .u64 z6,.int .i64 z7])) (fun b8=>branch b8
 (nD/\(out Exit.ret [.int .i64 i] []))
 (N.ari .add .i64 i .i64 1 (fun z9=>nD/\(back [dsl AY,(.func (Fn.func 234) ⟨[]⟩ ⟨[]⟩),.int .i64 n,.int .i64 z9] []))))))))))))) (nD/\(out (Exit.exit 0) [(.chan (some 0))] []))):=by kernel_rfl
def xI(N:Nd)(L:LIt)(AY:Lv)(K:RK):Prop:=wpe Tryz.prog N (WI L) 300 (.call 236 [(dsl AY),.func (.func 237) ⟨[]⟩ ⟨[]⟩] h0) (FD 100 K)
def xX(N:Nd)(M:PMt)(AY:Lv)(n i:Int)(back:Bk)(out:Ot):Prop:=
 wpe Tryz.prog N (WPu 237 M) 300 (.code false (AJ Tryz.prog 248 2) (CX 100 19 [0,1,7,8] [] ([dsl AY,.func (.func 237) ⟨[]⟩ ⟨[]⟩,.int .i64 n,.int .i64 i],[]))) (A7 100 [0,1,7,8] [4] 19 [] back out)
theorem xJ(N:Nd)(L:LIt)(AY:Lv)(K:RK):xI N L AY K=(N.dlen AY (fun o0=>L (AJ Tryz.prog 248 2) 19 [dsl AY,(.func (Fn.func 237) ⟨[]⟩ ⟨[]⟩),(.int .i64 (Int.ofNat o0)),.int .i64 0] [] (fun z1=>N.cmp .geq .i64 z1 .i64 0 (K (.bool true) []) (K (.bool false) [])) (N.cmp .geq .i64 (-1:Int) .i64 0 (K (.bool true) []) (K (.bool false) [])))):=by kernel_rfl
theorem xY(N:Nd)(M:PMt)(AY:Lv)(n i:Int)(back:Bk)(out:Ot):xX N M AY n i back out=(N.cmp .lss .i64 i .i64 n (N.dget AY i 2 (fun l0=>N.rdI .u64 l0 0 (fun z1=>N.rdI .i64 l0 1 (fun z2=>M (.agg (Array.mk [.int .u64 z1,.int .i64 z2])) (fun b3=>branch b3
 (nD/\(out Exit.ret [.int .i64 i] []))
 (N.ari .add .i64 i .i64 1 (fun z4=>nD/\(back [dsl AY,(.func (Fn.func 237) ⟨[]⟩ ⟨[]⟩),.int .i64 n,.int .i64 z4] [])))))))) (nD/\(out (Exit.exit 0) [(.chan (some 0))] []))):=by kernel_rfl
def ALd(N:Nd)(L:LIt)(AY:Lv)(K:RK):Prop:=wpe Tryz.prog N (WI L) 300 (.call 244 [(dsl AY),.func (.func 245) ⟨[]⟩ ⟨[]⟩] h0) (FD 100 K)
def ALB(N:Nd)(M:PMt)(AY:Lv)(n i:Int)(back:Bk)(out:Ot):Prop:=
 wpe Tryz.prog N (WPu 245 M) 300 (.code false (AJ Tryz.prog 249 2) (CX 100 19 [0,1,7,8] [] ([dsl AY,.func (.func 245) ⟨[]⟩ ⟨[]⟩,.int .i64 n,.int .i64 i],[]))) (A7 100 [0,1,7,8] [4] 19 [] back out)
theorem AGO(N:Nd)(L:LIt)(AY:Lv)(K:RK):ALd N L AY K=(N.dlen AY (fun o0=>L (AJ Tryz.prog 249 2) 19 [dsl AY,(.func (Fn.func 245) ⟨[]⟩ ⟨[]⟩),(.int .i64 (Int.ofNat o0)),.int .i64 0] [] (fun z1=>N.cmp .geq .i64 z1 .i64 0 (K (.bool true) []) (K (.bool false) [])) (N.cmp .geq .i64 (-1:Int) .i64 0 (K (.bool true) []) (K (.bool false) [])))):=by kernel_rfl
theorem AG5(N:Nd)(M:PMt)(AY:Lv)(n i:Int)(back:Bk)(out:Ot):ALB N M AY n i back out=(N.cmp .lss .i64 i .i64 n (N.dget AY i 1 (fun l0=>N.rdI .i64 l0 0 (fun z1=>M (.int .i64 z1) (fun b2=>branch b2
 (nD/\(out Exit.ret [.int .i64 i] []))
 (N.ari .add .i64 i .i64 1 (fun z3=>nD/\(back [dsl AY,(.func (Fn.func 245) ⟨[]⟩ ⟨[]⟩),.int .i64 n,.int .i64 z3] []))))))) (nD/\(out (Exit.exit 0) [(.chan (some 0))] []))):=by kernel_rfl
def PM{α:Type}(arg:α->Value)(p:α->Bool):PMt:=fun a K=>∃x:α,a=arg x/\K (p x)
theorem CY{b:Bool}{X Y:Prop}(h1:b=true->X)(h2:b=false->Y):branch b X Y:=by cases b;exact h2 rfl;exact h1 rfl
abbrev dC{α:Type}(l:List α)(p:α->Bool):={i:Nat // i<=l.length/\(l.take i).any p=false}
def RI{α:Type}(l:List α)(p:α->Bool)(e:Exit)(v:Lv)(o:Lo):Prop:=
 (l.any p=true/\e = .ret/\o=[]/\∃i:Nat,v=[.int .i64 (i:Int)])∨(l.any p=false/\e = .exit 0/\v=[top]/\o=[])
def big:Nat:=1000000000
def LI{α:Type}(c:α->Lv)(p:α->Bool)(f ix:Nat):LIt:=fun code n AB obs A E=>∃l:List α,l.length<big/\code=AJ Tryz.prog ix 2/\n=19/\AB=[dsl (rowsOf c l),.func (.func f) ⟨[]⟩ ⟨[]⟩,.int .i64 (Int.ofNat l.length),.int .i64 (0:Int)]/\obs=[]/\
 (l.any p=true->∀i:Nat,A (i:Int))/\(l.any p=false->E)
def II{α:Type}(c:α->Lv)(f:Nat)(l:List α)(p:α->Bool)(i:dC l p):Lv×Lo:=([dsl (rowsOf c l),.func (.func f) ⟨[]⟩ ⟨[]⟩,.int .i64 (l.length:Int),.int .i64 (i.1:Int)],[])
abbrev MCt:=Lv->(Bool->Prop)->Prop
def sCt(f:Nat)(M:MCt):Lv->(Value->Prop)->Prop
 | [.iface t (.agg ⟨rs⟩),.func (.func g) ⟨x⟩ ⟨y⟩],K=>match Nat.beq t mkD,Nat.beq g f,x,y with
  |true,true,[],[]=>M rs fun b=>K (.bool b)
  |_,_,_,_=>False
 |_,_=>False
def MC{α:Type}(c:α->Lv)(p:α->Bool):MCt:=fun rs K=>∃l:List α,rs=rowsOf c l/\l.length<big/\K (l.any p)
theorem APw(n:Int):Is (ALn (real Tryz.prog) n (PQ (.bool (OG n)))):=by
 refine⟨?_⟩
 rw[AG3]
 exact ALF (fun h=>PQ.of (by simp[OG,okI];omega) rfl) (fun h=>dB (fun h2=>PQ.of (by simp[OG,okI];omega) rfl) (fun h2=>PQ.of (by simp[OG,okI];omega) rfl))
theorem APL:FY Tryz.prog 100 245 (sP (PM (fun n:Int => .int .i64 n) OG)):=by
 intro args K h
 unfold sP at h
 split at h<;>try exact h.elim
 obtain⟨n,rfl,hK⟩:=h
 exact⟨_,fun B H=>GL okp DC AZ rfl rfl (APw n) B H,hK⟩
theorem AM7(l:List Int)(hl:l.length<big)(i:dC l OG):
  Is (wpe Tryz.prog (real Tryz.prog) (WPu 245 (PM (fun n:Int => .int .i64 n) OG)) 300 (.code false (AJ Tryz.prog 249 2) (CX 100 19 [0,1,7,8] [] (II EM 245 l OG i))) (A7 100 [0,1,7,8] [4] 19 []
   (fun AB AC=>∃a':dC l OG,l.length-a'.1<l.length-i.1/\Wk 100 (100+0) AB AC (II EM 245 l OG a').1 (II EM 245 l OG a').2/\∀e v o,RI l OG e v o->RI l OG e v o)
   (fun e AB AC=>∃v o,Wk 100 (100+0) AB AC v o/\RI l OG e v o))):=by
 refine⟨?_⟩
 obtain⟨i,hi,ha⟩:=i
 show ALB (real Tryz.prog) (PM (fun n:Int => .int .i64 n) OG) (rowsOf EM l) (l.length:Int) (i:Int) _ _
 rw[AG5]
 have hbig:big=1000000000:=rfl
 refine EL (fun hlt=>?_) (fun hge=>?_)
 ·have hx:l[i]?=some l[i]:=by simp[hlt]
  generalize l[i]=x at hx
  refine DK i rfl (CL hx) rfl (CG rfl (⟨x,rfl,CY (fun hp=>⟨rfl,_,_,Wk.refl _ _ _ _,.inl ⟨sJ hx hp,rfl,rfl,i,rfl⟩⟩) (fun hp=>BZ (by omega) ⟨rfl,⟨i+1,hlt,aF hx ha hp⟩,?_,Wk.refl _ _ _ _,fun _ _ _ h=>h⟩)⟩))
  show l.length-(i+1)<l.length-i
  omega
 ·have e:i=l.length:=by omega
  subst e
  rw[List.take_length]at ha
  exact⟨rfl,_,_,Wk.refl _ _ _ _,.inr ⟨ha,rfl,rfl,rfl⟩⟩
theorem APp(hpu:FY Tryz.prog 100 245 (sP (PM (fun n:Int => .int .i64 n) OG))):BH Tryz.prog 100 [0,1,7,8] (lC (LI EM OG 245 249)):=by
 show BH Tryz.prog 100 [0,1,7,8] (lpS [4] _)
 refine FQ okp (W:=WPu 245 (PM (fun n:Int => .int .i64 n) OG)) (EY (fun x hx=>by simp only[List.mem_singleton]at hx;subst hx;exact hpu)) AZ ?_
 rintro c n AB obs K ⟨l,hl,hc,hn,hv,ho,hA,hE⟩
 subst hc;subst hn;subst hv;subst ho
 refine⟨dC l OG,0,300,fun a=>l.length-a.1,II EM 245 l OG,fun _ e v o=>RI l OG e v o,⟨0,Nat.zero_le _,rfl⟩,rfl,Wk.refl _ _ _ _,?_,AM7 l hl⟩
 intro e v o hR
 rcases hR with⟨h1,rfl,rfl,i,rfl⟩ | ⟨h1,rfl,rfl,rfl⟩
 ·exact hA h1 i
 ·exact hE h1
theorem AL1(l:List Int)(hl:l.length<big):Is (ALd (real Tryz.prog) (LI EM OG 245 249) (rowsOf EM l) (PQ (.bool (l.any OG)))):=by
 refine⟨?_⟩
 rw[AGO]
 refine BI l.length (AQ _ _) ⟨l,hl,rfl,rfl,rfl,rfl,fun h i=>?_,fun h=>?_⟩
 ·exact N7 (fun _=>PQ.of (by rw[h]) rfl) (fun h=>absurd (Int.natCast_nonneg i) h)
 ·exact N7 (fun h=>absurd h (by decide)) (fun _=>PQ.of (by rw[h]) rfl)
theorem APK(hpu:FY Tryz.prog 100 245 (sP (PM (fun n:Int => .int .i64 n) OG))):FY Tryz.prog 100 244 (sCt 245 (MC EM OG)):=by
 intro args K h
 unfold sCt at h
 split at h<;>try exact h.elim
 rename_i t rs g x y
 split at h<;>try exact h.elim
 rename_i e1 e2
 obtain rfl:=Nat.eq_of_beq_eq_true e1
 obtain rfl:=Nat.eq_of_beq_eq_true e2
 obtain⟨l,rfl,hl,hK⟩:=h
 exact⟨_,fun B H=>GL okp DC (GH (fun x hx=>by simp only[List.mem_singleton]at hx;subst hx;exact APp hpu)) rfl rfl (AL1 l hl) B H,hK⟩
theorem AM6(l:List Arm)(hl:l.length<big)(i:dC l MX):
  Is (wpe Tryz.prog (real Tryz.prog) (WPu 229 (PM (fun x:Arm => .agg ⟨D7 x⟩) MX)) 300 (.code false (AJ Tryz.prog 246 2) (CX 100 19 [0,1,7,8] [] (II D7 229 l MX i))) (A7 100 [0,1,7,8] [4] 19 []
   (fun AB AC=>∃a':dC l MX,l.length-a'.1<l.length-i.1/\Wk 100 (100+0) AB AC (II D7 229 l MX a').1 (II D7 229 l MX a').2/\∀e v o,RI l MX e v o->RI l MX e v o)
   (fun e AB AC=>∃v o,Wk 100 (100+0) AB AC v o/\RI l MX e v o))):=by
 refine⟨?_⟩
 obtain⟨i,hi,ha⟩:=i
 show ALA (real Tryz.prog) (PM (fun x:Arm => .agg ⟨D7 x⟩) MX) (rowsOf D7 l) (l.length:Int) (i:Int) _ _
 rw[AG4]
 have hbig:big=1000000000:=rfl
 refine EL (fun hlt=>?_) (fun hge=>?_)
 ·have hx:l[i]?=some l[i]:=by simp[hlt]
  generalize l[i]=x at hx
  refine DK i rfl (CL hx) rfl (CG rfl (CG rfl (⟨x,rfl,CY (fun hp=>⟨rfl,_,_,Wk.refl _ _ _ _,.inl ⟨sJ hx hp,rfl,rfl,i,rfl⟩⟩) (fun hp=>BZ (by omega) ⟨rfl,⟨i+1,hlt,aF hx ha hp⟩,?_,Wk.refl _ _ _ _,fun _ _ _ h=>h⟩)⟩)))
  show l.length-(i+1)<l.length-i
  omega
 ·have e:i=l.length:=by omega
  subst e
  rw[List.take_length]at ha
  exact⟨rfl,_,_,Wk.refl _ _ _ _,.inr ⟨ha,rfl,rfl,rfl⟩⟩
theorem APn(hpu:FY Tryz.prog 100 229 (sP (PM (fun x:Arm => .agg ⟨D7 x⟩) MX))):BH Tryz.prog 100 [0,1,7,8] (lC (LI D7 MX 229 246)):=by
 show BH Tryz.prog 100 [0,1,7,8] (lpS [4] _)
 refine FQ okp (W:=WPu 229 (PM (fun x:Arm => .agg ⟨D7 x⟩) MX)) (EY (fun x hx=>by simp only[List.mem_singleton]at hx;subst hx;exact hpu)) AZ ?_
 rintro c n AB obs K ⟨l,hl,hc,hn,hv,ho,hA,hE⟩
 subst hc;subst hn;subst hv;subst ho
 refine⟨dC l MX,0,300,fun a=>l.length-a.1,II D7 229 l MX,fun _ e v o=>RI l MX e v o,⟨0,Nat.zero_le _,rfl⟩,rfl,Wk.refl _ _ _ _,?_,AM6 l hl⟩
 intro e v o hR
 rcases hR with⟨h1,rfl,rfl,i,rfl⟩ | ⟨h1,rfl,rfl,rfl⟩
 ·exact hA h1 i
 ·exact hE h1
theorem AL0(l:List Arm)(hl:l.length<big):Is (ALc (real Tryz.prog) (LI D7 MX 229 246) (rowsOf D7 l) (PQ (.bool (l.any MX)))):=by
 refine⟨?_⟩
 rw[AGN]
 refine BI l.length (AQ _ _) ⟨l,hl,rfl,rfl,rfl,rfl,fun h i=>?_,fun h=>?_⟩
 ·exact N7 (fun _=>PQ.of (by rw[h]) rfl) (fun h=>absurd (Int.natCast_nonneg i) h)
 ·exact N7 (fun h=>absurd h (by decide)) (fun _=>PQ.of (by rw[h]) rfl)
theorem ASh(hpu:FY Tryz.prog 100 229 (sP (PM (fun x:Arm => .agg ⟨D7 x⟩) MX))):FY Tryz.prog 100 228 (sCt 229 (MC D7 MX)):=by
 intro args K h
 unfold sCt at h
 split at h<;>try exact h.elim
 rename_i t rs g x y
 split at h<;>try exact h.elim
 rename_i e1 e2
 obtain rfl:=Nat.eq_of_beq_eq_true e1
 obtain rfl:=Nat.eq_of_beq_eq_true e2
 obtain⟨l,rfl,hl,hK⟩:=h
 exact⟨_,fun B H=>GL okp DC (GH (fun x hx=>by simp only[List.mem_singleton]at hx;subst hx;exact APn hpu)) rfl rfl (AL0 l hl) B H,hK⟩
theorem AIr(l:List Instr)(hl:l.length<big)(i:dC l GX):
  Is (wpe Tryz.prog (real Tryz.prog) (WPu 234 (PM (fun x:Instr => .agg ⟨BN x⟩) GX)) 300 (.code false (AJ Tryz.prog 247 2) (CX 100 19 [0,1,7,8] [] (II BN 234 l GX i))) (A7 100 [0,1,7,8] [4] 19 []
   (fun AB AC=>∃a':dC l GX,l.length-a'.1<l.length-i.1/\Wk 100 (100+0) AB AC (II BN 234 l GX a').1 (II BN 234 l GX a').2/\∀e v o,RI l GX e v o->RI l GX e v o)
   (fun e AB AC=>∃v o,Wk 100 (100+0) AB AC v o/\RI l GX e v o))):=by
 refine⟨?_⟩
 obtain⟨i,hi,ha⟩:=i
 show ADd (real Tryz.prog) (PM (fun x:Instr => .agg ⟨BN x⟩) GX) (rowsOf BN l) (l.length:Int) (i:Int) _ _
 rw[ABD]
 have hbig:big=1000000000:=rfl
 refine EL (fun hlt=>?_) (fun hge=>?_)
 ·have hx:l[i]?=some l[i]:=by simp[hlt]
  generalize l[i]=x at hx
  refine DK i rfl (CL hx) rfl (CG rfl (CG rfl (CG rfl (CG rfl (CG rfl (CG rfl (CG rfl (⟨x,rfl,CY (fun hp=>⟨rfl,_,_,Wk.refl _ _ _ _,.inl ⟨sJ hx hp,rfl,rfl,i,rfl⟩⟩) (fun hp=>BZ (by omega) ⟨rfl,⟨i+1,hlt,aF hx ha hp⟩,?_,Wk.refl _ _ _ _,fun _ _ _ h=>h⟩)⟩))))))))
  show l.length-(i+1)<l.length-i
  omega
 ·have e:i=l.length:=by omega
  subst e
  rw[List.take_length]at ha
  exact⟨rfl,_,_,Wk.refl _ _ _ _,.inr ⟨ha,rfl,rfl,rfl⟩⟩
theorem AKh(hpu:FY Tryz.prog 100 234 (sP (PM (fun x:Instr => .agg ⟨BN x⟩) GX))):BH Tryz.prog 100 [0,1,7,8] (lC (LI BN GX 234 247)):=by
 show BH Tryz.prog 100 [0,1,7,8] (lpS [4] _)
 refine FQ okp (W:=WPu 234 (PM (fun x:Instr => .agg ⟨BN x⟩) GX)) (EY (fun x hx=>by simp only[List.mem_singleton]at hx;subst hx;exact hpu)) AZ ?_
 rintro c n AB obs K ⟨l,hl,hc,hn,hv,ho,hA,hE⟩
 subst hc;subst hn;subst hv;subst ho
 refine⟨dC l GX,0,300,fun a=>l.length-a.1,II BN 234 l GX,fun _ e v o=>RI l GX e v o,⟨0,Nat.zero_le _,rfl⟩,rfl,Wk.refl _ _ _ _,?_,AIr l hl⟩
 intro e v o hR
 rcases hR with⟨h1,rfl,rfl,i,rfl⟩ | ⟨h1,rfl,rfl,rfl⟩
 ·exact hA h1 i
 ·exact hE h1
theorem AGD(l:List Instr)(hl:l.length<big):Is (AC0 (real Tryz.prog) (LI BN GX 234 247) (rowsOf BN l) (PQ (.bool (l.any GX)))):=by
 refine⟨?_⟩
 rw[ABn]
 refine BI l.length (AQ _ _) ⟨l,hl,rfl,rfl,rfl,rfl,fun h i=>?_,fun h=>?_⟩
 ·exact N7 (fun _=>PQ.of (by rw[h]) rfl) (fun h=>absurd (Int.natCast_nonneg i) h)
 ·exact N7 (fun h=>absurd h (by decide)) (fun _=>PQ.of (by rw[h]) rfl)
theorem ASj(hpu:FY Tryz.prog 100 234 (sP (PM (fun x:Instr => .agg ⟨BN x⟩) GX))):FY Tryz.prog 100 233 (sCt 234 (MC BN GX)):=by
 intro args K h
 unfold sCt at h
 split at h<;>try exact h.elim
 rename_i t rs g x y
 split at h<;>try exact h.elim
 rename_i e1 e2
 obtain rfl:=Nat.eq_of_beq_eq_true e1
 obtain rfl:=Nat.eq_of_beq_eq_true e2
 obtain⟨l,rfl,hl,hK⟩:=h
 exact⟨_,fun B H=>GL okp DC (GH (fun x hx=>by simp only[List.mem_singleton]at hx;subst hx;exact AKh hpu)) rfl rfl (AGD l hl) B H,hK⟩
theorem AFE(l:List DN)(hl:l.length<big)(i:dC l FH):
  Is (wpe Tryz.prog (real Tryz.prog) (WPu 237 (PM (fun x:DN => .agg ⟨BB x⟩) FH)) 300 (.code false (AJ Tryz.prog 248 2) (CX 100 19 [0,1,7,8] [] (II BB 237 l FH i))) (A7 100 [0,1,7,8] [4] 19 []
   (fun AB AC=>∃a':dC l FH,l.length-a'.1<l.length-i.1/\Wk 100 (100+0) AB AC (II BB 237 l FH a').1 (II BB 237 l FH a').2/\∀e v o,RI l FH e v o->RI l FH e v o)
   (fun e AB AC=>∃v o,Wk 100 (100+0) AB AC v o/\RI l FH e v o))):=by
 refine⟨?_⟩
 obtain⟨i,hi,ha⟩:=i
 show xX (real Tryz.prog) (PM (fun x:DN => .agg ⟨BB x⟩) FH) (rowsOf BB l) (l.length:Int) (i:Int) _ _
 rw[xY]
 have hbig:big=1000000000:=rfl
 refine EL (fun hlt=>?_) (fun hge=>?_)
 ·have hx:l[i]?=some l[i]:=by simp[hlt]
  generalize l[i]=x at hx
  refine DK i rfl (CL hx) rfl (CG rfl (CG rfl (⟨x,rfl,CY (fun hp=>⟨rfl,_,_,Wk.refl _ _ _ _,.inl ⟨sJ hx hp,rfl,rfl,i,rfl⟩⟩) (fun hp=>BZ (by omega) ⟨rfl,⟨i+1,hlt,aF hx ha hp⟩,?_,Wk.refl _ _ _ _,fun _ _ _ h=>h⟩)⟩)))
  show l.length-(i+1)<l.length-i
  omega
 ·have e:i=l.length:=by omega
  subst e
  rw[List.take_length]at ha
  exact⟨rfl,_,_,Wk.refl _ _ _ _,.inr ⟨ha,rfl,rfl,rfl⟩⟩
theorem AHt(hpu:FY Tryz.prog 100 237 (sP (PM (fun x:DN => .agg ⟨BB x⟩) FH))):BH Tryz.prog 100 [0,1,7,8] (lC (LI BB FH 237 248)):=by
 show BH Tryz.prog 100 [0,1,7,8] (lpS [4] _)
 refine FQ okp (W:=WPu 237 (PM (fun x:DN => .agg ⟨BB x⟩) FH)) (EY (fun x hx=>by simp only[List.mem_singleton]at hx;subst hx;exact hpu)) AZ ?_
 rintro c n AB obs K ⟨l,hl,hc,hn,hv,ho,hA,hE⟩
 subst hc;subst hn;subst hv;subst ho
 refine⟨dC l FH,0,300,fun a=>l.length-a.1,II BB 237 l FH,fun _ e v o=>RI l FH e v o,⟨0,Nat.zero_le _,rfl⟩,rfl,Wk.refl _ _ _ _,?_,AFE l hl⟩
 intro e v o hR
 rcases hR with⟨h1,rfl,rfl,i,rfl⟩ | ⟨h1,rfl,rfl,rfl⟩
 ·exact hA h1 i
 ·exact hE h1
theorem AEl(l:List DN)(hl:l.length<big):Is (xI (real Tryz.prog) (LI BB FH 237 248) (rowsOf BB l) (PQ (.bool (l.any FH)))):=by
 refine⟨?_⟩
 rw[xJ]
 refine BI l.length (AQ _ _) ⟨l,hl,rfl,rfl,rfl,rfl,fun h i=>?_,fun h=>?_⟩
 ·exact N7 (fun _=>PQ.of (by rw[h]) rfl) (fun h=>absurd (Int.natCast_nonneg i) h)
 ·exact N7 (fun h=>absurd h (by decide)) (fun _=>PQ.of (by rw[h]) rfl)
theorem ASl(hpu:FY Tryz.prog 100 237 (sP (PM (fun x:DN => .agg ⟨BB x⟩) FH))):FY Tryz.prog 100 236 (sCt 237 (MC BB FH)):=by
 intro args K h
 unfold sCt at h
 split at h<;>try exact h.elim
 rename_i t rs g x y
 split at h<;>try exact h.elim
 rename_i e1 e2
 obtain rfl:=Nat.eq_of_beq_eq_true e1
 obtain rfl:=Nat.eq_of_beq_eq_true e2
 obtain⟨l,rfl,hl,hK⟩:=h
 exact⟨_,fun B H=>GL okp DC (GH (fun x hx=>by simp only[List.mem_singleton]at hx;subst hx;exact AHt hpu)) rfl rfl (AEl l hl) B H,hK⟩
end
end Go.Proofs.Ob
