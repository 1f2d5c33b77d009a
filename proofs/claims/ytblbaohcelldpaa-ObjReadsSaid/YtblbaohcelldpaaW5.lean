/- The evaluator with nodes, of code and calls, and that what it says is so. -/
import Derived.Test.YtblbaohcelldpaaW3
set_option linter.all false
namespace Go.Abs
open Go
noncomputable section
def top:Value := .chan (some 0)
def topFill:Nat->Tr Value->Tr Value
 | 0,t=>t
 |n+1,t=>topFill n (t.set n (some top))
def setsT:List Nat->List Value->Tr Value->Tr Value
 |i::is,v::vs,t=>(setsT is vs t).set i (some v)
 |_,_,t=>t
def tmOf(n:Nat)(is:List Nat)(vs:List Value):Tm:=⟨setsT is vs (topFill n .lf),n⟩
def lk:List Nat->List Value->Nat->Option Value
 |i::is,v::vs,j=>if j=i then some v else lk is vs j
 |_,_,_=>none
theorem topFill_get:∀(n:Nat) (t:Tr Value) (j:Nat),(topFill n t).get j=if j<n then some top else t.get j
 | 0,t,j=>by simp[topFill]
 |n+1,t,j=>by
  simp only[topFill,topFill_get n,Tr.get_set]
  by_cases e:j=n
  ·subst e;rw[if_neg (by omega),if_pos rfl,if_pos (by omega)]
  ·by_cases h:j<n
   ·rw[if_pos h,if_pos (by omega)]
   ·rw[if_neg h,if_neg e,if_neg (by omega)]
theorem setsT_get:∀(is:List Nat) (vs:List Value) (t:Tr Value) (j:Nat),(setsT is vs t).get j=match lk is vs j with|some v=>some v|none=>t.get j
 | [],vs,t,j=>by simp[setsT,lk]
 |i::is,[],t,j=>by simp[setsT,lk]
 |i::is,v::vs,t,j=>by
  simp only[setsT,Tr.get_set,lk,setsT_get is vs]
  by_cases e:j=i
  ·rw[if_pos e,if_pos e]
  ·rw[if_neg e,if_neg e]
theorem tmOf_get(n:Nat)(is:List Nat)(vs:List Value)(j:Nat):(tmOf n is vs).get j=match lk is vs j with|some v=>v|none=>if j<n then top else undef:=by
 unfold Tm.get tmOf
 simp only[setsT_get,topFill_get]
 cases lk is vs j with
 |some v=>rfl
 |none=>
  simp only
  by_cases h:j<n
  ·rw[if_pos h,if_pos h]
  ·rw[if_neg h,if_neg h,Tr.get_lf]
theorem lk_map(f:Nat->Value):∀(is:List Nat) (j:Nat),lk is (is.map f) j=if j∈is then some (f j)else none
 | [],j=>by simp[lk]
 |i::is,j=>by
  simp only[List.map_cons,lk,lk_map f is]
  by_cases e:j=i
  ·subst e;simp
  ·simp[e]
def keyOf:Code->Nat
 | .region id _ _=>id
 | .seq a _=>keyOf a
 | .cond _ a _=>keyOf a
 | .block id _=>id
 | .loop c=>keyOf c
 | .scope c=>keyOf c
 |_=>0
def findLoop(k:Nat):Code->Option Code
 | .seq a b=>match findLoop k a with
  |some c=>some c
  |none=>findLoop k b
 | .cond _ a b=>match findLoop k a with
  |some c=>some c
  |none=>findLoop k b
 | .block _ c=>findLoop k c
 | .loop c=>match Nat.beq (keyOf c) k with
  |true=>some c
  |false=>findLoop k c
 | .scope c=>findLoop k c
 |_=>none
def bodyOf(P:Program)(f:FuncId):Code:=match P.funcs[f]? with
 |some fn=>match fn.body with
  |some c=>c
  |none => .skip
 |none => .skip
def loopIn(P:Program)(f:FuncId)(k:Nat):Code:=match findLoop k (bodyOf P f)with
 |some c=>c
 |none => .skip
structure How where
 sy:Sy
 sp:Nat->Bool
 kn:FuncId->Option (List Value->Heap->VK->Prop)
 lp:Nat->Nat->Option (List Nat×(Code->Nat->List Value->List Deferred->Heap->(Res->Prop)->Prop))
 pu:FuncId->Option (List Value->(Value->Prop)->Prop)
 cf:Nat->Option Nat->Bool
def wOpC(P:Program)(N:Nd)(W:How)(n:Nat)(o:Oper)(ρ:Operand->Value)(H:Heap)(K:VK):Prop:=
 match W.cf n o.dst with
 |true=>opt (aOp P o ρ H) fun(v,h)=>K v h
 |false=>wOp P N W.sy W.sp o ρ H K o.op
abbrev Rec:=Cmd->(Res->Prop)->Prop
def wSeq(D:Bool)(b:Code)(rec:Rec)(Q:Res->Prop):Res->Prop
 | .ex .normal s'=>rec (.code D b s') Q
 |r=>Q r
def wBlock(id:Nat)(Q:Res->Prop):Res->Prop
 | .ex (.exit id') s'=>match Nat.beq id' id with
  |true=>Q (.ex .normal s')
  |false=>Q (.ex (.exit id') s')
 |r=>Q r
def wScope(Q:Res->Prop):Res->Prop
 | .ex (.goto _) _=>False
 |r=>Q r
def wLoop(D:Bool)(c:Code)(rec:Rec)(Q:Res->Prop):Res->Prop
 | .ex .normal s'=>rec (.loop D c s') Q
 |r=>Q r
def setTs(ts:Tm)(ops:List Oper)(j:Nat)(t:Bool):Tm:=match (ops[j]?).bind (·.dst)with
 |some d=>ts.put d (.bool t)
 |none=>ts
def wGuardS(o:Oper)(ops:List Oper)(ts:Tm)(A S:Tm->Prop):Prop:=match o.guard with
 |none=>A ts
 |some (j,want)=>match topAt ops ts j with
  |true=>False
  |false=>match yieldedL ops ts j with
   |some t=>match want with
    |true=>branch t (A (setTs ts ops j true)) (S (setTs ts ops j false))
    |false=>branch t (S (setTs ts ops j true)) (A (setTs ts ops j false))
   |none=>S ts
def isCallOp:Op->Bool
 | .call {callee := .value _,.. }=>true
 | .call {callee := .invoke _ _,.. }=>true
 |_=>false
def condK(ms es:List Nat)(i st:Nat)(ob:Option Nat)(h0:Heap):Nat->List Heap->Prop->Prop
 |_,[],K=>K
 |k,h::r,K=>match Nat.beq k st||!mayAt ms es i k with
  |true=>condK ms es i st ob h0 (k+1) r K
  |false=>match ob with
   |none=>False
   |some b=>h.get b=h0.get b/\condK ms es i st ob h0 (k+1) r K
def ldOk(ms es:List Nat)(hs:List Heap):List (Nat×Nat×Option Nat)->Prop->Prop
 | [],K=>K
 |(i,st,ob)::r,K=>match hs[st]? with
  |some h0=>condK ms es i st ob h0 0 hs (ldOk ms es hs r K)
  |none=>False
def wDrEnd(ops:List Oper)(es:List Nat)(hs:List Heap)(ld:List (Nat×Nat×Option Nat))(K:Prop):Prop:=
 match chainOk (masks ops) es with
 |true=>ldOk (masks ops) es hs ld K
 |false=>False
def wDrG (P:Program) (N:Nd) (W:How) (rec:Rec) (ops:List Oper):List Oper->Nat->List Nat->List Heap->List (Nat×Nat×Option Nat)->Tm->Heap->(Tm->Heap->Prop)->Prop
  | [],_,es,hp,ld,ts,h,K=>wDrEnd ops es.reverse (hp.reverse++[h]) ld (K ts h)
  |o::r,i,es,hp,ld,ts,h,K=>wGuardS o ops ts
      (fun ts=>match isCallOp o.op with
        |true=>opt (callOf P (aev ts) o.op) fun(g,args)=>match W.pu g with
          |some S=>S args fun v=>wDrG P N W rec ops r (i+1) es hp ld (putL ts o.dst v) h K
          |none=>rec (.call g args h) fun
            | .en (.returned v) _ h'=>wDrG P N W rec ops r (i+1) (i::es) (h::hp) ld (putL ts o.dst v) h' K
            |_=>False
        |false=>match quietOf o.op (aev ts)with
          |some none=>wOpC P N W ts.n o (aev ts) h (fun v h'=>wDrG P N W rec ops r (i+1) es hp ld (putL ts o.dst v) h K)
          |some (some b)=>wOpC P N W ts.n o (aev ts) h (fun v h'=>wDrG P N W rec ops r (i+1) es hp ((i,es.length,some b)::ld) (putL ts o.dst v) h K)
          |none=>match quietKind o.op with
            |true=>wOpC P N W ts.n o (aev ts) h (fun v h'=>match Nat.beq h'.next h.next with
              |true=>wDrG P N W rec ops r (i+1) es hp ((i,es.length,none)::ld) (putL ts o.dst v) h K
              |false=>wDrG P N W rec ops r (i+1) (i::es) (h::hp) ld (putL ts o.dst v) h' K)
            |false=>wOpC P N W ts.n o (aev ts) h (fun v h'=>wDrG P N W rec ops r (i+1) (i::es) (h::hp) ld (putL ts o.dst v) h' K))
      (fun ts=>wDrG P N W rec ops r (i+1) es hp ld (putL ts o.dst undef) h K)
def wCode(P:Program)(N:Nd)(W:How):Code->Bool->St->Rec->(Res->Prop)->Prop
 | .skip=>fun _ s _ Q=>Q (.ex .normal s)
 | .label _=>fun _ s _ Q=>Q (.ex .normal s)
 | .ret=>fun _ s _ Q=>Q (.ex .ret s)
 | .exit id=>fun _ s _ Q=>Q (.ex (.exit id) s)
 | .seq a b=>fun D s rec Q=>rec (.code D a s) (wSeq D b rec Q)
 | .cond c a b=>fun D s rec Q=>match aev s.ts c with
  | .bool t=>branch t (rec (.code D a s) Q) (rec (.code D b s) Q)
  |_=>False
 | .block id c=>fun D s rec Q=>rec (.code D c s) (wBlock id Q)
 | .loop c=>fun D s rec Q=>match W.lp (keyOf c) s.ts.n with
  |none=>rec (.loop D c s) Q
  |some (live,S)=>match D with
   |false=>S c s.ts.n (live.map s.ts.get) s.ds s.h Q
   |_=>False
 | .scope c=>fun D s rec Q=>rec (.code D c s) (wScope Q)
 | .region _ ops false=>fun D s rec Q=>rec (.ops D ops 0 ops.toList s) Q
 | .region _ ops true=>fun D s rec Q=>match D,statOk ops.toList with
  |false,true=>wDrG P N W rec ops.toList ops.toList 0 [] [] [] s.ts s.h fun ts' h'=>Q (.ex .normal {s with ts:=ts',h:=h' })
  |_,_=>False
 |_=>fun _ _ _ _=>False
def wCall(rec:Rec)(D:Bool)(ops:Array Oper)(k:Nat)(r:List Oper)(o:Oper)(s:St)(Q:Res->Prop):Res->Prop
 | .en (.returned v) _ h'=>rec (.ops D ops (k+1) r {put s o v with h:=h' }) Q
 | .en (.panicked c) _ h'=>Q (.ex (.panic c) {s with h:=h' })
 |_=>False
def wOps (P:Program) (N:Nd) (W:How):List Oper->Bool->Array Oper->Nat->St->Rec->(Res->Prop)->Prop
  | []=>fun _ _ _ s _ Q=>Q (.ex .normal s)
  | o :: r => fun D ops k s rec Q=>wGuardS o ops.toList s.ts
      (fun ts=>match isCallOp o.op with
        |true=>opt (callOf P (aev ts) o.op) fun(g,args)=>rec (.call g args s.h) (wCall rec D ops k r o {s with ts:=ts} Q)
        |false=>match o.op with
          | .defer {callee := .value f,args,.. }=>match aev ts f with
            | .func fn first cap=>rec (.ops D ops (k+1) r {put {s with ts:=ts} o undef with ds:={target := .fn fn cap,args:=first++args.map (aev ts)}::s.ds}) Q
            |_=>False
          | .panic x=>match aev ts x with
            | .iface t v=>match isMk t with
              |true=>False
              |false=>Q (.ex (.panic [{v := .iface t v,recovered:=false}]) {s with ts:=ts})
            |_=>False
          | .call {callee := .builtin .recover,.. }=>match D,s.u with
            |true,.panicking ({v,recovered:=false,goexit:=false}::older)=>rec (.ops D ops (k+1) r {put {s with ts:=ts} o v with u := .panicking ({v,recovered:=true}::older)}) Q
            |true,.returning=>rec (.ops D ops (k+1) r (put {s with ts:=ts} o .nilIface)) Q
            |_,_=>False
          |_=>wOpC P N W ts.n o (aev ts) s.h (fun v h'=>rec (.ops D ops (k+1) r {put {s with ts:=ts} o v with h:=h' }) Q))
      (fun ts=>rec (.ops D ops (k+1) r (put {s with ts:=ts} o undef)) Q)
def wBody(fn:Func)(rec:Rec)(Q:Res->Prop):Res->Prop
 | .ex .normal s'=>rec (.leaves fn s'.ts s'.ds .returning s'.h) Q
 | .ex .ret s'=>rec (.leaves fn s'.ts s'.ds .returning s'.h) Q
 | .ex (.panic c) s'=>rec (.leaves fn s'.ts s'.ds (.panicking c) s'.h) Q
 |_=>False
def wLeaves(P:Program)(fn:Func)(ts:Tm):List Deferred->FrameMode->Heap->Rec->(Res->Prop)->Prop
 | [],u,h,_,Q=>match u with
  | .returning=>opt (aResults P fn ts h) fun v=>Q (.en (.returned v) .run h)
  | .panicking c=>Q (.en (.panicked c) .run h)
  | .run=>False
 |d::ds,u,h,rec,Q=>match u,d.target with
  | .run,_=>False
  |u,.fn (.func g) cap=>match hasBody P g with
   |true=>rec (.callD g (d.args.toList++cap.toList) u h) fun
    | .en (.returned _) u' h'=>rec (.leaves fn ts ds (settle u') h') Q
    | .en (.panicked c) u' h'=>rec (.leaves fn ts ds (raised u' c) h') Q
    |_=>False
   |false=>False
  |_,_=>False
def wBodyD(P:Program)(fn:Func)(Q:Res->Prop):Res->Prop
 | .ex .normal ⟨ts,[],h',u'⟩=>opt (aResults P fn ts h') fun v=>Q (.en (.returned v) u' h')
 | .ex .ret ⟨ts,[],h',u'⟩=>opt (aResults P fn ts h') fun v=>Q (.en (.returned v) u' h')
 | .ex (.panic c) ⟨_,[],h',u'⟩=>Q (.en (.panicked c) u' h')
 |_=>False
def wStep(P:Program)(N:Nd)(W:How)(rec:Rec)(Q:Res->Prop):Cmd->Prop
 | .code D c s=>wCode P N W c D s rec Q
 | .loop D c s=>rec (.code D c s) (wLoop D c rec Q)
 | .ops D ops k todo s=>wOps P N W todo D ops k s rec Q
 | .call f args h=>match W.kn f with
  |some S=>S args h fun v h'=>Q (.en (.returned v) .run h')
  |none=>match W.pu f with
   |some S=>S args fun v=>Q (.en (.returned v) .run h)
   |none=>opt (P.funcs[f]?) fun fn=>opt fn.body fun c=>rec (.code false c ⟨Tm.of args fn.ntmps,[],h,.run⟩) (wBody fn rec Q)
 | .leaves fn ts ds u h=>wLeaves P fn ts ds u h rec Q
 | .callD f args u h=>opt (P.funcs[f]?) fun fn=>opt fn.body fun c=>rec (.code true c ⟨Tm.of args fn.ntmps,[],h,u⟩) (wBodyD P fn Q)
 |_=>False
def wpe(P:Program)(N:Nd)(W:How):Nat->Cmd->(Res->Prop)->Prop
 | 0=>fun _ _=>False
 |n+1=>fun c Q=>wStep P N W (wpe P N W n) Q c
section
variable {P:Program} {G:Nat} {B:Base}
theorem wOpC_ok{W:How}{n:Nat}{o:Oper}{ρ:Operand->Value}{H:Heap}{K:VK}(h:wOpC P (real P) W n o ρ H K):∃v H',aOp P o ρ H=some (v,H')/\K v H':=by
 unfold wOpC at h
 split at h
 ·exact opt_aOp h
 ·exact wOp_ok h
def PuOk(P:Program)(G:Nat)(f:FuncId)(S:List Value->(Value->Prop)->Prop):Prop:=∀args K,S args K->∃v,(∀B H,CallH P G B f args H (.returned v) H)/\K v
def KnOk(P:Program)(G:Nat)(W:How):Prop:=(∀f S,W.kn f=some S->∀args H K,S args H K->∃v H',(∀B,CallH P G B f args H (.returned v) H')/\K v H')/\∀f S,W.pu f=some S->PuOk P G f S
def LpOk(P:Program)(G:Nat)(W:How):Prop:=∀k n0 live S,W.lp k n0=some (live,S)->∀c n vals ds h Q,S c n vals ds h Q->∃r,(∀B,Holds P G B (.loop false c ⟨tmOf n live vals,ds,h,.run⟩) r)/\Q r
theorem branch_elim{t:Bool}{A A':Prop}(h:branch t A A'):match t with|true=>A|false=>A':=by cases t<;>exact h
def TsEq(ts ts':Tm):Prop:=ts'.n=ts.n/\∀i,ts'.get i=ts.get i
theorem setTs_eq{ts:Tm}{ops:List Oper}{j:Nat}{t:Bool}(h:yieldedL ops ts j=some t):TsEq ts (setTs ts ops j t):=by
 unfold yieldedL at h
 unfold setTs
 cases hd:(ops[j]?).bind (·.dst)with
 |none=>exact⟨rfl,fun _=>rfl⟩
 |some d=>
  rw[hd]at h
  simp only at h ⊢
  refine⟨Tm.n_put _ _ _,fun i=>?_⟩
  rw[Tm.get_put]
  split
  ·rename_i hi
   rw[hi.1]
   unfold asB at h
   split at h
   ·rename_i b e;simp only[Option.some.injEq]at h;rw[e,h]
   ·cases h
  ·rfl
theorem wantedA_congr{o:Oper}{ops:List Oper}{ts ts':Tm}(h:TsEq ts ts'):wantedA o ops ts'=wantedA o ops ts:=by
 have e1:∀j,yieldedL ops ts' j=yieldedL ops ts j:=fun j=>by unfold yieldedL;simp only[h.2]
 have e2:∀j,topAt ops ts' j=topAt ops ts j:=fun j=>by unfold topAt;simp only[h.2]
 unfold wantedA
 simp only[e1,e2]
theorem wGuardS_ok{o:Oper}{ops:List Oper}{ts:Tm}{A S:Tm->Prop}(h:wGuardS o ops ts A S):∃ts',TsEq ts ts'/\((wantedA o ops ts'=some true/\A ts')∨(wantedA o ops ts'=some false/\S ts')):=by
 have key:∃ts',TsEq ts ts'/\((wantedA o ops ts=some true/\A ts')∨(wantedA o ops ts=some false/\S ts')):=by
  unfold wGuardS at h
  unfold wantedA
  cases hg:o.guard with
  |none=>rw[hg]at h;exact⟨ts,⟨rfl,fun _=>rfl⟩,.inl ⟨rfl,h⟩⟩
  |some x=>
   obtain⟨j,want⟩:=x
   rw[hg]at h
   simp only at h ⊢
   cases ht:topAt ops ts j with
   |true=>rw[ht]at h;exact h.elim
   |false=>
    rw[ht]at h
    simp only at h ⊢
    cases hy:yieldedL ops ts j with
    |none=>rw[hy]at h;exact⟨ts,⟨rfl,fun _=>rfl⟩,.inr ⟨by cases want<;>rfl,h⟩⟩
    |some t=>
     rw[hy]at h
     cases want<;>cases t<;>first|exact⟨_,setTs_eq hy,.inl ⟨rfl,h⟩⟩ | exact⟨_,setTs_eq hy,.inr ⟨rfl,h⟩⟩
 obtain⟨ts',h1,h2⟩:=key
 refine⟨ts',h1,?_⟩
 rw[wantedA_congr h1];exact h2
theorem holds_ts{D:Bool}{ops:Array Oper}{k:Nat}{todo:List Oper}{s:St}{ts':Tm}{r:Res}(h:TsEq s.ts ts')(hh:Holds P G B (.ops D ops k todo {s with ts:=ts' }) r):Holds P G B (.ops D ops k todo s) r:=by
 cases r with
 |en _ _ _=>exact hh.elim
 |ex e s2=>
  intro h1 h2 c0 rest F a cs w hs
  exact hh h1 h2 c0 rest F a cs w ⟨hs.1,⟨by rw[h.1];exact hs.2.1.1,fun i=>by rw[h.2];exact hs.2.1.2 i⟩,hs.2.2⟩
theorem callOf_noVal{o:Oper}{ρ:Operand->Value}{H:Heap}{x:FuncId×List Value}(h:callOf P ρ o.op=some x):aOp P o ρ H=none:=by
 obtain⟨dst,op,type,pos,after,guard⟩:=o
 simp only at h
 unfold callOf at h
 split at h
 ·rfl
 ·rfl
 ·cases h
theorem TR.canon{F:Nm}{ts:Tm}{tmps:Array Value}(h2:TR F ts tmps){live:List Nat}:TR F (tmOf ts.n live (live.map ts.get)) tmps:=by
 refine⟨h2.1,fun i=>?_⟩
 rw[tmOf_get,lk_map]
 have hi:=h2.2 i
 by_cases hm:i∈live
 ·rw[if_pos hm];exact hi
 ·rw[if_neg hm]
  simp only
  split
  ·trivial
  ·rename_i hge
   have:tmps.getD i undef=undef:=by
    rw[Array.getD_eq_getD_getElem?,Array.getElem?_eq_none (by rw[h2.1];exact Nat.le_of_not_lt hge)];rfl
   rw[this];exact VR.undef
theorem TsEq.aev{ts ts':Tm}(h:TsEq ts ts'):Abs.aev ts'=Abs.aev ts:=by
 funext x;cases x<;>simp only[Abs.aev,h.2]
theorem TsEq.put{ts ts':Tm}(h:TsEq ts ts')(d:Option Tmp)(v:Value):TsEq (putL ts d v) (putL ts' d v):=by
 cases d with
 |none=>exact h
 |some d=>
  refine⟨by simp only[putL,Tm.n_put];exact h.1,fun i=>?_⟩
  simp only[putL,Tm.get_put,h.1,h.2]
theorem TsEq.trans{a b c:Tm}(h:TsEq a b)(h':TsEq b c):TsEq a c:=⟨h'.1.trans h.1,fun i=>(h'.2 i).trans (h.2 i)⟩
def noHeapA:Array Obj:=((List.range 100).map fun g=>Obj.cells ((tabOf g).getD []).toArray 0 (0,0)).toArray
theorem noHeapA_at{g:Nat}(h:g<100):noHeapA[g]?=some (Obj.cells ((tabOf g).getD []).toArray 0 (0,0)):=by
 unfold noHeapA
 rw[List.getElem?_toArray,List.getElem?_map,List.getElem?_range h];rfl
def noBase:Base:=⟨{ (default:World)with heap:=noHeapA},fun i=>i<100,fun i h=>(Array.getElem?_eq_some_iff.1 (noHeapA_at h)).1,fun _ _=>none,
 fun g vs h=>⟨tabOf_lt h,0,(0,0),by show noHeapA[g]?=_;rw[noHeapA_at (tabOf_lt h),h];rfl⟩⟩
end
end
end Go.Abs
namespace Go.Abs
open Go
noncomputable section
section
variable {P:Program} {G:Nat} {B:Base}
theorem condK_ok{ms es:List Nat}{i st:Nat}{ob:Option Nat}{h0:Heap}:∀(hs:List Heap) (k:Nat) (K:Prop),condK ms es i st ob h0 k hs K->
  K/\∀(j:Nat) H,hs[j]?=some H->k+j≠st->mayAt ms es i (k+j)=true->∃b,ob=some b/\H.get b=h0.get b
 | [],k,K,h=>⟨h,fun j H hj=>by simp at hj⟩
 |x::hs,k,K,h=>by
  unfold condK at h
  have next:condK ms es i st ob h0 (k+1) hs K->(k≠st->mayAt ms es i k=true->∃b,ob=some b/\x.get b=h0.get b)->
    K/\∀(j:Nat) H,(x::hs)[j]?=some H->k+j≠st->mayAt ms es i (k+j)=true->∃b,ob=some b/\H.get b=h0.get b:=by
   intro h1 h2
   obtain⟨g1,g2⟩:=condK_ok hs (k+1) K h1
   refine⟨g1,fun j H hj hne hm=>?_⟩
   cases j with
   |zero=>simp only[List.getElem?_cons_zero,Option.some.injEq]at hj;subst hj;exact h2 hne hm
   |succ j=>
    simp only[List.getElem?_cons_succ]at hj
    have e:k+(j+1)=k+1+j:=by omega
    rw[e]at hne hm
    exact g2 j H hj hne hm
  split at h
  ·rename_i hc
   refine next h fun hne hm=>?_
   rw[hm]at hc
   simp only[Bool.not_true,Bool.or_false]at hc
   exact absurd (Nat.eq_of_beq_eq_true hc) hne
  ·split at h
   ·exact h.elim
   ·rename_i b
    exact next h.2 fun _ _=>⟨b,rfl,h.1⟩
theorem ldOk_ok{ms es:List Nat}{hs:List Heap}:∀(ld:List (Nat×Nat×Option Nat)) (K:Prop),ldOk ms es hs ld K->
  K/\∀i st ob,(i,st,ob)∈ld->∃h0,hs[st]?=some h0/\∀(j:Nat) H,hs[j]?=some H->j≠st->mayAt ms es i j=true->∃b,ob=some b/\H.get b=h0.get b
 | [],K,h=>⟨h,fun i st ob hm=>by cases hm⟩
 |(i,st,ob)::ld,K,h=>by
  unfold ldOk at h
  split at h
  ·rename_i h0 hst
   obtain⟨g1,g2⟩:=condK_ok _ _ _ h
   obtain⟨k1,k2⟩:=ldOk_ok ld K g1
   refine⟨k1,fun i' st' ob' hm=>?_⟩
   rcases List.mem_cons.1 hm with e|hm
   ·simp only[Prod.mk.injEq]at e
    obtain⟨e1,e2,e3⟩:=e
    subst e1;subst e2;subst e3
    refine⟨h0,hst,fun j H hj hne hmay=>?_⟩
    have:=g2 j H hj (by omega) (by rw[Nat.zero_add];exact hmay)
    exact this
   ·exact k2 i' st' ob' hm
  ·exact h.elim
structure Rec3(P:Program)(G:Nat)(ops:List Oper)(ldf:List (Nat×Nat×Option Nat))(i0 st0:Nat)(todo:List Oper)(ts:Tm)(hs:List Heap)(l:List DRec)(i:Nat)(r:DRec):Prop where
 op:todo[i]?=some r.o
 tm:r.ts=tsOf l ts i
 on:wantedA r.o ops r.ts=some r.on
 off:r.on=false->r.v=undef/\r.eff=false
 quiet:r.on=true->r.eff=false->(∀H,RunSem P G r.o (aev r.ts) H r.v H)∨∃ob Hst,(i0+i,st0+stg l i,ob)∈ldf/\hs[stg l i]?=some Hst/\RunSem P G r.o (aev r.ts) Hst r.v Hst/\
  ∀b,ob=some b->∀H',H'.get b=Hst.get b->RunSem P G r.o (aev r.ts) H' r.v H'
 eff:r.eff=true->r.on=true/\∃H H',hs[stg l i]?=some H/\hs[stg l i+1]?=some H'/\RunSem P G r.o (aev r.ts) H r.v H'
theorem Rec3.cons{ops:List Oper}{ldf:List (Nat×Nat×Option Nat)}{i0 st0:Nat}{todo:List Oper}{ts:Tm}{hs:List Heap}{l:List DRec}{r0:DRec}(h0:Rec3 P G ops ldf i0 st0 (r0.o::todo) ts hs (r0::l) 0 r0)
  {hs1:List Heap} (hhs:∀k:Nat,hs1[k]?=hs[(if r0.eff then 1 else 0)+k]?)
  (hl:∀i r,l[i]?=some r->Rec3 P G ops ldf (i0+1) (st0+(if r0.eff then 1 else 0)) todo (putL ts r0.o.dst r0.v) hs1 l i r):∀i r,(r0::l)[i]?=some r->Rec3 P G ops ldf i0 st0 (r0.o::todo) ts hs (r0::l) i r:=by
 intro i r hi
 cases i with
 |zero=>simp only[List.getElem?_cons_zero,Option.some.injEq]at hi;subst hi;exact h0
 |succ i=>
  simp only[List.getElem?_cons_succ]at hi
  have R:=hl i r hi
  have hst:stg (r0::l) (i+1)=(if r0.eff then 1 else 0)+stg l i:=by
   unfold stg
   rw[List.take_succ_cons,List.filter_cons]
   cases r0.eff<;>simp;omega
  refine⟨by simpa using R.op,by rw[R.tm];rfl,R.on,R.off,fun ho he=>?_,fun he=>?_⟩
  ·rcases R.quiet ho he with h|⟨ob,Hst,h1,h2,h3,h4⟩
   ·exact .inl h
   ·refine .inr ⟨ob,Hst,?_,?_,h3,h4⟩
    ·rw[hst]
     rw[show i0+(i+1)=i0+1+i by omega,←Nat.add_assoc];exact h1
    ·rw[hst,←hhs];exact h2
  ·obtain⟨h1,H,H',h2,h3,h4⟩:=R.eff he
   refine⟨h1,H,H',?_,?_,h4⟩
   ·rw[hst,←hhs];exact h2
   ·rw[hst,Nat.add_assoc,←hhs];exact h3
theorem wDrG_ok{W:How}{rec:Rec}(hrec:∀c Q,rec c Q->∃r,(∀B,Holds P G B c r)/\Q r)(hpu:∀f S,W.pu f=some S->PuOk P G f S){ops:List Oper}:∀(todo:List Oper) (i:Nat) (es:List Nat) (hp:List Heap) (ld:List (Nat×Nat×Option Nat)) (ts0 ts:Tm) (h:Heap) (K:Tm->Heap->Prop),
  TsEq ts0 ts->wDrG P (real P) W rec ops todo i es hp ld ts h K->
  ∃recs hs ts' ldf,chainOk (masks ops) (es.reverse++effsF recs i)=true/\ldOk (masks ops) (es.reverse++effsF recs i) (hp.reverse++h::hs) ldf (K ts' (hs.getLastD h))/\(∀x∈ld,x∈ldf)/\
   TsEq (tsOf recs ts0 recs.length) ts'/\recs.length=todo.length/\hs.length=stg recs recs.length/\∀j r,recs[j]?=some r->Rec3 P G ops ldf i es.length todo ts0 (h::hs) recs j r
 | [],i,es,hp,ld,ts0,ts,h,K,ht,hk=>by
  unfold wDrG wDrEnd at hk
  split at hk
  ·rename_i hc
   exact⟨[],[],ts,ld,by simpa [effsF]using hc,by simpa [effsF]using hk,fun x hx=>hx,ht,rfl,rfl,fun j r hr=>by simp at hr⟩
  ·exact hk.elim
 |o::todo,i,es,hp,ld,ts0,ts,h,K,ht,hk=>by
  unfold wDrG at hk
  obtain⟨ts1,ht1,hk⟩:=wGuardS_ok hk
  have ht2:=ht.trans ht1
  have e1:=ht2.aev
  -- an operation that is no effect
  have still:∀(v:Value) (on:Bool) (ld1:List (Nat×Nat×Option Nat)),(∀x∈ld,x∈ld1)->wantedA o ops ts0=some on->(on=false->v=undef)->
    (on=true->(∀H,RunSem P G o (aev ts0) H v H)∨∃ob,(i,es.length,ob)∈ld1/\RunSem P G o (aev ts0) h v h/\∀b,ob=some b->∀H',H'.get b=h.get b->RunSem P G o (aev ts0) H' v H')->
    wDrG P (real P) W rec ops todo (i+1) es hp ld1 (putL ts1 o.dst v) h K->
    ∃recs hs ts' ldf,chainOk (masks ops) (es.reverse++effsF recs i)=true/\ldOk (masks ops) (es.reverse++effsF recs i) (hp.reverse++h::hs) ldf (K ts' (hs.getLastD h))/\(∀x∈ld,x∈ldf)/\
     TsEq (tsOf recs ts0 recs.length) ts'/\recs.length=(o::todo).length/\hs.length=stg recs recs.length/\∀j r,recs[j]?=some r->Rec3 P G ops ldf i es.length (o::todo) ts0 (h::hs) recs j r:=by
   intro v on ld1 hld hw hoff hq hk
   obtain⟨recs,hs,ts',ldf,k1,k2,k3,k4,k5,k6,k7⟩:=wDrG_ok hrec hpu todo (i+1) es hp ld1 (putL ts0 o.dst v) _ h K (ht2.put o.dst v) hk
   refine⟨⟨o,ts0,v,on,false⟩::recs,hs,ts',ldf,k1,k2,fun x hx=>k3 x (hld x hx),k4,by simp[k5],?_,?_⟩
   ·unfold stg at k6 ⊢
    rw[List.length_cons,List.take_succ_cons,List.filter_cons,k6];simp
   ·refine Rec3.cons (hs1:=h::hs) (r0:=⟨o,ts0,v,on,false⟩) ⟨by simp,rfl,hw,fun e=>⟨hoff e,rfl⟩,fun e _=>?_,fun e=>by cases e⟩ (fun k=>by simp) (by simpa using k7)
    rcases hq e with hq|⟨ob,q1,q2,q3⟩
    ·exact .inl hq
    ·exact .inr ⟨ob,h,by simpa [stg]using k3 _ q1,by simp[stg],q2,q3⟩
  -- an effect
  have moves:∀(v:Value) (h':Heap),wantedA o ops ts0=some true->RunSem P G o (aev ts0) h v h'->wDrG P (real P) W rec ops todo (i+1) (i::es) (h::hp) ld (putL ts1 o.dst v) h' K->
    ∃recs hs ts' ldf,chainOk (masks ops) (es.reverse++effsF recs i)=true/\ldOk (masks ops) (es.reverse++effsF recs i) (hp.reverse++h::hs) ldf (K ts' (hs.getLastD h))/\(∀x∈ld,x∈ldf)/\
     TsEq (tsOf recs ts0 recs.length) ts'/\recs.length=(o::todo).length/\hs.length=stg recs recs.length/\∀j r,recs[j]?=some r->Rec3 P G ops ldf i es.length (o::todo) ts0 (h::hs) recs j r:=by
   intro v h' hw hr hk
   obtain⟨recs,hs,ts',ldf,k1,k2,k3,k4,k5,k6,k7⟩:=wDrG_ok hrec hpu todo (i+1) (i::es) (h::hp) ld (putL ts0 o.dst v) _ h' K (ht2.put o.dst v) hk
   refine⟨⟨o,ts0,v,true,true⟩::recs,h'::hs,ts',ldf,by simpa [effsF]using k1,?_,k3,k4,by simp[k5],?_,?_⟩
   ·rw[List.getLastD_cons]
    simp only[effsF,List.reverse_cons,List.append_assoc,List.cons_append,List.nil_append]at k2 ⊢
    exact k2
   ·unfold stg at k6 ⊢
    rw[List.length_cons,List.length_cons,List.take_succ_cons,List.filter_cons,k6];simp
   ·refine Rec3.cons (hs1:=h'::hs) (r0:=⟨o,ts0,v,true,true⟩) ⟨by simp,rfl,hw,(fun e=>by cases e),(fun _ e=>by cases e),fun _=>⟨rfl,h,h',by simp[stg],by simp[stg],hr⟩⟩ (fun k=>by simp[Nat.add_comm]) (by simpa using k7)
  rcases hk with⟨hw,hk⟩ | ⟨hw,hk⟩
  ·rw[wantedA_congr ht2]at hw
   split at hk
   ·obtain⟨⟨g,args⟩,hc,hk⟩:=opt_elim hk
    rw[e1]at hc
    simp only at hk
    split at hk
    ·rename_i S hS
     obtain⟨v,h1,h2⟩:=hpu _ _ hS _ _ hk
     exact still v true ld (fun _ h=>h) hw (fun e=>by cases e) (fun _ => .inl fun H => .inr ⟨g,args,hc,fun B=>h1 B H⟩) h2
    ·obtain⟨r,h1,h2⟩:=hrec _ _ hk
     split at h2
     ·rename_i v u h'
      exact moves v h' hw (.inr ⟨g,args,hc,fun B=>h1 B⟩) h2
     ·exact h2.elim
   ·split at hk
    ·rename_i hq
     obtain⟨v,H',ho,hk⟩:=wOpC_ok hk
     rw[e1]at ho hq
     obtain⟨u,hu⟩:=free_ok (P:=P) hq
     have hv:u=some v/\H'=h:=by
      rw[hu h]at ho
      cases u with
      |none=>cases ho
      |some u=>simp only[Option.map_some,Option.some.injEq,Prod.mk.injEq]at ho;exact⟨by rw[ho.1],ho.2.symm⟩
     exact still v true ld (fun _ h=>h) hw (fun e=>by cases e) (fun _ => .inl fun H => .inl (by rw[hu H,hv.1];rfl)) hk
    ·rename_i b hq
     obtain⟨v,H',ho,hk⟩:=wOpC_ok hk
     rw[e1]at ho hq
     obtain⟨q1,q2⟩:=load_ok hq ho
     subst q1
     exact still v true _ (fun _ h=>List.mem_cons_of_mem _ h) hw (fun e=>by cases e) (fun _ => .inr ⟨some b,List.mem_cons_self ..,.inl ho,fun b' e H' hH => .inl (q2 H' (by simp only[Option.some.injEq]at e;rw[e];exact hH))⟩) hk
    ·split at hk
     ·rename_i hqk
      obtain⟨v,H',ho,hk⟩:=wOpC_ok hk
      rw[e1]at ho
      split at hk
      ·rename_i hn
       have hs:=quiet_same hqk ho (Nat.eq_of_beq_eq_true hn)
       simp only at hs
       subst hs
       exact still v true _ (fun _ h=>List.mem_cons_of_mem _ h) hw (fun e=>by cases e) (fun _ => .inr ⟨none,List.mem_cons_self ..,.inl ho,fun b' e=>by cases e⟩) hk
      ·exact moves v H' hw (.inl ho) hk
     ·obtain⟨v,H',ho,hk⟩:=wOpC_ok hk
      rw[e1]at ho
      exact moves v H' hw (.inl ho) hk
  ·rw[wantedA_congr ht2]at hw
   exact still undef false ld (fun _ h=>h) hw (fun _=>rfl) (fun e=>by cases e) hk
theorem wDrG_draw(hP:okProg P G=true){W:How}{rec:Rec}(hrec:∀c Q,rec c Q->∃r,(∀B,Holds P G B c r)/\Q r)(hpu:∀f S,W.pu f=some S->PuOk P G f S){ops:Array Oper}{s:St}{K:Tm->Heap->Prop}(hst:statOk ops.toList=true)
  (h:wDrG P (real P) W rec ops.toList ops.toList 0 [] [] [] s.ts s.h K):∃ts' h',(∀B,Holds P G B (.draw ops s) (.ex .normal {s with ts:=ts',h:=h' }))/\K ts' h':=by
 obtain⟨recs,hs,ts',ldf,k1,k2,k3,k4,k5,k6,k7⟩:=wDrG_ok hrec hpu _ _ _ _ _ _ _ _ _ ⟨rfl,fun _=>rfl⟩ h
 simp only[List.reverse_nil,List.nil_append]at k1 k2
 obtain⟨q1,q2⟩:=ldOk_ok _ _ k2
 refine⟨ts',hs.getLastD s.h,fun B=>?_,q1⟩
 refine draw_ok2 (w0:=B) hP (s:=s) (ts':=tsOf recs s.ts recs.length) ⟨k5,rfl,k6,fun i r hr=>?_⟩ hst (by simpa [effs]using k1) (ts2:=ts') (fun F tm h=>⟨by rw[k4.1];exact h.1,fun i=>by rw[k4.2];exact h.2 i⟩)
 have R:=k7 i r hr
 refine⟨R.op,R.tm,R.on,R.off,fun ho he k H hk hmay=>?_,R.eff⟩
 rcases R.quiet ho he with hq|⟨ob,Hst,g1,g2,g3,g4⟩
 ·exact hq H
 ·rw[Nat.zero_add,List.length_nil,Nat.zero_add]at g1
  obtain⟨h0,p1,p2⟩:=q2 _ _ _ g1
  rw[g2]at p1;simp only[Option.some.injEq]at p1;subst p1
  by_cases e:k=stg recs i
  ·subst e
   rw[g2]at hk;simp only[Option.some.injEq]at hk;subst hk;exact g3
  ·obtain⟨b,hb,hget⟩:=p2 k H hk e hmay
   exact g4 b hb H hget
end
end
end Go.Abs
