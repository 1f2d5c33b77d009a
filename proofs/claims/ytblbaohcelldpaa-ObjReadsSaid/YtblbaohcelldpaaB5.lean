/- One step of the evaluator, and that it keeps its word. -/
import Derived.Test.YtblbaohcelldpaaB2
set_option linter.all false
namespace Go.Abs
open Go
noncomputable section
abbrev Orc:=FuncId->Option (List Value->Heap->Option (Ending×Heap))
def put(s:St)(o:Oper)(v:Value):St:={s with ts:=putL s.ts o.dst v}
def stepOp(P:Program)(rec:Cmd->Option Res)(D:Bool)(ops:Array Oper)(k:Nat)(r:List Oper)(o:Oper)(s:St):Option Res:=
 match callOf P (aev s.ts) o.op with
 |some (g,args)=>match rec (.call g args s.h)with
  |some (.en (.returned v) _ h')=>rec (.ops D ops (k+1) r {put s o v with h:=h' })
  |some (.en (.panicked c) _ h')=>some (.ex (.panic c) {s with h:=h' })
  |_=>none
 |none=>match o.op with
  | .defer {callee := .value f,args,.. }=>match aev s.ts f with
   | .func fn first cap=>rec (.ops D ops (k+1) r {put s o undef with ds:={target := .fn fn cap,args:=first++args.map (aev s.ts)}::s.ds})
   |_=>none
  | .panic x=>match aev s.ts x with
   | .iface t v=>match isMk t with
    |true=>none
    |false=>some (.ex (.panic [{v := .iface t v,recovered:=false}]) s)
   |_=>none
  | .call {callee := .builtin .recover,.. }=>match D,s.u with
   |true,.panicking ({v,recovered:=false,goexit:=false}::older)=>rec (.ops D ops (k+1) r {put s o v with u := .panicking ({v,recovered:=true}::older)})
   |true,.returning=>rec (.ops D ops (k+1) r (put s o .nilIface))
   |_,_=>none
  |_=>none
def codeK:Code->Bool->St->(Cmd->Option Res)->Option Res
 | .skip=>fun _ s _=>some (.ex .normal s)
 | .label _=>fun _ s _=>some (.ex .normal s)
 | .ret=>fun _ s _=>some (.ex .ret s)
 | .exit id=>fun _ s _=>some (.ex (.exit id) s)
 | .seq a b=>fun D s rec=>match rec (.code D a s)with
  |some (.ex .normal s')=>rec (.code D b s')
  |r=>r
 | .cond c a b=>fun D s rec=>match aev s.ts c with
  | .bool true=>rec (.code D a s)
  | .bool false=>rec (.code D b s)
  |_=>none
 | .block id c=>fun D s rec=>match rec (.code D c s)with
  |some (.ex (.exit id') s')=>match Nat.beq id' id with
   |true=>some (.ex .normal s')
   |false=>some (.ex (.exit id') s')
  |r=>r
 | .loop c=>fun D s rec=>rec (.loop D c s)
 | .scope c=>fun D s rec=>match rec (.code D c s)with
  |some (.ex (.goto _) _)=>none
  |r=>r
 | .region _ ops false=>fun D s rec=>rec (.ops D ops 0 ops.toList s)
 | .region _ ops true=>fun D s rec=>match D with
  |false=>rec (.draw ops s)
  |true=>none
 |_=>fun _ _ _=>none
def loopK(D:Bool)(c:Code)(s:St)(rec:Cmd->Option Res):Option Res:=
 match rec (.code D c s)with
 |some (.ex .normal s')=>rec (.loop D c s')
 |r=>r
def drawK(ops:Array Oper)(s:St)(P:Program)(rec:Cmd->Option Res):Option Res:=
 match aDraw P rec ops s with
 |some s'=>some (.ex .normal s')
 |none=>none
def opsK:List Oper->Bool->Array Oper->Nat->St->Program->(Cmd->Option Res)->Option Res
 | []=>fun _ _ _ s _ _=>some (.ex .normal s)
 |o::r=>fun D ops k s P rec=>match wantedA o ops.toList s.ts with
  |none=>none
  |some false=>rec (.ops D ops (k+1) r (put s o undef))
  |some true=>match aOp P o (aev s.ts) s.h with
   |some (v,h')=>rec (.ops D ops (k+1) r {put s o v with h:=h' })
   |none=>stepOp P rec D ops k r o s
def asked(orc:Orc)(f:FuncId)(args:List Value)(h:Heap):Option (Ending×Heap):=
 match orc f with
 |some g=>g args h
 |none=>none
def callK(f:FuncId)(args:List Value)(h:Heap)(P:Program)(orc:Orc)(rec:Cmd->Option Res):Option Res:=
 match asked orc f args h with
 |some (e,h')=>some (.en e .run h')
 |none=>match P.funcs[f]? with
  |some fn=>match fn.body with
   |some c=>match rec (.code false c ⟨Tm.of args fn.ntmps,[],h,.run⟩)with
    |some (.ex .normal s')=>rec (.leaves fn s'.ts s'.ds .returning s'.h)
    |some (.ex .ret s')=>rec (.leaves fn s'.ts s'.ds .returning s'.h)
    |some (.ex (.panic c) s')=>rec (.leaves fn s'.ts s'.ds (.panicking c) s'.h)
    |_=>none
   |none=>none
  |none=>none
def leavesK:List Deferred->Func->Tm->FrameMode->Heap->Program->(Cmd->Option Res)->Option Res
 | []=>fun fn ts u h P _=>match u with
  | .returning=>match aResults P fn ts h with
   |some v=>some (.en (.returned v) .run h)
   |none=>none
  | .panicking c=>some (.en (.panicked c) .run h)
  | .run=>none
 |d::ds=>fun fn ts u h P rec=>match u,d.target with
  | .run,_=>none
  |u,.fn (.func g) cap=>match hasBody P g with
   |true=>match rec (.callD g (d.args.toList++cap.toList) u h)with
    |some (.en (.returned _) u' h')=>rec (.leaves fn ts ds (settle u') h')
    |some (.en (.panicked c) u' h')=>rec (.leaves fn ts ds (raised u' c) h')
    |_=>none
   |false=>none
  |_,_=>none
def callDK(f:FuncId)(args:List Value)(u:FrameMode)(h:Heap)(P:Program)(rec:Cmd->Option Res):Option Res:=
 match P.funcs[f]? with
 |some fn=>match fn.body with
  |some c=>match rec (.code true c ⟨Tm.of args fn.ntmps,[],h,u⟩)with
   |some (.ex .normal ⟨ts,[],h',u'⟩)=>match aResults P fn ts h' with
    |some v=>some (.en (.returned v) u' h')
    |none=>none
   |some (.ex .ret ⟨ts,[],h',u'⟩)=>match aResults P fn ts h' with
    |some v=>some (.en (.returned v) u' h')
    |none=>none
   |some (.ex (.panic c) ⟨_,[],h',u'⟩)=>some (.en (.panicked c) u' h')
   |_=>none
  |none=>none
 |none=>none
def stepK:Cmd->Program->Orc->(Cmd->Option Res)->Option Res
 | .code D c s=>fun _ _ rec=>codeK c D s rec
 | .loop D c s=>fun _ _ rec=>loopK D c s rec
 | .draw ops s=>fun P _ rec=>drawK ops s P rec
 | .ops D ops k todo s=>fun P _ rec=>opsK todo D ops k s P rec
 | .call f args h=>fun P orc rec=>callK f args h P orc rec
 | .leaves fn ts ds u h=>fun P _ rec=>leavesK ds fn ts u h P rec
 | .callD f args u h=>fun P _ rec=>callDK f args u h P rec
def step(P:Program)(orc:Orc)(rec:Cmd->Option Res)(c:Cmd):Option Res:=stepK c P orc rec
def ev(P:Program)(orc:Orc):Nat->Cmd->Option Res
 | 0=>fun _=>none
 |n+1=>step P orc (ev P orc n)
section
variable {P:Program} {G:Nat} {w0:Base}
theorem okProg_func(hP : okProg P G = true){f : FuncId}{fn : Func}(hf : P.funcs[f]? = some fn){c : Code}(hb : fn.body = some c) : fn.name ≠ "runtime.NumGoroutine" ∧ okCode G c = true := by
 unfold okProg at hP
 simp only[Bool.and_eq_true]at hP
 have hm:fn∈P.funcs:=Array.mem_of_getElem? hf
 have:=(Array.all_eq_true'.1 hP.2) fn hm
 unfold okFunc at this
 rw[hb]at this
 simp only[Bool.and_eq_true,bne_iff_ne,ne_eq]at this
 exact this
theorem run_callFunc(hP:okProg P G=true){g:FuncId}(hg:hasBody P g=true)(args:Array Value)(w:World):(callFunc g args).run P w = .ok (.enter g args) w:=by
 unfold hasBody at hg
 split at hg
 ·rename_i fn hf
  obtain⟨c,hc⟩:=Option.isSome_iff_exists.1 hg
  have hn:=(okProg_func hP hf hc).1
  simp[callFunc,hf,hn,hc]
 ·cases hg
theorem callOf_run(hP:okProg P G=true){F:Nm}{o:Oper}{ρ ρ':Operand->Value}(hρ:∀x∈o.op.operands,VR F (ρ x) (ρ' x)){g:FuncId}{args:List Value}(h:callOf P ρ o.op=some (g,args))(w:World):
  ∃args':Array Value,(execOp ρ' o).run P w = .ok (.enter g args') w/\VRL F args args'.toList:=by
 obtain⟨dst,op,type,pos,after,guard⟩:=o
 simp only at hρ h
 unfold callOf at h
 split at h
 ·rename_i f as ats
  split at h
  ·rename_i g' first cap e
   split at h
   ·rename_i hb
    simp only[Option.some.injEq,Prod.mk.injEq]at h
    obtain⟨h1,h2⟩:=h
    subst h1;subst h2
    have hf:=hρ f (by simp[Op.operands,Call.operands])
    rw[e]at hf;simp only[VR]at hf
    obtain⟨f',c',hf1,hf2,e'⟩:=hf
    have hargs:VRL F (as.toList.map ρ) (as.toList.map ρ'):=
     VRL_map _ fun y hy=>hρ y (by simp only[Op.operands,Call.operands,Array.mem_append];exact .inr (by simpa using hy))
    refine⟨f'++as.map ρ'++c',?_,?_⟩
    ·simp only[execOp,resolve,e',Deferred.ofValue,pure_bind,invoke]
     exact run_callFunc hP hb _ w
    ·simp only[Array.toList_append,Array.toList_map]
     exact(hf1.toL.append hargs).append hf2.toL
   ·cases h
  ·cases h
 ·rename_i x name as ats
  split at h
  ·rename_i t v e
   split at h
   ·cases h
   rename_i hmk
   split at h
   ·rename_i g' hm
    split at h
    ·rename_i hb
     simp only[Option.some.injEq,Prod.mk.injEq]at h
     obtain⟨h1,h2⟩:=h
     subst h1;subst h2
     have hx:=hρ x (by simp[Op.operands,Call.operands])
     rw[e]at hx
     obtain⟨v',hv,e'⟩:=hx.iface_real hmk
     have hargs:VRL F (as.toList.map ρ) (as.toList.map ρ'):=
      VRL_map _ fun y hy=>hρ y (by simp only[Op.operands,Call.operands,Array.mem_append];exact .inr (by simpa using hy))
     refine⟨#[v']++as.map ρ',?_,?_⟩
     ·simp only[execOp,resolve,e',pure_bind,invoke]
      have e1:(#[Value.iface t v']++as.map ρ')[0]?=some (.iface t v'):=by rw[Array.getElem?_append_left (by simp)];rfl
      have e2:(#[Value.iface t v']++as.map ρ').extract 1 (#[Value.iface t v']++as.map ρ').size=as.map ρ':=by
       apply Array.ext';simp;rw[List.take_of_length_le (by simp)]
      simp only[e1,e2,callMethod,Sem.run_bind,run_program,Result.andThen_ok]
      rw[show P.types.size+Made.depth=(P.types.size+99)+1 from rfl,methodOf_run hm]
      exact run_callFunc hP hb _ w
     ·simp only[Array.toList_append,Array.toList_map,List.cons_append,List.nil_append,VRL]
      exact⟨v',_,hv,hargs,rfl⟩
    ·cases h
   ·cases h
  ·cases h
 ·cases h
theorem putL_ok{F:Nm}{ts:Tm}{a:Act}(ht:TR F ts a.tmps){v v':Value}(hv:VR F v v')(dst:Option Tmp):TR F (putL ts dst v) (a.put dst v').tmps:=by
 cases dst with
 |none=>exact ht
 |some d=>exact ht.put d hv
theorem put_defers(a:Act)(dst:Option Tmp)(v:Value):(a.put dst v).defers=a.defers:=by cases dst<;>rfl
theorem bool_iff{F:Nm}{v v':Value}(h:VR F v v')(ht:isTop v=false):asB v'=asB v:=by
 cases v<;>(try(rcases h.iface_cases with⟨_,_,_,e⟩ | ⟨_,⟨_,_,_,e⟩ | ⟨_,e⟩⟩<;>subst e<;>rfl;done))<;>(try(simp only[VR]at h;subst h;rfl;done))<;>(try(simp only[VR]at h;obtain⟨_,_,e⟩:=h;subst e;rfl;done))
 ·rename_i a;cases a<;>simp only[VR]at h
  ·subst h;rfl
  ·obtain⟨_,_,e⟩:=h;subst e;rfl
 ·rename_i a _ _;cases a<;>simp only[VR]at h
  ·subst h;rfl
  ·obtain⟨_,_,_,_,_,_,e⟩:=h;subst e;rfl
 ·rename_i a;cases a<;>simp only[VR]at h
  ·subst h;rfl
  ·obtain⟨_,_,_,_,e⟩:=h;subst e;rfl
 ·rename_i a;cases a<;>simp only[VR]at h
  ·subst h;rfl
  ·cases ht
 ·simp only[VR]at h;obtain⟨_,_,_,_,e⟩:=h;subst e;rfl
theorem yielded_eq{F:Nm}{ops:Array Oper}{ts:Tm}{tmps:Array Value}(ht:TR F ts tmps)(j:Nat)(htop:topAt ops.toList ts j=false):yielded ops tmps j=yieldedL ops.toList ts j:=by
 unfold yielded yieldedL
 have e1:ops[j]?=ops.toList[j]?:=by simp
 rw[e1]
 cases hd:((ops.toList[j]?).bind (·.dst))with
 |none=>rfl
 |some d=>
  simp only[Option.bind_some]
  have h:=bool_iff (ht.2 d) (by unfold topAt at htop;rw[hd]at htop;exact htop)
  rw[Array.getD_eq_getD_getElem?]at h
  cases hv:tmps[d]? with
  |none=>rw[hv]at h;simp only[Option.getD_none]at h;rw[←h];rfl
  |some x=>
   rw[hv]at h;simp only[Option.getD_some]at h
   rw[←h]
   cases x<;>rfl
theorem wantedA_ok{F:Nm}{ops:Array Oper}{ts:Tm}{tmps:Array Value}(ht:TR F ts tmps){o:Oper}{b:Bool}(h:wantedA o ops.toList ts=some b):Region.wanted o (yielded ops tmps)=b:=by
 unfold wantedA at h
 unfold Region.wanted
 cases hg:o.guard with
 |none=>rw[hg]at h;simp only[Option.some.injEq]at h;exact h
 |some x=>
  obtain⟨j,want⟩:=x
  rw[hg]at h
  simp only at h ⊢
  split at h
  ·cases h
  ·rename_i htop
   simp only[Option.some.injEq]at h
   rw[yielded_eq ht j htop];exact h
theorem SR.mono{D:Bool}{c0:Frame}{rest:List Frame}{F F':Nm}{s:St}{a:Act}{cs:List Frame}{w:World}(h:SR G w0 D c0 rest F s a cs w)(hle:Nm.le F F'){h':Heap}{w':World}
  (R':Rel G F' h' w0 w'):SR G w0 D c0 rest F' {s with h:=h' } a cs w':=by
 obtain⟨_,h2,h3,h4⟩:=h
 refine⟨R',h2.mono hle,h3.mono hle,?_⟩
 cases D with
 |true=>obtain⟨m,e,hm⟩:=h4;exact⟨m,e,hm.mono hle⟩
 |false=>exact h4
theorem SR.put{D:Bool}{c0:Frame}{rest:List Frame}{F:Nm}{s:St}{a:Act}{cs:List Frame}{w:World}(h:SR G w0 D c0 rest F s a cs w)(o:Oper){v v':Value}(hv:VR F v v'):
  SR G w0 D c0 rest F (Abs.put s o v) (a.put o.dst v') cs w:=by
 obtain⟨h1,h2,h3,h4⟩:=h
 exact⟨h1,putL_ok h2 hv _,by rw[put_defers];exact h3,h4⟩
theorem Ends.mono{D:Bool}{c0:Frame}{rest:List Frame}{F F':Nm}(hle:Nm.le F F'){e:Exit}{s:St}{e':Exit}{a:Act}{cs:List Frame}{w:World}
  (h:Ends G w0 D c0 rest F' e s e' a cs w):Ends G w0 D c0 rest F e s e' a cs w:=by
 obtain⟨F2,h1,h2⟩:=h
 exact⟨F2,Nm.le_trans hle h1,h2⟩
end
end
end Go.Abs
namespace Go.Abs
open Go
noncomputable section
section
variable {P:Program} {G:Nat} {w0:Base} {rec:Cmd->Option Res} {orc:Orc}
def OrcOk(P:Program)(G:Nat)(w0:Base)(orc:Orc):Prop:=∀f g args h e h',orc f=some g->g args h=some (e,h')->CallH P G w0 f args h e h'
theorem step_code(hrec:∀c r,rec c=some r->Holds P G w0 c r)(hP:okProg P G=true){D:Bool}{c:Code}{s:St}{r:Res}(h:step P orc rec (.code D c s)=some r):Holds P G w0 (.code D c s) r:=by
 -- what a piece that hands on what its part comes to says
 cases c with
 |skip=>
  replace h:some (Res.ex .normal s)=some r:=h
  simp only[Option.some.injEq]at h;subst h
  intro c0 rest F a cs w _ hs
  exact WP.skip ⟨F,Nm.le_refl F,rfl,hs⟩
 |label l=>
  replace h:some (Res.ex .normal s)=some r:=h
  simp only[Option.some.injEq]at h;subst h
  intro c0 rest F a cs w _ hs
  exact WP.label ⟨F,Nm.le_refl F,rfl,hs⟩
 |ret=>
  replace h:some (Res.ex .ret s)=some r:=h
  simp only[Option.some.injEq]at h;subst h
  intro c0 rest F a cs w _ hs
  exact WP.ret ⟨F,Nm.le_refl F,rfl,hs⟩
 |exit id=>
  replace h:some (Res.ex (.exit id) s)=some r:=h
  simp only[Option.some.injEq]at h;subst h
  intro c0 rest F a cs w _ hs
  exact WP.exit ⟨F,Nm.le_refl F,rfl,hs⟩
 |seq x y=>
  simp only[step,stepK,codeK]at h
  split at h
  ·rename_i s1 h1
   have H1:=hrec _ _ h1
   have H2:=hrec _ _ h
   cases r with
   |en _ _ _=>exact H2.elim
   |ex e s2=>
    intro c0 rest F a cs w hok hs
    simp only[okCode,Bool.and_eq_true]at hok
    refine WP.seq ((H1 c0 rest F a cs w hok.1 hs).mono fun e' a' cs' w' ⟨F',hle,he,hs'⟩=>?_)
    simp only[ER]at he;subst he
    exact(H2 c0 rest F' a' cs' w' hok.2 hs').mono fun _ _ _ _ q=>Ends.mono hle q
  ·rename_i r1 hne
   have H1:=hrec _ _ h
   cases r with
   |en _ _ _=>exact H1.elim
   |ex e s1=>
    intro c0 rest F a cs w hok hs
    simp only[okCode,Bool.and_eq_true]at hok
    refine WP.seq ((H1 c0 rest F a cs w hok.1 hs).mono fun e' a' cs' w' ⟨F',hle,he,hs'⟩=>?_)
    have hne':e' ≠ .normal:=by
     intro hc;subst hc
     cases e<;>simp only[ER]at he<;>first
      |(exact hne s1 h)
      |(exact Exit.noConfusion he)
      |(obtain⟨_,_,e⟩:=he;exact Exit.noConfusion e)
    cases e'<;>first
     |exact absurd rfl hne'
     |exact⟨F',hle,he,hs'⟩
 |cond c x y=>
  simp only[step,stepK,codeK]at h
  have hgo:∀t:Bool,aev s.ts c = .bool t->rec (.code D (if t then x else y) s)=some r->Holds P G w0 (.code D (.cond c x y) s) r:=by
   intro t ht hr
   have H1:=hrec _ _ hr
   cases r with
   |en _ _ _=>exact H1.elim
   |ex e s1=>
    intro c0 rest F a cs w hok hs
    simp only[okCode,Bool.and_eq_true]at hok
    have hc:=aev_ok hs.1 hs.2.1 hok.1.1
    rw[ht]at hc;simp only[VR]at hc
    refine WP.cond hc (H1 c0 rest F a cs w ?_ hs)
    cases t
    ·exact hok.2
    ·exact hok.1.2
  split at h
  ·rename_i e;exact hgo true e h
  ·rename_i e;exact hgo false e h
  ·cases h
 |block id c=>
  simp only[step,stepK,codeK]at h
  split at h
  ·rename_i id' s1 h1
   have H1:=hrec _ _ h1
   split at h
   ·rename_i hid
    have hid:=Nat.eq_of_beq_eq_true hid
    simp only[Option.some.injEq]at h;subst h;subst hid
    intro c0 rest F a cs w hok hs
    refine WP.block ((H1 c0 rest F a cs w hok hs).mono fun e' a' cs' w' ⟨F',hle,he,hs'⟩=>?_)
    simp only[ER]at he;subst he
    simp only[outBlock,if_true]
    exact⟨F',hle,rfl,hs'⟩
   ·rename_i hid
    have hid:id'≠id:=fun e=>by rw[e]at hid;simp at hid
    simp only[Option.some.injEq]at h;subst h
    intro c0 rest F a cs w hok hs
    refine WP.block ((H1 c0 rest F a cs w hok hs).mono fun e' a' cs' w' ⟨F',hle,he,hs'⟩=>?_)
    simp only[ER]at he;subst he
    simp only[outBlock];rw[if_neg hid]
    exact⟨F',hle,rfl,hs'⟩
  ·rename_i r1 hne
   have H1:=hrec _ _ h
   cases r with
   |en _ _ _=>exact H1.elim
   |ex e s1=>
    intro c0 rest F a cs w hok hs
    refine WP.block ((H1 c0 rest F a cs w hok hs).mono fun e' a' cs' w' ⟨F',hle,he,hs'⟩=>?_)
    cases e' with
    |exit id2=>
     exfalso
     cases e<;>simp only[ER]at he<;>first
      |(exact Exit.noConfusion he)
      |(obtain⟨_,_,e⟩:=he;exact Exit.noConfusion e)
      |(exact hne _ _ h)
    |_=>exact⟨F',hle,he,hs'⟩
 |loop c=>
  replace h:rec (.loop D c s)=some r:=h
  have H1:=hrec _ _ h
  cases r with
  |en _ _ _=>exact H1.elim
  |ex e s1=>
   intro c0 rest F a cs w hok hs
   exact WP.loop (H1 c0 rest F a cs w hok hs)
 |scope c=>
  simp only[step,stepK,codeK]at h
  split at h
  ·cases h
  ·rename_i r1 hne
   have H1:=hrec _ _ h
   cases r with
   |en _ _ _=>exact H1.elim
   |ex e s1=>
    intro c0 rest F a cs w hok hs
    refine WP.scope ((H1 c0 rest F a cs w hok hs).mono fun e' a' cs' w' ⟨F',hle,he,hs'⟩=>?_)
    cases e' with
    |goto l=>
     exfalso
     cases e<;>simp only[ER]at he<;>first
      |(exact Exit.noConfusion he)
      |(obtain⟨_,_,e⟩:=he;exact Exit.noConfusion e)
      |(exact hne _ _ h)
    |_=>exact⟨F',hle,he,hs'⟩
 |region id ops draw=>
  cases draw with
  |false=>
   replace h:rec (.ops D ops 0 ops.toList s)=some r:=h
   have H1:=hrec _ _ h
   cases r with
   |en _ _ _=>exact H1.elim
   |ex e s1=>
    intro c0 rest F a cs w hok hs
    have:=H1 (by simp) hok c0 rest F a cs w hs
    rw[Array.length_toList,←List.range_eq_range']at this
    exact WP.region this
  |true=>
   cases D with
   |true=>exact absurd (show(none:Option Res)=some r from h) (by simp)
   |false=>
    replace h:rec (.draw ops s)=some r:=h
    have H1:=hrec _ _ h
    cases r with
    |en _ _ _=>exact H1.elim
    |ex e s1=>
     intro c0 rest F a cs w hok hs
     have hm:P.follows .mixedOrders=true:=by
      unfold okProg at hP;simp only[Bool.and_eq_true]at hP;exact hP.1
     exact WP.region_draw hm (H1 hok c0 rest F a cs w hs)
 |rangeFunc f p x y=>exact absurd (show(none:Option Res)=some r from h) (by simp)
 |goto l=>exact absurd (show(none:Option Res)=some r from h) (by simp)
 |refuse y=>exact absurd (show(none:Option Res)=some r from h) (by simp)
theorem step_loop'(hrec:∀c r,rec c=some r->Holds P G w0 c r){D:Bool}{c:Code}{s:St}{r:Res}(h:step P orc rec (.loop D c s)=some r):Holds P G w0 (.loop D c s) r:=by
 simp only[step,stepK,loopK]at h
 split at h
 ·rename_i s1 h1
  have H1:=hrec _ _ h1
  have H2:=hrec _ _ h
  cases r with
  |en _ _ _=>exact H2.elim
  |ex e s2=>
   intro c0 rest F a cs w hok hs
   refine WPat.two rfl ((H1 c0 rest F a cs w hok hs).mono fun e' a' cs' w' ⟨F',hle,he,hs'⟩=>?_)
   simp only[ER]at he;subst he
   exact WPat.inLoop ((H2 c0 rest F' a' cs' w' hok hs').mono fun _ _ _ _ q=>Ends.mono hle q)
 ·rename_i r1 hne
  have H1:=hrec _ _ h
  cases r with
  |en _ _ _=>exact H1.elim
  |ex e s1=>
   intro c0 rest F a cs w hok hs
   refine WPat.two rfl ((H1 c0 rest F a cs w hok hs).mono fun e' a' cs' w' ⟨F',hle,he,hs'⟩=>?_)
   have hne':e' ≠ .normal:=by
    intro hc;subst hc
    cases e<;>simp only[ER]at he<;>first
     |(exact hne s1 h)
     |(exact Exit.noConfusion he)
     |(obtain⟨_,_,e⟩:=he;exact Exit.noConfusion e)
   cases e'<;>first
    |exact absurd rfl hne'
    |exact⟨F',hle,he,hs'⟩
end
end
end Go.Abs
namespace Go.Abs
open Go
noncomputable section
section
variable {P:Program} {G:Nat} {w0:Base} {rec:Cmd->Option Res} {orc:Orc}
theorem rest_ok{ops:Array Oper}{k:Nat}{o:Oper}{r:List Oper}(hk:o::r=ops.toList.drop k):ops[k]?=some o/\r=ops.toList.drop (k+1):=by
 have h1:ops.toList[k]?=some o:=by
  have:(ops.toList.drop k)[0]?=some o:=by rw[←hk];rfl
  rw[List.getElem?_drop]at this;simpa using this
 refine⟨by simpa using h1,?_⟩
 have:r=(ops.toList.drop k).drop 1:=by rw[←hk];rfl
 rw[this,List.drop_drop]
theorem okOper_mem{ops:Array Oper}(h:ops.all (okOper G)=true){k:Nat}{o:Oper}(ho:ops[k]?=some o):∀x∈o.op.operands,okOpd G x=true:=by
 have:=(Array.all_eq_true'.1 h) o (Array.mem_of_getElem? ho)
 exact Array.all_eq_true'.1 this
theorem step_ops(hrec:∀c r,rec c=some r->Holds P G w0 c r)(hP:okProg P G=true){D:Bool}{ops:Array Oper}{k:Nat}{todo:List Oper}{s:St}{r:Res}(h:step P orc rec (.ops D ops k todo s)=some r):
  Holds P G w0 (.ops D ops k todo s) r:=by
 cases todo with
 |nil=>
  replace h:some (Res.ex .normal s)=some r:=h
  simp only[Option.some.injEq]at h;subst h
  intro _ _ c0 rest F a cs w hs
  exact WPat.done ⟨F,Nm.le_refl F,rfl,hs⟩
 |cons o l=>
  simp only[step,stepK,opsK]at h
  -- the region goes on
  have hgo:∀(s1:St),rec (.ops D ops (k+1) l s1)=some r->∃e s2,r = .ex e s2/\(o::l=ops.toList.drop k->ops.all (okOper G)=true->∀c0 rest F a cs w,SR G w0 D c0 rest F s1 a cs w->
    WPat P D [.inRegion ops (List.range' (k+1) l.length)] (Ends G w0 D c0 rest F e s2) a cs w):=by
   intro s1 hr
   have H1:=hrec _ _ hr
   cases r with
   |en _ _ _=>exact H1.elim
   |ex e s2=>exact⟨e,s2,rfl,fun hk hok=>H1 (rest_ok hk).2 hok⟩
  have hcons:∀n,List.range' k (n+1)=k::List.range' (k+1) n:=fun n=>by rw[List.range'_succ]
  split at h
  ·cases h
  ·rename_i hw
   obtain⟨e,s2,hr,H⟩:=hgo _ h
   subst hr
   intro hk hok c0 rest F a cs w hs
   have ho:=(rest_ok hk).1
   rw[List.length_cons,hcons]
   refine WPat.skipOp ho ?_ (H hk hok c0 rest F _ cs w (hs.put o ((VR.plain_eq _ _ rfl).2 rfl)))
   exact wantedA_ok hs.2.1 hw
  ·rename_i hw
   split at h
   ·rename_i v h' hop
    obtain⟨e,s2,hr,H⟩:=hgo _ h
    subst hr
    intro hk hok c0 rest F a cs w hs
    have ho:=(rest_ok hk).1
    rw[List.length_cons,hcons]
    have hopd:=okOper_mem hok ho
    obtain⟨F',v',w',n,hle,hrun,hn,hv,R'⟩:=aOp_ok (P:=P) hs.1 (fun x hx=>aev_ok (a:=a) hs.1 hs.2.1 (hopd x hx)) hop
    refine WPat.value ho (wantedA_ok hs.2.1 hw) hrun hn ?_
    have hs':=(hs.mono hle R').put o hv
    exact(H hk hok c0 rest F' _ cs w' hs').mono fun _ _ _ _ q=>Ends.mono hle q
   ·-- no value
    unfold stepOp at h
    split at h
    ·rename_i g args hcall
     split at h
     ·rename_i v u h' hr1
      have H1:=hrec _ _ hr1
      obtain⟨e,s2,hr,H⟩:=hgo _ h
      subst hr
      intro hk hok c0 rest F a cs w hs
      have ho:=(rest_ok hk).1
      rw[List.length_cons,hcons]
      have hopd:=okOper_mem hok ho
      obtain⟨args',hrun,hargs⟩:=callOf_run hP (fun x hx=>aev_ok (a:=a) hs.1 hs.2.1 (hopd x hx)) hcall w
      refine WPat.callOp ho (wantedA_ok hs.2.1 hw) hrun ((H1 F w args' hs.1 hargs).mono fun e' w' ⟨F',hle,he,R'⟩=>?_)
      simp only[EnR]at he
      obtain⟨v',hv,e⟩:=he
      subst e
      have hs':=(hs.mono hle R').put o hv
      exact(H hk hok c0 rest F' _ cs w' hs').mono fun _ _ _ _ q=>Ends.mono hle q
     ·rename_i c u h' hr1
      have H1:=hrec _ _ hr1
      simp only[Option.some.injEq]at h;subst h
      intro hk hok c0 rest F a cs w hs
      have ho:=(rest_ok hk).1
      rw[List.length_cons,hcons]
      have hopd:=okOper_mem hok ho
      obtain⟨args',hrun,hargs⟩:=callOf_run hP (fun x hx=>aev_ok (a:=a) hs.1 hs.2.1 (hopd x hx)) hcall w
      refine WPat.callOp ho (wantedA_ok hs.2.1 hw) hrun ((H1 F w args' hs.1 hargs).mono fun e' w' ⟨F',hle,he,R'⟩=>?_)
      simp only[EnR]at he
      obtain⟨c',hc,e⟩:=he
      subst e
      exact⟨F',hle,⟨c',hc,rfl⟩,hs.mono hle R'⟩
     ·cases h
    ·obtain⟨dst,op,type,pos,after,guard⟩:=o
     simp only at h
     split at h
     ·rename_i f as ats _ _
      split at h
      ·rename_i fn first cap hf
       obtain⟨e,s2,hr,H⟩:=hgo _ h
       subst hr
       intro hk hok c0 rest F a cs w hs
       have ho:=(rest_ok hk).1
       rw[List.length_cons,hcons]
       have hopd:=okOper_mem hok ho
       have hρ:=fun x hx=>aev_ok (a:=a) hs.1 hs.2.1 (hopd x hx)
       have hfr:=hρ f (by simp[Op.operands,Call.operands])
       rw[hf]at hfr;simp only[VR]at hfr
       obtain⟨f',c',hf1,hf2,e'⟩:=hfr
       have hargs:VRL F (as.toList.map (aev s.ts)) (as.toList.map a.eval):=
        VRL_map _ fun y hy=>hρ y (by simp only[Op.operands,Call.operands,Array.mem_append];exact .inr (by simpa using hy))
       refine WPat.deferOp ho (wantedA_ok hs.2.1 hw) (d:={target := .fn fn c',args:=f'++as.map a.eval}) (w₁:=w) ?_ (H hk hok c0 rest F _ cs w ?_)
       ·simp only[execOp,resolve,e',Deferred.ofValue,pure_bind]
        rfl
       ·obtain⟨g1,g2,g3,g4⟩:=hs
        refine⟨g1,putL_ok (v:=undef) (v':=undef) (a:={a with defers:={target := .fn fn c',args:=f'++as.map a.eval}::a.defers}) g2 ((VR.plain_eq undef undef rfl).2 rfl) dst,?_,g4⟩
        rw[put_defers]
        refine⟨fn,cap,c',f'++as.map a.eval,_,rfl,hf2,VRA.ofL ?_,g3,rfl⟩
        simp only[Array.toList_append,Array.toList_map]
        exact hf1.toL.append hargs
      ·cases h
     ·rename_i x _ _
      split at h
      ·rename_i t v hx
       split at h
       ·cases h
       rename_i hmk
       simp only[Option.some.injEq]at h;subst h
       intro hk hok c0 rest F a cs w hs
       have ho:=(rest_ok hk).1
       rw[List.length_cons,hcons]
       have hopd:=okOper_mem hok ho
       have hρ:=fun x hx=>aev_ok (a:=a) hs.1 hs.2.1 (hopd x hx)
       have hxr:=hρ x (by simp[Op.operands])
       rw[hx]at hxr
       have hx0:=hxr
       obtain⟨v',_,e'⟩:=hxr.iface_real hmk
       rw[e']at hx0
       refine WPat.panicOp ho (wantedA_ok hs.2.1 hw) (v := .iface t v') (w₁:=w) ?_ ⟨F,Nm.le_refl F,⟨_,⟨_,[],hx0,rfl,rfl⟩,rfl⟩,hs⟩
       simp[execOp,e',Instr.panic]
      ·cases h
     ·split at h
      ·rename_i v older hu
       obtain⟨e,s2,hr,H⟩:=hgo _ h
       subst hr
       intro hk hok c0 rest F a cs w hs
       have ho:=(rest_ok hk).1
       rw[List.length_cons,hcons]
       obtain⟨g1,g2,g3,m,g4,g5⟩:=hs
       rw[hu]at g5
       obtain⟨c',⟨v',r',k1,k2,k3⟩,k4⟩:=g5
       subst k3
       refine WPat.recoverOp ho (wantedA_ok g2 hw) rfl (w₁:=w) (by simp[execOp,resolve,invoke,builtin]) ?_
       rw[g4,k4]
       simp only[recoverD]
       exact H hk hok c0 rest F _ _ w ⟨g1,putL_ok g2 k1 _,by rw[put_defers];exact g3,_,rfl,_,⟨v',r',k1,k2,rfl⟩,rfl⟩
      ·rename_i hu
       obtain⟨e,s2,hr,H⟩:=hgo _ h
       subst hr
       intro hk hok c0 rest F a cs w hs
       have ho:=(rest_ok hk).1
       rw[List.length_cons,hcons]
       have hs0:=hs
       obtain⟨g1,g2,g3,m,g4,g5⟩:=hs
       rw[hu]at g5
       simp only[MR]at g5
       refine WPat.recoverOp ho (wantedA_ok g2 hw) rfl (w₁:=w) (by simp[execOp,resolve,invoke,builtin]) ?_
       rw[g4,g5]
       simp only[recoverD]
       rw[←g5,←g4]
       exact H hk hok c0 rest F _ _ w (hs0.put _ ((VR.plain_eq _ _ rfl).2 rfl))
      ·cases h
     ·cases h
theorem leaves_mono'{fn:Func}{tmps:Array Value}{R R':Ending->World->Prop}(hRR:∀e w,R e w->R' e w):∀ {ds:List Deferred} {m:FrameMode} {w:World},Leaves P fn tmps R ds m w->Leaves P fn tmps R' ds m w:=by
 intro ds
 induction ds with
 |nil=>
  intro m w hl
  cases m with
  |run=>exact hl
  |returning=>obtain⟨v,h1,h2⟩:=hl;exact⟨v,h1,hRR _ _ h2⟩
  |panicking c=>exact hRR _ _ hl
 |cons d ds ih=>
  intro m w hl
  obtain⟨h1,fv,cap,f,args,h2,h3,h4⟩:=hl
  refine⟨h1,fv,cap,f,args,h2,h3,h4.mono fun e u w he=>?_⟩
  cases e with
  |returned v=>exact ih he
  |panicked c=>exact ih he
  |outgrown=>exact hRR _ _ he
theorem step_call(hrec:∀c r,rec c=some r->Holds P G w0 c r)(hP:okProg P G=true)(horc:OrcOk P G w0 orc){f:FuncId}{args:List Value}{hh:Heap}{r:Res}(h:step P orc rec (.call f args hh)=some r):
  Holds P G w0 (.call f args hh) r:=by
 simp only[step,stepK,callK]at h
 split at h
 ·rename_i e h' he
  simp only[Option.some.injEq]at h;subst h
  unfold asked at he
  split at he
  ·rename_i g hg
   exact horc _ _ _ _ _ _ hg he
  ·cases he
 ·split at h
  ·rename_i fn hf
   split at h
   ·rename_i c hc
    have hok:=(okProg_func hP hf hc).2
    -- the body, then what was deferred
    have hgo:∀(ex:Exit) (u:FrameMode) (s':St),(∀F e',ER F ex e'->∃m,MR F u m/\∀R a w,Leaves P fn a.tmps R a.defers m w->bodyPostD P fn R e' a w)->
      rec (.code false c ⟨Tm.of args fn.ntmps,[],hh,.run⟩)=some (.ex ex s')->rec (.leaves fn s'.ts s'.ds u s'.h)=some r->Holds P G w0 (.call f args hh) r:=by
     intro ex u s' hex h1 h2
     have H1:=hrec _ _ h1
     have H2:=hrec _ _ h2
     cases r with
     |ex _ _=>exact H2.elim
     |en e u' h'=>
      intro F w args' R ha
      refine calls_of_wp_defers hf hc ?_
      intro b k cs
      have hs:SR G w0 false default cs F ⟨Tm.of args fn.ntmps,[],hh,.run⟩ {tmps:=args'++Array.replicate (fn.ntmps-args'.size) undef,defers:=[]} cs w:=
       ⟨R,TR.of ha _,rfl,rfl⟩
      obtain⟨e',a',cs',w',⟨F',hle,he,hs'⟩,harr⟩:=H1 default cs F _ cs w hok hs b k (by intro h;cases h)
      obtain⟨g1,g2,g3,g4⟩:=hs'
      simp only at g4;subst g4
      obtain⟨m,hm,hpost⟩:=hex F' e' he
      refine⟨e',a',w',hpost _ a' w' ?_,harr⟩
      have hL:=H2 F' w' a'.tmps a'.defers m g1 g2 g3 hm
      exact leaves_mono' (fun e w ⟨F2,k1,k2,k3⟩=>⟨F2,Nm.le_trans hle k1,k2,k3⟩) hL
    split at h
    ·rename_i s' h1
     exact hgo .normal .returning s' (fun F e' he=>⟨.returning,rfl,fun R a w hl=>by simp only[ER]at he;subst he;exact hl⟩) h1 h
    ·rename_i s' h1
     exact hgo .ret .returning s' (fun F e' he=>⟨.returning,rfl,fun R a w hl=>by simp only[ER]at he;subst he;exact hl⟩) h1 h
    ·rename_i ch s' h1
     exact hgo (.panic ch) (.panicking ch) s' (fun F e' he=>by
      simp only[ER]at he;obtain⟨c',k1,k2⟩:=he;subst k2
      exact⟨.panicking c',⟨c',k1,rfl⟩,fun R a w hl=>hl⟩) h1 h
    ·cases h
   ·cases h
  ·cases h
theorem step_leaves(hrec:∀c r,rec c=some r->Holds P G w0 c r)(hP:okProg P G=true){fn:Func}{ts:Tm}{ds:List Deferred}{u:FrameMode}{hh:Heap}{r:Res}(h:step P orc rec (.leaves fn ts ds u hh)=some r):
  Holds P G w0 (.leaves fn ts ds u hh) r:=by
 cases ds with
 |nil=>
  cases u with
  |returning=>
   simp only[step,stepK,leavesK]at h
   split at h
   ·rename_i v hv
    simp only[Option.some.injEq]at h;subst h
    intro F w tmps ds' m R ht hd hm
    simp only[DsR]at hd;subst hd
    simp only[MR]at hm;subst hm
    obtain⟨v',h1,h2⟩:=aResults_ok (P:=P) R ht hv
    exact⟨v',h1,F,Nm.le_refl F,⟨v',h2,rfl⟩,R⟩
   ·cases h
  |panicking c=>
   replace h:some (Res.en (.panicked c) .run hh)=some r:=h
   simp only[Option.some.injEq]at h;subst h
   intro F w tmps ds' m R ht hd hm
   simp only[DsR]at hd;subst hd
   obtain⟨c',hc,e⟩:=hm;subst e
   exact⟨F,Nm.le_refl F,⟨c',hc,rfl⟩,R⟩
  |run=>exact absurd (show(none:Option Res)=some r from h) (by simp)
 |cons d ds=>
  simp only[step,stepK,leavesK]at h
  split at h
  ·cases h
  ·rename_i u _ _ g cap hu htar
   split at h
   ·rename_i hb
    -- the deferred call, then the others
    have hgo:∀(e1:Ending) (u1 u2:FrameMode) (h1:Heap),rec (.callD g (d.args.toList++cap.toList) u hh)=some (.en e1 u1 h1)->rec (.leaves fn ts ds u2 h1)=some r->
      (∀F e' m',EnR F e1 e'->MR F u1 m'->(∃v,e' = .returned v/\MR F u2 (settle m'))∨(∃c,e' = .panicked c/\MR F u2 (raised m' c)))->Holds P G w0 (.leaves fn ts (d::ds) u hh) r:=by
     intro e1 u1 u2 h1 hr1 hr2 hnext
     have H1:=hrec _ _ hr1
     have H2:=hrec _ _ hr2
     cases r with
     |ex _ _=>exact H2.elim
     |en e u' h'=>
      intro F w tmps ds' m R ht hd hm
      obtain⟨fn',cap1,cap',args',r',k1,k2,k3,k4,k5⟩:=hd
      subst k5
      rw[htar]at k1
      simp only[Target.fn.injEq]at k1
      obtain⟨k6,k7⟩:=k1
      subst k6;subst k7
      have hmr:m ≠ .run:=by
       intro e;subst e
       cases u with
       |run=>exact hu rfl
       |returning=>simp only[MR]at hm;cases hm
       |panicking c=>obtain⟨_,_,e⟩:=hm;cases e
      refine⟨hmr,.func g,cap',g,args'++cap',rfl,?_,?_⟩
      ·simp only[invoke];exact run_callFunc hP hb _ w
      ·refine(H1 F w (args'++cap') m R (by rw[Array.toList_append];exact k3.toL.append k2.toL) hm).mono fun e' m' w' ⟨F',hle,he,hm',R'⟩=>?_
       rcases hnext F' e' m' he hm' with⟨v,e2,hm2⟩ | ⟨c,e2,hm2⟩
       ·subst e2
        have:=H2 F' w' tmps r' _ R' (ht.mono hle) (k4.mono hle) hm2
        exact leaves_mono' (fun e w ⟨F2,q1,q2,q3⟩=>⟨F2,Nm.le_trans hle q1,q2,q3⟩) this
       ·subst e2
        have:=H2 F' w' tmps r' _ R' (ht.mono hle) (k4.mono hle) hm2
        exact leaves_mono' (fun e w ⟨F2,q1,q2,q3⟩=>⟨F2,Nm.le_trans hle q1,q2,q3⟩) this
    split at h
    ·rename_i v u' h' hr1
     refine hgo _ _ _ _ hr1 h fun F e' m' he hm' => .inl ?_
     simp only[EnR]at he;obtain⟨v',_,e2⟩:=he
     exact⟨v',e2,hm'.settle⟩
    ·rename_i c u' h' hr1
     refine hgo _ _ _ _ hr1 h fun F e' m' he hm' => .inr ?_
     simp only[EnR]at he;obtain⟨c',hc,e2⟩:=he
     exact⟨c',e2,hm'.raised hc⟩
    ·cases h
   ·cases h
  ·cases h
theorem step_callD(hrec:∀c r,rec c=some r->Holds P G w0 c r)(hP:okProg P G=true){f:FuncId}{args:List Value}{u:FrameMode}{hh:Heap}{r:Res}(h:step P orc rec (.callD f args u hh)=some r):
  Holds P G w0 (.callD f args u hh) r:=by
 simp only[step,stepK,callDK]at h
 split at h
 ·rename_i fn hf
  split at h
  ·rename_i c hc
   have hok:=(okProg_func hP hf hc).2
   have hgo:∀(ex:Exit) (s':St) (e:Ending),s'.ds=[]->rec (.code true c ⟨Tm.of args fn.ntmps,[],hh,u⟩)=some (.ex ex s')->
     (∀F e' a' w' cs' c0 rest m',ER F ex e'->Rel G F s'.h w0 w'->TR F s'.ts a'.tmps->a'.defers=[]->cs'={c0 with mode:=m' }::rest->MR F s'.u m'->∀R:Ending->FrameMode->World->Prop,
      (∀e2,EnR F e e2->R e2 m' w')->bodyPostS P fn c0 rest R e' a' cs' w')->r = .en e s'.u s'.h->Holds P G w0 (.callD f args u hh) r:=by
    intro ex s' e hds h1 hpost hr
    subst hr
    have H1:=hrec _ _ h1
    intro F w args' m R ha hm
    refine callsD_of_wpS hf hc ?_
    intro c0 cs hu b k hb hro
    have hs:SR G w0 true c0 cs F ⟨Tm.of args fn.ntmps,[],hh,u⟩ {tmps:=args'++Array.replicate (fn.ntmps-args'.size) undef,defers:=[]} (c0::cs) w:=
     ⟨R,TR.of ha _,rfl,m,by rw[←hu],hm⟩
    obtain⟨e',a',cs',w',⟨F',hle,he,g1,g2,g3,m',g4,g5⟩,harr⟩:=H1 c0 cs F _ (c0::cs) w hok hs b k (fun _=>⟨hb,hro⟩)
    rw[hds]at g3;simp only[DsR]at g3
    refine⟨e',a',cs',w',hpost F' e' a' w' cs' c0 cs m' he g1 g2 g3 g4 g5 _ fun e2 he2=>?_,harr⟩
    exact⟨F',hle,he2,g5,g1⟩
   split at h
   ·rename_i ts h' u' h1
    split at h<;>(try(cases h;done))
    rename_i v hv
    simp only[Option.some.injEq]at h;subst h
    refine hgo .normal _ (.returned v) rfl h1 ?_ rfl
    intro F e' a' w' cs' c0 rest m' he R ht hd hcs hm RR hR
    simp only[ER]at he;subst he
    obtain⟨v',g1,g2⟩:=aResults_ok (P:=P) R ht hv
    exact⟨hd,m',hcs,v',g1,hR _ ⟨v',g2,rfl⟩⟩
   ·rename_i ts h' u' h1
    split at h<;>(try(cases h;done))
    rename_i v hv
    simp only[Option.some.injEq]at h;subst h
    refine hgo .ret _ (.returned v) rfl h1 ?_ rfl
    intro F e' a' w' cs' c0 rest m' he R ht hd hcs hm RR hR
    simp only[ER]at he;subst he
    obtain⟨v',g1,g2⟩:=aResults_ok (P:=P) R ht hv
    exact⟨hd,m',hcs,v',g1,hR _ ⟨v',g2,rfl⟩⟩
   ·rename_i ch ts h' u' h1
    simp only[Option.some.injEq]at h;subst h
    refine hgo (.panic ch) _ (.panicked ch) rfl h1 ?_ rfl
    intro F e' a' w' cs' c0 rest m' he R ht hd hcs hm RR hR
    simp only[ER]at he;obtain⟨c',k1,k2⟩:=he;subst k2
    exact⟨hd,m',hcs,hR _ ⟨c',k1,rfl⟩⟩
   ·cases h
  ·cases h
 ·cases h
end
end
end Go.Abs
