/- What the evaluator with nodes says of code and calls is so. -/
import Derived.Test.YtblbaohcelldpaaW5
set_option linter.all false
namespace Go.Abs
open Go
noncomputable section
section
variable {P:Program} {G:Nat} {B:Base} {D:Bool} {s:St} {r:Res} {ops:Array Oper} {k:Nat} {o:Oper} {l:List Oper}
theorem orc0_ok(B:Base):OrcOk P G B (fun _=>none):=fun f g args h e h' hf=>by cases hf
theorem h_opsCallP(hP:okProg P G=true)(hw:wantedA o ops.toList s.ts=some true)(hn:aOp P o (aev s.ts) s.h=none){g:FuncId}{args:List Value}(hc:callOf P (aev s.ts) o.op=some (g,args))
  {c:List PanicEntry} {u:FrameMode} {h':Heap} (h1:Holds P G B (.call g args s.h) (.en (.panicked c) u h')):Holds P G B (.ops D ops k (o::l) s) (.ex (.panic c) {s with h:=h' }):=by
 refine step_ops (orc:=fun _=>none) (rec:=rec1 _ _) (rec1_ok h1) hP ?_
 simp only[step,stepK,opsK,hw,hn,stepOp,hc,rec1_at]
theorem h_opsDefer(hP:okProg P G=true)(hw:wantedA o ops.toList s.ts=some true){f:Operand}{as:Array Operand}{ats:Array TypeId}(ho:o.op = .defer {callee := .value f,args:=as,argTypes:=ats}){fn:Fn}{first cap:Array Value}
  (hf:aev s.ts f = .func fn first cap) (h:Holds P G B (.ops D ops (k+1) l {put s o undef with ds:={target := .fn fn cap,args:=first++as.map (aev s.ts)}::s.ds}) r):Holds P G B (.ops D ops k (o::l) s) r:=by
 refine step_ops (orc:=fun _=>none) (rec:=rec1 _ _) (rec1_ok h) hP ?_
 have h1:aOp P o (aev s.ts) s.h=none:=by unfold aOp;rw[ho];rfl
 have h2:callOf P (aev s.ts) (.defer {callee := .value f,args:=as,argTypes:=ats})=none:=rfl
 simp only[step,stepK,opsK,hw,h1,stepOp,h2,ho,hf,rec1_at]
theorem h_opsPanic(hP:okProg P G=true)(hw:wantedA o ops.toList s.ts=some true){x:Operand}(ho:o.op = .panic x){t:TypeId}{v:Value}(hx:aev s.ts x = .iface t v)(hm:isMk t=false):
  Holds P G B (.ops D ops k (o::l) s) (.ex (.panic [{v := .iface t v,recovered:=false}]) s):=by
 refine step_ops (orc:=fun _=>none) (rec:=fun _=>none) (fun c r h=>by cases h) hP ?_
 have h1:aOp P o (aev s.ts) s.h=none:=by unfold aOp;rw[ho];rfl
 have h2:callOf P (aev s.ts) (.panic x)=none:=rfl
 simp only[step,stepK,opsK,hw,h1,stepOp,h2,ho,hx,hm]
theorem h_opsRec(hP:okProg P G=true)(hw:wantedA o ops.toList s.ts=some true){as:Array Operand}{ats:Array TypeId}(ho:o.op = .call {callee := .builtin .recover,args:=as,argTypes:=ats})(hD:D=true){v:Value}{older:List PanicEntry}
  (hu:s.u = .panicking ({v:=v,recovered:=false,goexit:=false}::older)) (h:Holds P G B (.ops D ops (k+1) l {put s o v with u := .panicking ({v:=v,recovered:=true}::older)}) r):Holds P G B (.ops D ops k (o::l) s) r:=by
 refine step_ops (orc:=fun _=>none) (rec:=rec1 _ _) (rec1_ok h) hP ?_
 have h1:aOp P o (aev s.ts) s.h=none:=by unfold aOp;rw[ho];rfl
 have h2:callOf P (aev s.ts) (.call {callee := .builtin .recover,args:=as,argTypes:=ats})=none:=rfl
 subst hD
 simp only[step,stepK,opsK,hw,h1,stepOp,h2,ho,hu,rec1_at]
theorem h_opsRec0(hP:okProg P G=true)(hw:wantedA o ops.toList s.ts=some true){as:Array Operand}{ats:Array TypeId}(ho:o.op = .call {callee := .builtin .recover,args:=as,argTypes:=ats})(hD:D=true)
  (hu:s.u = .returning) (h:Holds P G B (.ops D ops (k+1) l (Abs.put s o .nilIface)) r):Holds P G B (.ops D ops k (o::l) s) r:=by
 refine step_ops (orc:=fun _=>none) (rec:=rec1 _ _) (rec1_ok h) hP ?_
 have h1:aOp P o (aev s.ts) s.h=none:=by unfold aOp;rw[ho];rfl
 have h2:callOf P (aev s.ts) (.call {callee := .builtin .recover,args:=as,argTypes:=ats})=none:=rfl
 subst hD
 simp only[step,stepK,opsK,hw,h1,stepOp,h2,ho,hu,rec1_at]
theorem h_callE(hP:okProg P G=true){f:FuncId}{args:List Value}{hh:Heap}{fn:Func}{c:Code}(hf:P.funcs[f]?=some fn)(hc:fn.body=some c){s1:St}{e:Exit}{u:FrameMode}(he:(e = .normal/\u = .returning)∨(e = .ret/\u = .returning)∨∃ch,e = .panic ch/\u = .panicking ch)
  (h1:Holds P G B (.code false c ⟨Tm.of args fn.ntmps,[],hh,.run⟩) (.ex e s1)) (h2:Holds P G B (.leaves fn s1.ts s1.ds u s1.h) r):Holds P G B (.call f args hh) r:=by
 refine step_call (orc:=fun _=>none) (rec:=rec2 _ _ _ _) (rec2_ok h1 h2) hP (orc0_ok B) ?_
 simp only[step,stepK,callK,asked,hf,hc,rec2_at]
 rcases he with⟨he,hu⟩ | ⟨he,hu⟩ | ⟨ch,he,hu⟩<;>subst he<;>subst hu<;>simp only<;>rw[rec2_at']<;>intro e<;>cases e
theorem h_leaves0(hP:okProg P G=true){fn:Func}{ts:Tm}{hh:Heap}{v:Value}(hv:aResults P fn ts hh=some v):Holds P G B (.leaves fn ts [] .returning hh) (.en (.returned v) .run hh):=by
 refine step_leaves (orc:=fun _=>none) (rec:=fun _=>none) (fun c r h=>by cases h) hP ?_
 simp only[step,stepK,leavesK,hv]
theorem h_leavesP(hP:okProg P G=true){fn:Func}{ts:Tm}{hh:Heap}{c:List PanicEntry}:Holds P G B (.leaves fn ts [] (.panicking c) hh) (.en (.panicked c) .run hh):=by
 refine step_leaves (orc:=fun _=>none) (rec:=fun _=>none) (fun c r h=>by cases h) hP ?_
 simp only[step,stepK,leavesK]
theorem h_leavesD(hP:okProg P G=true){fn:Func}{ts:Tm}{d:Deferred}{ds:List Deferred}{u:FrameMode}{hh:Heap}(hu:u ≠ .run){g:FuncId}{cap:Array Value}(hd:d.target = .fn (.func g) cap)(hb:hasBody P g=true)
  {e:Ending} {u' u2:FrameMode} {h':Heap} (he:(∃v,e = .returned v/\u2=settle u')∨∃c,e = .panicked c/\u2=raised u' c)
  (h1:Holds P G B (.callD g (d.args.toList++cap.toList) u hh) (.en e u' h')) (h2:Holds P G B (.leaves fn ts ds u2 h') r):Holds P G B (.leaves fn ts (d::ds) u hh) r:=by
 refine step_leaves (orc:=fun _=>none) (rec:=rec2 _ _ _ _) (rec2_ok h1 h2) hP ?_
 cases u with
 |run=>exact absurd rfl hu
 |returning=>
  simp only[step,stepK,leavesK,hd,hb,rec2_at]
  rcases he with⟨v,he,h3⟩ | ⟨c,he,h3⟩<;>subst he<;>subst h3<;>simp only<;>rw[rec2_at']<;>intro e<;>cases e
 |panicking c=>
  simp only[step,stepK,leavesK,hd,hb,rec2_at]
  rcases he with⟨v,he,h3⟩ | ⟨c,he,h3⟩<;>subst he<;>subst h3<;>simp only<;>rw[rec2_at']<;>intro e<;>cases e
theorem h_callD(hP:okProg P G=true){f:FuncId}{args:List Value}{u:FrameMode}{hh:Heap}{fn:Func}{c:Code}(hf:P.funcs[f]?=some fn)(hc:fn.body=some c){e:Exit}{ts:Tm}{h':Heap}{u':FrameMode}{v:Value}(he:e = .normal∨e = .ret)
  (h1:Holds P G B (.code true c ⟨Tm.of args fn.ntmps,[],hh,u⟩) (.ex e ⟨ts,[],h',u'⟩)) (hv:aResults P fn ts h'=some v):Holds P G B (.callD f args u hh) (.en (.returned v) u' h'):=by
 refine step_callD (orc:=fun _=>none) (rec:=rec1 _ _) (rec1_ok h1) hP ?_
 simp only[step,stepK,callDK,hf,hc,rec1_at]
 rcases he with he|he<;>subst he<;>simp only[hv]
theorem h_callDP(hP:okProg P G=true){f:FuncId}{args:List Value}{u:FrameMode}{hh:Heap}{fn:Func}{c:Code}(hf:P.funcs[f]?=some fn)(hc:fn.body=some c){ts:Tm}{h':Heap}{u':FrameMode}{ch:List PanicEntry}
  (h1:Holds P G B (.code true c ⟨Tm.of args fn.ntmps,[],hh,u⟩) (.ex (.panic ch) ⟨ts,[],h',u'⟩)):Holds P G B (.callD f args u hh) (.en (.panicked ch) u' h'):=by
 refine step_callD (orc:=fun _=>none) (rec:=rec1 _ _) (rec1_ok h1) hP ?_
 simp only[step,stepK,callDK,hf,hc,rec1_at]
theorem holds_canonD{c:Code}{s:St}{r:Res}{live:List Nat}(h:Holds P G B (.loop false c ⟨tmOf s.ts.n live (live.map s.ts.get),s.ds,s.h,.run⟩) r):Holds P G B (.loop false c s) r:=by
 cases r with
 |en _ _ _=>exact h.elim
 |ex e s2=>
  intro c0 rest F a cs w hok hs
  refine h c0 rest F a cs w hok ⟨hs.1,hs.2.1.canon,hs.2.2.1,hs.2.2.2⟩
theorem wpe_ok (hP:okProg P G=true) {W:How} (hkn:KnOk P G W) (hlp:LpOk P G W):∀n c Q,wpe P (real P) W n c Q->∃r,(∀B,Holds P G B c r)/\Q r
  | 0,c,Q,h=>h.elim
  |n+1,c,Q,h=>by
    have ih:=fun c Q=>wpe_ok hP hkn hlp n c Q
    replace h:wStep P (real P) W (wpe P (real P) W n) Q c:=h
    cases c with
    |code D c s=>
      replace h:wCode P (real P) W c D s (wpe P (real P) W n) Q:=h
      cases c with
      |skip=>exact⟨_,fun _=>h_skip,h⟩
      |label l=>exact⟨_,fun _=>h_label,h⟩
      |ret=>exact⟨_,fun _=>h_ret,h⟩
      |exit id=>exact⟨_,fun _=>h_exit,h⟩
      |seq a b=>
        obtain⟨r,h1,h2⟩:=ih _ _ h
        cases r with
        |en _ _ _=>exact(h1 noBase).elim
        |ex e s1=>
          by_cases he:e = .normal
          · subst he
            obtain⟨r2,h3,h4⟩:=ih _ _ h2
            exact⟨r2,fun B=>h_seq (h1 B) (h3 B),h4⟩
          · refine⟨_,fun B=>h_seq' hP (h1 B) (fun s' e=>he (by simp only[Res.ex.injEq]at e;exact e.1)),?_⟩
            cases e<;>first|exact absurd rfl he|exact h2
      |cond c a b=>
        simp only[wCode]at h
        split at h
        · rename_i t ht
          have h:=branch_elim h
          cases t
          · obtain⟨r,h1,h2⟩:=ih _ _ h;exact⟨r,fun B=>h_cond hP ht (h1 B),h2⟩
          · obtain⟨r,h1,h2⟩:=ih _ _ h;exact⟨r,fun B=>h_cond hP ht (h1 B),h2⟩
        · exact h.elim
      |block id c=>
        obtain⟨r,h1,h2⟩:=ih _ _ h
        refine⟨_,fun B=>h_block hP (h1 B),?_⟩
        cases r with
        |en _ _ _=>exact(h1 noBase).elim
        |ex e s1=>
          cases e<;>first|exact h2|skip
          rename_i i
          simp only[wBlock,blkRes]at h2 ⊢
          split at h2<;>simp_all
      |loop c=>
        simp only[wCode]at h
        split at h
        · obtain⟨r,h1,h2⟩:=ih _ _ h;exact⟨r,fun B=>h_loop hP (h1 B),h2⟩
        · rename_i live S hS
          split at h
          · obtain⟨r,h1,h2⟩:=hlp _ _ _ _ hS _ _ _ _ _ _ h
            exact⟨r,fun B=>h_loop hP (holds_canonD (h1 B)),h2⟩
          · exact h.elim
      |scope c=>
        obtain⟨r,h1,h2⟩:=ih _ _ h
        cases r with
        |en _ _ _=>exact(h1 noBase).elim
        |ex e s1=>
          by_cases hg:∃l,e = .goto l
          · obtain⟨l,e⟩:=hg;subst e;exact h2.elim
          · refine⟨_,fun B=>h_scope hP (h1 B) (fun l s' e=>hg ⟨l,by simp only[Res.ex.injEq]at e;exact e.1⟩),?_⟩
            cases e<;>first|exact h2|exact absurd ⟨_,rfl⟩ hg
      |region id ops d=>
        cases d with
        |false=>obtain⟨r,h1,h2⟩:=ih _ _ h;exact⟨r,fun B=>h_region hP (h1 B),h2⟩
        |true=>
          simp only[wCode]at h
          split at h
          · rename_i hc
            obtain⟨ts',h',h1,h2⟩:=wDrG_draw hP ih hkn.2 hc h
            exact⟨_,fun B=>h_region' hP (h1 B),h2⟩
          · exact h.elim
      |rangeFunc f p x y=>exact h.elim
      |goto l=>exact h.elim
      |refuse y=>exact h.elim
    |loop D c s=>
      obtain⟨r,h1,h2⟩:=ih _ _ h
      cases r with
      |en _ _ _=>exact(h1 noBase).elim
      |ex e s1=>
        by_cases he:e = .normal
        · subst he
          obtain⟨r2,h3,h4⟩:=ih _ _ h2
          exact⟨r2,fun B=>h_loopN (h1 B) (h3 B),h4⟩
        · refine⟨_,fun B=>h_loopX (h1 B) (fun s' e=>he (by simp only[Res.ex.injEq]at e;exact e.1)),?_⟩
          cases e<;>first|exact absurd rfl he|exact h2
    |ops D ops k todo s=>
      cases todo with
      |nil=>exact⟨_,fun _=>h_ops0,h⟩
      |cons o r=>
        simp only[wStep,wOps]at h
        obtain⟨ts',hts,h⟩:=wGuardS_ok h
        rcases h with⟨hw,h⟩ | ⟨hw,h⟩
        · split at h
          · obtain⟨⟨g,args⟩,hc,h⟩:=opt_elim h
            obtain⟨r1,h1,h2⟩:=ih _ _ h
            cases r1 with
            |ex _ _=>exact(h1 noBase).elim
            |en e u h'=>
              cases e with
              |returned v=>
                obtain⟨r2,h3,h4⟩:=ih _ _ h2
                exact⟨r2,fun B=>holds_ts hts (h_opsCall (s:={s with ts:=ts' }) hP hw (callOf_noVal hc) hc (h1 B) (h3 B)),h4⟩
              |panicked c=>exact⟨_,fun B=>holds_ts hts (h_opsCallP (s:={s with ts:=ts' }) hP hw (callOf_noVal hc) hc (h1 B)),h2⟩
              |outgrown=>exact h2.elim
          · split at h
            · rename_i f as ats ho
              split at h
              · rename_i fn first cap hf
                obtain⟨r2,h3,h4⟩:=ih _ _ h
                exact⟨r2,fun B=>holds_ts hts (h_opsDefer (s:={s with ts:=ts' }) hP hw ho hf (h3 B)),h4⟩
              · exact h.elim
            · rename_i x ho
              split at h
              · rename_i t v hx
                split at h
                · exact h.elim
                · rename_i hm
                  exact⟨_,fun B=>holds_ts hts (h_opsPanic (s:={s with ts:=ts' }) hP hw ho hx hm),h⟩
              · exact h.elim
            · rename_i as ats ho
              split at h
              · rename_i v older hu _
                obtain⟨r2,h3,h4⟩:=ih _ _ h
                exact⟨r2,fun B=>holds_ts hts (h_opsRec (s:={s with ts:=ts' }) hP hw ho rfl hu (h3 B)),h4⟩
              · rename_i hu _
                obtain⟨r2,h3,h4⟩:=ih _ _ h
                exact⟨r2,fun B=>holds_ts hts (h_opsRec0 (s:={s with ts:=ts' }) hP hw ho rfl hu (h3 B)),h4⟩
              · exact h.elim
            · obtain⟨v,H',ho,h⟩:=wOpC_ok h
              obtain⟨r2,h3,h4⟩:=ih _ _ h
              exact⟨r2,fun B=>holds_ts hts (h_opsVal (s:={s with ts:=ts' }) hP hw ho (h3 B)),h4⟩
        · obtain⟨r2,h3,h4⟩:=ih _ _ h
          exact⟨r2,fun B=>holds_ts hts (h_opsSkip (s:={s with ts:=ts' }) hP hw (h3 B)),h4⟩
    |draw _ _=>exact h.elim
    |call f args hh=>
      simp only[wStep]at h
      split at h
      · rename_i S hS
        obtain⟨v,H',h1,h2⟩:=hkn.1 _ _ hS _ _ _ h
        exact⟨.en (.returned v) .run H',h1,h2⟩
      · split at h
        · rename_i S hS
          obtain⟨v,h1,h2⟩:=hkn.2 _ _ hS _ _ h
          exact⟨.en (.returned v) .run _,fun B=>h1 B _,h2⟩
        obtain⟨fn,hf,h⟩:=opt_elim h
        obtain⟨c,hc,h⟩:=opt_elim h
        obtain⟨r,h1,h2⟩:=ih _ _ h
        cases r with
        |en _ _ _=>exact(h1 noBase).elim
        |ex e s1=>
          cases e<;>(try(exact h2.elim))
          · obtain⟨r2,h3,h4⟩:=ih _ _ h2
            exact⟨r2,fun B=>h_callE hP hf hc (.inl ⟨rfl,rfl⟩) (h1 B) (h3 B),h4⟩
          · obtain⟨r2,h3,h4⟩:=ih _ _ h2
            exact⟨r2,fun B=>h_callE hP hf hc (.inr (.inl ⟨rfl,rfl⟩)) (h1 B) (h3 B),h4⟩
          · obtain⟨r2,h3,h4⟩:=ih _ _ h2
            exact⟨r2,fun B=>h_callE hP hf hc (.inr (.inr ⟨_,rfl,rfl⟩)) (h1 B) (h3 B),h4⟩
    |callD f args u hh=>
      simp only[wStep]at h
      obtain⟨fn,hf,h⟩:=opt_elim h
      obtain⟨c,hc,h⟩:=opt_elim h
      obtain⟨r,h1,h2⟩:=ih _ _ h
      unfold wBodyD at h2
      split at h2
      · obtain⟨v,hv,hq⟩:=opt_elim h2
        exact⟨_,fun B=>h_callD hP hf hc (.inl rfl) (h1 B) hv,hq⟩
      · obtain⟨v,hv,hq⟩:=opt_elim h2
        exact⟨_,fun B=>h_callD hP hf hc (.inr rfl) (h1 B) hv,hq⟩
      · exact⟨_,fun B=>h_callDP hP hf hc (h1 B),h2⟩
      · exact h2.elim
    |leaves fn ts ds u hh=>
      simp only[wStep]at h
      cases ds with
      |nil=>
        simp only[wLeaves]at h
        split at h
        · obtain⟨v,hv,hq⟩:=opt_elim h
          exact⟨_,fun B=>h_leaves0 hP hv,hq⟩
        · exact⟨_,fun B=>h_leavesP hP,h⟩
        · exact h.elim
      |cons d ds=>
        simp only[wLeaves]at h
        split at h
        · exact h.elim
        · rename_i g cap hu hd
          split at h
          · rename_i hb
            obtain⟨r,h1,h2⟩:=ih _ _ h
            split at h2
            · obtain⟨r2,h3,h4⟩:=ih _ _ h2
              exact⟨r2,fun B=>h_leavesD hP (fun e=>hu e) hd hb (.inl ⟨_,rfl,rfl⟩) (h1 B) (h3 B),h4⟩
            · obtain⟨r2,h3,h4⟩:=ih _ _ h2
              exact⟨r2,fun B=>h_leavesD hP (fun e=>hu e) hd hb (.inr ⟨_,rfl,rfl⟩) (h1 B) (h3 B),h4⟩
            · exact h2.elim
          · exact h.elim
        · exact h.elim
end
end
end Go.Abs
namespace Go.Abs
open Go
noncomputable section
theorem objsOf_len(G:Nat)(h:Heap):(objsOf G h).length=h.next-G:=by
 have:∀n k,(objsOf.go h n k).length=n:=by
  intro n
  induction n with
  |zero=>intro k;rfl
  |succ n ih=>intro k;simp[objsOf.go,ih]
 exact this _ _
section
variable {P:Program} {G:Nat} {B:Base}
mutual
def below(n0:Nat):Value->Bool
 | .pointer (some a)=>Nat.blt a.block n0
 | .slice (some a) _ _=>Nat.blt a.block n0
 | .map (some r)=>Nat.blt r n0
 | .func _ x y=>belowA n0 x&&belowA n0 y
 | .iface t v=>match isDP t with
  |true=>true
  |false=>below n0 v
 | .agg c=>belowA n0 c
 | .tuple c=>belowA n0 c
 |_=>true
def belowA(n0:Nat):Array Value->Bool
 |⟨l⟩=>belowL n0 l
def belowL(n0:Nat):List Value->Bool
 | []=>true
 |v::l=>below n0 v&&belowL n0 l
end
structure Agree(n0:Nat)(F F':Nm):Prop where
 nm:∀n,n<n0->F' n=F n∨F n=none
 zs:zle F.z F'.z
theorem Agree.at{n0:Nat}{F F':Nm}(h:Agree n0 F F'){n:Nat}(hn:Nat.blt n n0=true){x:Nat×Nat×Nat}(hx:F n=some x):F' n=some x:=by
 rcases h.nm n (Nat.le_of_ble_eq_true hn)with e|e
 ·rw[e];exact hx
 ·rw[e]at hx;cases hx
theorem Agree.bare{n0:Nat}{F F':Nm}(h:Agree n0 F F'):Nm.le F.bare F'.bare:=⟨fun n x (e:(none:Option (Nat×Nat×Nat))=some x)=>(by cases e),h.zs⟩
theorem Agree.refl(n0:Nat)(F:Nm):Agree n0 F F:=⟨fun _ _ => .inl rfl,zle_refl _⟩
theorem Agree.trans{n0:Nat}{F F' F2:Nm}(h:Agree n0 F F')(h':Agree n0 F' F2):Agree n0 F F2:=
 ⟨fun n hn=>by
  rcases h.nm n hn with e|e
  ·rcases h'.nm n hn with e'|e'
   ·exact .inl (by rw[e',e])
   ·exact .inr (by rw[←e,e'])
  ·exact .inr e,fun b i v e=>h'.zs b i v (h.zs b i v e)⟩
mutual
theorem VR.below{n0:Nat}:∀ {F F':Nm} (_:Agree n0 F F') (v v':Value),below n0 v=true->VR F v v'->VR F' v v'
 |F,F',h,.bool b,v',_,hv=>by simpa [VR]using hv
 |F,F',h,.int k n,v',_,hv=>by simpa [VR]using hv
 |F,F',h,.float k n,v',_,hv=>by simpa [VR]using hv
 |F,F',h,.complex k n m,v',_,hv=>by simpa [VR]using hv
 |F,F',h,.string s,v',_,hv=>by simpa [VR]using hv
 |F,F',h,.pointer none,v',_,hv=>by simpa [VR]using hv
 |F,F',h,.pointer (some a),v',hb,hv=>by
  simp only[VR]at hv ⊢;obtain⟨a',⟨d,o,r,e1⟩,e⟩:=hv;exact⟨a',⟨d,o,h.at hb r,e1⟩,e⟩
 |F,F',h,.slice none l c,v',_,hv=>by simpa [VR]using hv
 |F,F',h,.slice (some a) l c,v',hb,hv=>by
  simp only[VR]at hv ⊢;obtain⟨a',d,o,r,e⟩:=hv;exact⟨a',d,o,h.at hb r,e⟩
 |F,F',h,.map none,v',_,hv=>by simpa [VR]using hv
 |F,F',h,.map (some r),v',hb,hv=>by
  simp only[VR]at hv ⊢;obtain⟨a',d,o,r,e⟩:=hv;exact⟨a',d,o,h.at hb r,e⟩
 |F,F',h,.chan none,v',_,hv=>by simpa [VR]using hv
 |F,F',h,.chan (some r),v',_,hv=>by simp[VR]
 |F,F',h,.func fn x y,v',hb,hv=>by
  simp only[Abs.below,Bool.and_eq_true]at hb
  simp only[VR]at hv ⊢;obtain⟨f',c',h1,h2,e⟩:=hv
  exact⟨f',c',VRA.below h _ _ hb.1 h1,VRA.below h _ _ hb.2 h2,e⟩
 |F,F',h,.nilFunc,v',_,hv=>by simpa [VR]using hv
 |F,F',h,.iface t v,v',hb,hv=>by
  rw[VR.iface_iff]at hv ⊢
  rcases hv with⟨x',h1,e⟩ | hv
  ·refine .inl ⟨x',?_,e.mono h.zs⟩
   simp only[Abs.below]at hb
   unfold Nm.on at h1 ⊢
   split at hb
   ·rename_i ht;simp only[ht]at h1 ⊢;exact VR.mono h.bare _ _ h1
   ·rename_i ht;simp only[ht]at h1 ⊢;exact VR.below h _ _ hb h1
  ·exact .inr hv
 |F,F',h,.nilIface,v',_,hv=>by simpa [VR]using hv
 |F,F',h,.agg cs,v',hb,hv=>by
  simp only[Abs.below]at hb
  simp only[VR]at hv ⊢;obtain⟨x',h1,e⟩:=hv;exact⟨x',VRA.below h _ _ hb h1,e⟩
 |F,F',h,.tuple cs,v',hb,hv=>by
  simp only[Abs.below]at hb
  simp only[VR]at hv ⊢;obtain⟨x',h1,e⟩:=hv;exact⟨x',VRA.below h _ _ hb h1,e⟩
theorem VRA.below{n0:Nat}:∀ {F F':Nm} (_:Agree n0 F F') (c c':Array Value),belowA n0 c=true->VRA F c c'->VRA F' c c'
 |F,F',h,⟨l⟩,c',hb,hv=>by simp only[belowA]at hb;simp only[VRA]at hv ⊢;exact VRL.below h _ _ hb hv
theorem VRL.below{n0:Nat}:∀ {F F':Nm} (_:Agree n0 F F') (l l':List Value),belowL n0 l=true->VRL F l l'->VRL F' l l'
 |F,F',h,[],l',_,hv=>by simpa [VRL]using hv
 |F,F',h,v::l,l',hb,hv=>by
  simp only[belowL,Bool.and_eq_true]at hb
  simp only[VRL]at hv ⊢;obtain⟨v',r',h1,h2,e⟩:=hv
  exact⟨v',r',VR.below h _ _ hb.1 h1,VRL.below h _ _ hb.2 h2,e⟩
end
def belowD(n0:Nat):List Deferred->Bool
 | []=>true
 |d::ds=>(match d.target with
  | .fn _ cap=>belowA n0 cap
  |_=>false)&&(belowA n0 d.args&&belowD n0 ds)
theorem DsR.below{n0:Nat}{F F':Nm}(h:Agree n0 F F'):∀(ds ds':List Deferred),belowD n0 ds=true->DsR F ds ds'->DsR F' ds ds'
 | [],ds',_,hv=>hv
 |d::ds,ds',hb,hv=>by
  simp only[DsR]at hv ⊢
  obtain⟨fn,cap,cap',args',r',h1,h2,h3,h4,e⟩:=hv
  simp only[belowD,Bool.and_eq_true,h1]at hb
  exact⟨fn,cap,cap',args',r',h1,VRA.below h _ _ hb.1 h2,VRA.below h _ _ hb.2.1 h3,DsR.below h ds r' hb.2.2 h4,e⟩
def Wk(G n0:Nat)(vals:List Value)(objs:List (Option AObj))(vals':List Value)(objs':List (Option AObj)):Prop:=
 vals'.length=vals.length/\∀(B:Base) (F:Nm) (w:World),Rel G F (hOf G [] objs) B w->
  ∃F',Agree n0 F F'/\Rel G F' (hOf G [] objs') B w/\∀(i:Nat) v v' x,vals[i]?=some v->vals'[i]?=some v'->VR F v x->VR F' v' x
theorem Wk.refl(G n0:Nat)(vals:List Value)(objs:List (Option AObj)):Wk G n0 vals objs vals objs:=
 ⟨rfl,fun B F w R=>⟨F,Agree.refl _ _,R,fun i v v' x h h' hv=>by rw[h]at h';simp only[Option.some.injEq]at h';subst h';exact hv⟩⟩
theorem Wk.trans{n0:Nat}{vals v1 v2:List Value}{objs o1 o2:List (Option AObj)}(h:Wk G n0 vals objs v1 o1)(h':Wk G n0 v1 o1 v2 o2):Wk G n0 vals objs v2 o2:=by
 refine⟨h'.1.trans h.1,fun B F w R=>?_⟩
 obtain⟨F1,a1,R1,k1⟩:=h.2 B F w R
 obtain⟨F2,a2,R2,k2⟩:=h'.2 B F1 w R1
 refine⟨F2,a1.trans a2,R2,fun i v v' x g1 g2 hv=>?_⟩
 have hlt:i<v1.length:=by rw[h.1];exact(List.getElem?_eq_some_iff.1 g1).1
 exact k2 i _ v' x (List.getElem?_eq_getElem hlt) g2 (k1 i v _ x g1 (List.getElem?_eq_getElem hlt) hv)
theorem objsOf_hOf(objs:List (Option AObj)):objsOf G (hOf G [] objs)=objs:=by
 apply List.ext_getElem?
 intro i
 rw[objsOf_get,hOf_get]
 have hnx:(hOf G [] objs).next=G+objs.length:=rfl
 rw[hnx]
 by_cases c:i<objs.length
 ·rw[if_pos (by omega),if_pos (by omega)]
  have:G+i-G=i:=by omega
  rw[this,List.getElem?_eq_getElem c];simp
 ·rw[if_neg (by omega),List.getElem?_eq_none (by omega)]
theorem Rel.part {F:Nm} {H H2:Heap} {w:World} (R:Rel G F H B w) (h:∀n o,H2.get n=some o->H.get n=some o) (hn:H2.next=H.next):Rel G F H2 B w:=
  { obj:=fun n o h'=>R.obj n o (h n o h'),inj:=fun n m o o' h1 h2=>R.inj n m o o' (h n o h1) (h m o' h2),fresh:=fun n h'=>R.fresh n (by rw[←hn];exact h'),
    glob:=R.glob,base:=R.base,frame:=R.frame,froz:=fun b i v hz=>⟨(R.froz b i v hz).1,fun n o hn ho=>(R.froz b i v hz).2 n o (h n o hn) ho⟩,zprot:=R.zprot,os:=R.os,out:=R.out,tape:=R.tape}
theorem Rel.toObjs{F:Nm}{H:Heap}{w:World}(R:Rel G F H B w)(hle:G<=H.next):Rel G F (hOf G [] (objsOf G H)) B w:=by
 refine R.part (fun n o hn=>?_) ?_
 ·rw[hOf_get]at hn
  split at hn
  ·rename_i hr
   rw[objsOf_get]at hn
   split at hn
   ·simp only[Option.getD_some]at hn
    rw[←hn];congr 1;omega
   ·cases hn
  ·simp only[glTr,Tr.get_lf]at hn;cases hn
 ·simp only[hOf,objsOf_len];omega
theorem SR.wk{F:Nm}{s:St}{a:Act}{cs rest:List Frame}{w:World}{c0:Frame}(hs:SR G B false c0 rest F s a cs w){ds:List Deferred}(hd:s.ds=ds){live:List Nat}{n0:Nat}(hb:belowD n0 ds=true)(hle:G<=s.h.next)
  {vals':List Value} {objs':List (Option AObj)} (hw:Wk G n0 (live.map s.ts.get) (objsOf G s.h) vals' objs'):
  ∃F',Agree n0 F F'/\SR G B false c0 rest F' ⟨tmOf s.ts.n live vals',ds,hOf G [] objs',.run⟩ a cs w:=by
 obtain⟨h1,h2,h3,h4⟩:=hs
 obtain⟨F',ha,R',hv⟩:=hw.2 B F w (h1.toObjs hle)
 refine⟨F',ha,R',⟨h2.1,fun i=>?_⟩,DsR.below ha _ _ hb (by rw[hd]at h3;exact h3),h4⟩
 rw[tmOf_get]
 have key:∀(is:List Nat) (vs:List Value) (k:Nat),is.length=vs.length->(∀(j:Nat) v v',(is.map s.ts.get)[j]?=some v->vs[j]?=some v'->∀x,VR F v x->VR F' v' x)->
   match lk is vs i with
   |some v'=>VR F' v' (a.tmps.getD i undef)
   |none=>True:=by
  intro is
  induction is with
  |nil=>intro vs k hl hv;cases vs<;>simp[lk]
  |cons j is ih=>
   intro vs k hl hv
   cases vs with
   |nil=>simp at hl
   |cons v vs=>
    unfold lk
    split
    ·rename_i heq
     split at heq
     ·rename_i hij
      simp only[Option.some.injEq]at heq;subst heq
      exact hv 0 _ _ rfl rfl _ (by rw[←hij];exact h2.2 i)
     ·have:=ih vs k (by simpa using hl) (fun j v v' g1 g2=>hv (j+1) v v' (by simpa using g1) (by simpa using g2))
      rw[heq]at this;exact this
    ·trivial
 have hlen:live.length=vals'.length:=by have:=hw.1;simpa using this.symm
 have:=key live vals' 0 hlen (fun j v v' g1 g2 x hx=>hv j v v' x g1 g2 hx)
 split
 ·rename_i v' hl
  rw[hl]at this;exact this
 ·split
  ·simp[top,VR]
  ·rename_i hge
   have hn:=h2.1
   rw[Array.getD_eq_getD_getElem?,Array.getElem?_eq_none (by omega)]
   exact VR.undef
def stOf(G N:Nat)(live:List Nat)(ds:List Deferred)(I:List Value×List (Option AObj)):St:=⟨tmOf N live I.1,ds,hOf G [] I.2,.run⟩
def flatCh:List PanicEntry->Bool
 | []=>true
 |e::l=>plain e.v&&flatCh l
def flat:Exit->Bool
 | .normal | .exit _ | .ret=>true
 | .panic c=>flatCh c
 |_=>false
theorem ChR_flat{F:Nm}:∀ {c c':List PanicEntry},flatCh c=true->(ChR F c c'↔c'=c)
 | [],c',_=>Iff.rfl
 |e::l,c',h=>by
  simp only[flatCh,Bool.and_eq_true]at h
  simp only[ChR]
  constructor
  ·rintro ⟨v',r',h1,h2,h3⟩
   rw[VR.plain_eq _ _ h.1]at h1
   rw[ChR_flat h.2]at h2
   rw[h3,h1,h2]
  ·intro h3;exact⟨e.v,l,(VR.plain_eq _ _ h.1).2 rfl,(ChR_flat h.2).2 rfl,h3⟩
theorem ER_flat{F:Nm}{e e':Exit}(h:flat e=true):ER F e e'↔e'=e:=by
 cases e<;>first|exact Iff.rfl|(simp[flat]at h;done)|skip
 rename_i c
 simp only[flat]at h
 simp only[ER]
 constructor
 ·rintro ⟨c',h1,h2⟩;rw[ChR_flat h]at h1;rw[h2,h1]
 ·intro h2;exact⟨c,(ChR_flat h).2 rfl,h2⟩
def RoundQ{α:Type}(G k0 N:Nat)(live live2:List Nat)(ds:List Deferred)(m:α->Nat)(I:α->List Value×List (Option AObj))(R:α->Exit->List Value->List (Option AObj)->Prop)(a:α):Res->Prop
 | .ex e s1=>G<=s1.h.next/\s1.ts.n=N/\s1.ds=ds/\match e with
  | .normal=>∃a',m a' < m a/\Wk G (G+k0) (live.map s1.ts.get) (objsOf G s1.h) (I a').1 (I a').2/\∀e v o,R a' e v o->R a e v o
  |e=>flat e=true/\∃v o,Wk G (G+k0) (live2.map s1.ts.get) (objsOf G s1.h) v o/\R a e v o
 |_=>False
def EndsB(P:Program)(G:Nat)(B:Base)(n0:Nat)(rest:List Frame)(F:Nm)(e:Exit)(s:St):Exit->Act->List Frame->World->Prop:=
 fun e' a' cs' w'=>∃F',Agree n0 F F'/\e'=e/\SR G B false default rest F' s a' cs' w'
theorem Nm.le.agree{n0:Nat}{F F':Nm}(h:Nm.le F F'):Agree n0 F F':=⟨fun n _=>by
 cases hF:F n with
 |none=>exact .inr rfl
 |some x=>exact .inl (h.nm n x hF),h.zs⟩
theorem loop_rule {α:Type} {k0 N:Nat} {live live2:List Nat} {ds:List Deferred} (hds:belowD (G+k0) ds=true) {m:α->Nat} {I:α->List Value×List (Option AObj)} {R:α->Exit->List Value->List (Option AObj)->Prop} {c:Code}
    (hbody:∀a,∃r,(∀B,Holds P G B (.code false c (stOf G N live ds (I a))) r)/\RoundQ G k0 N live live2 ds m I R a r) (a:α) {vals:List Value} {objs:List (Option AObj)} (hk:objs.length=k0)
    (hstart:Wk G (G+k0) vals objs (I a).1 (I a).2):
    ∃e v o,R a e v o/\∀B,Holds P G B (.loop false c ⟨tmOf N live vals,ds,hOf G [] objs,.run⟩) (.ex e (stOf G N live2 ds (v,o))):=by
  have key:∀n a,m a<n->∃e v o,flat e=true/\R a e v o/\∀B rest F b cs w,okCode G c=true->SR G B false default rest F (stOf G N live ds (I a)) b cs w->
      WPat P false [.code c,.inLoop c] (EndsB P G B (G+k0) rest F e (stOf G N live2 ds (v,o))) b cs w:=by
    intro n
    induction n with
    |zero=>intro a h;omega
    |succ n ih=>
      intro a hlt
      obtain⟨r,hr,hq⟩:=hbody a
      cases r with
      |en _ _ _=>exact(hr noBase).elim
      |ex e s1=>
        obtain⟨q0,q1,q2,q3⟩:=hq
        by_cases he:e = .normal
        · subst he
          obtain⟨a',q4,q5,q6⟩:=q3
          obtain⟨e,v,o,f1,f2,f3⟩:=ih a' (by omega)
          refine⟨e,v,o,f1,q6 _ _ _ f2,?_⟩
          intro B rest F b cs w hok hs
          refine WPat.two rfl ((hr B default rest F b cs w hok hs).mono fun e' a1 cs' w' ⟨F',hle,he,hs'⟩=>?_)
          simp only[ER]at he;subst he
          obtain⟨F1,g1,hw⟩:=hs'.wk q2 hds q0 q5
          rw[q1]at hw
          exact WPat.inLoop ((f3 B rest _ a1 cs' w' hok hw).mono fun e2 a2 cs2 w2 ⟨F2,k1,k2,k3⟩=>⟨F2,(hle.agree.trans g1).trans k1,k2,k3⟩)
        · have hq':flat e=true/\∃v o,Wk G (G+k0) (live2.map s1.ts.get) (objsOf G s1.h) v o/\R a e v o:=by
            cases e<;>first|exact absurd rfl he|exact q3
          obtain⟨hf,v,o,q5,q6⟩:=hq'
          refine⟨e,v,o,hf,q6,?_⟩
          intro B rest F b cs w hok hs
          refine WPat.two rfl ((hr B default rest F b cs w hok hs).mono fun e' a1 cs' w' ⟨F',hle,he',hs'⟩=>?_)
          obtain⟨F1,g1,hw⟩:=hs'.wk q2 hds q0 q5
          rw[q1]at hw
          rw[ER_flat hf]at he'
          subst he'
          have hend:EndsB P G B (G+k0) rest F e' (stOf G N live2 ds (v,o)) e' a1 cs' w':=⟨F1,hle.agree.trans g1,rfl,hw⟩
          cases e'<;>first|exact absurd rfl he|exact hend
  obtain⟨e,v,o,h1,h2,h3⟩:=key (m a+1) a (by omega)
  refine⟨e,v,o,h2,?_⟩
  intro B c0 rest F b cs w hok hs
  have hnv:∀F (b:Act),TR F (tmOf N live vals) b.tmps->TR F (tmOf N live (live.map (tmOf N live vals).get)) b.tmps:=fun F b h=>h.canon
  obtain ⟨F1,g1,hs1⟩:∃F1,Agree (G+k0) F F1/\SR G B false default rest F1 (stOf G N live ds (I a)) b cs w:=by
    obtain⟨q1,q2,q3,q4⟩:=hs
    obtain⟨F1,ha,R1,hv⟩:=hstart.2 B F w q1
    refine⟨F1,ha,R1,⟨q2.1,fun i=>?_⟩,DsR.below ha _ _ hds q3,q4⟩
    rw[show(stOf G N live ds (I a)).ts.get i=(tmOf N live (I a).1).get i from rfl,tmOf_get]
    have q2i:=q2.2 i
    rw[show(St.ts ⟨tmOf N live vals,ds,hOf G [] objs,.run⟩).get i=(tmOf N live vals).get i from rfl,tmOf_get]at q2i
    have hlk:∀(is:List Nat) (vs vs':List Value),vs'.length=vs.length->(∀(j:Nat) v v',vs[j]?=some v->vs'[j]?=some v'->∀x,VR F v x->VR F1 v' x)->
        match lk is vs' i with
        |some v'=>∃v,lk is vs i=some v/\∀x,VR F v x->VR F1 v' x
        |none=>lk is vs i=none:=by
      intro is
      induction is with
      |nil=>intro vs vs' _ _;rfl
      |cons j is ih=>
        intro vs vs' hl hv
        cases vs with
        |nil=>cases vs' with
          |nil=>rfl
          |cons _ _=>simp at hl
        |cons v vs=>cases vs' with
          |nil=>simp at hl
          |cons v' vs'=>
            unfold lk
            by_cases hij:i=j
            · simp only[if_pos hij]
              exact⟨v,rfl,hv 0 v v' rfl rfl⟩
            · simp only[if_neg hij]
              exact ih vs vs' (by simpa using hl) (fun j v v' h1 h2=>hv (j+1) v v' (by simpa using h1) (by simpa using h2))
    have:=hlk live vals (I a).1 hstart.1 (fun j v v' h1 h2 x hx=>hv j v v' x h1 h2 hx)
    split
    · rename_i v' hl
      rw[hl]at this
      obtain⟨v0,e1,e2⟩:=this
      rw[e1]at q2i
      exact e2 _ q2i
    · rename_i hl
      rw[hl]at this
      simp only at this
      rw[this]at q2i
      split
      · simp[top,VR]
      · rename_i hge
        simp only[if_neg hge]at q2i
        have e0:=(VR.plain_eq (F:=F) undef (b.tmps.getD i undef) rfl).1 q2i
        rw[e0];exact VR.undef
  refine(h3 B rest F1 b cs w hok hs1).mono fun e' a' cs' w' ⟨F',k1,k2,k3⟩=>⟨F',⟨fun n x hx=>?_,fun b i v e=>k1.zs b i v (g1.zs b i v e)⟩,?_,k3⟩
  · have hn:n<G+k0:=by
      rcases Nat.lt_or_ge n (G+k0)with h|h
      · exact h
      · have:=hs.1.fresh n (by simp only[hOf];omega)
        rw[this]at hx;cases hx
    rcases(g1.trans k1).nm n hn with h|h
    · rw[h];exact hx
    · rw[h]at hx;cases hx
  · subst k2
    exact(ER_flat h1).2 rfl
end
end
end Go.Abs
