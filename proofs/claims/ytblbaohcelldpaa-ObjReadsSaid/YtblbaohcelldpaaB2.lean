/- The evaluator over the abstract heap, and that a run goes as it tells. -/
import Derived.Test.YtblbaohcelldpaaB1
import Derived.Recover
import Derived.Scope
import Derived.Orders
set_option linter.all false
namespace Go.Abs
open Go
noncomputable section
section
variable {P:Program} {D:Bool} {Q:Exit->Act->List Frame->World->Prop} {a:Act} {cs:List Frame} {w:World}
def Fit(D:Bool)(b:Frame):Prop:=D=true->b.kind = .deferred/\b.roundOf=none
def WPat(P:Program)(D:Bool)(todo:List Item)(Q:Exit->Act->List Frame->World->Prop)(a:Act)(cs:List Frame)(w:World):Prop:=
 ∀(b:Frame) (k:List Item),Fit D b->∃e a' cs' w',Q e a' cs' w'/\Arrives P (lone (b.at a (todo++k)) cs w) b k cs' e a' w'
abbrev WP(P:Program)(D:Bool)(c:Code)(Q:Exit->Act->List Frame->World->Prop)(a:Act)(cs:List Frame)(w:World):Prop:=WPat P D [.code c] Q a cs w
theorem WPat.mono{todo:List Item}{Q':Exit->Act->List Frame->World->Prop}(h:WPat P D todo Q a cs w)(hq:∀e a cs w,Q e a cs w->Q' e a cs w):WPat P D todo Q' a cs w:=
 fun b k hb=>let ⟨e,a',cs',w',q,r⟩:=h b k hb;⟨e,a',cs',w',hq _ _ _ _ q,r⟩
theorem WP.skip(h:Q .normal a cs w):WP P D .skip Q a cs w:=fun _ _ _=>⟨.normal,a,cs,w,h,.one step_skip⟩
theorem WP.label{l:Nat}(h:Q .normal a cs w):WP P D (.label l) Q a cs w:=fun _ _ _=>⟨.normal,a,cs,w,h,.one step_label⟩
theorem WP.exit{id:Nat}(h:Q (.exit id) a cs w):WP P D (.exit id) Q a cs w:=fun _ _ _=>⟨.exit id,a,cs,w,h,fun _ hk => .one (step_exit hk)⟩
theorem WP.ret(h:Q .ret a cs w):WP P D .ret Q a cs w:=fun _ _ _=>⟨.ret,a,cs,w,h,_,.one step_ret⟩
theorem WP.cond{c:Operand}{x y:Code}{t:Bool}(hc:a.eval c = .bool t)(h:WP P D (if t then x else y) Q a cs w):WP P D (.cond c x y) Q a cs w:=
 fun b k hb=>let ⟨e,a',cs',w',q,r⟩:=h b k hb;⟨e,a',cs',w',q,.of_steps (.one (step_cond hc)) r⟩
def thenDo(P:Program)(D:Bool)(rest:List Item)(Q:Exit->Act->List Frame->World->Prop):Exit->Act->List Frame->World->Prop
 | .normal,a,cs,w=>WPat P D rest Q a cs w
 |e,a,cs,w=>Q e a cs w
theorem WPat.two{x y:Item}(hy:y.plain=true)(h:WPat P D [x] (thenDo P D [y] Q) a cs w):WPat P D [x,y] Q a cs w:=by
 intro b k hb
 obtain⟨e,a₁,cs₁,w₁,hq,harr⟩:=h b (y::k) hb
 cases e with
 |normal=>
  obtain⟨e₂,a₂,cs₂,w₂,hq₂,harr₂⟩:=hq b k hb
  exact⟨e₂,a₂,cs₂,w₂,hq₂,.of_steps harr harr₂⟩
 |exit id=>exact⟨_,a₁,cs₁,w₁,hq,.pass (x:=y) hy (fun _ _ => .inl (by simp)) harr⟩
 |goto l=>exact⟨_,a₁,cs₁,w₁,hq,.pass (x:=y) hy (fun _ _ => .inl (by simp)) harr⟩
 |ret=>exact⟨_,a₁,cs₁,w₁,hq,.pass (x:=y) hy (fun _ _ => .inl (by simp)) harr⟩
 |panic ch=>exact⟨_,a₁,cs₁,w₁,hq,.pass (x:=y) hy (fun _ _ => .inl (by simp)) harr⟩
 |outgrown=>exact⟨_,a₁,cs₁,w₁,hq,.pass (x:=y) hy (fun _ _ => .inl (by simp)) harr⟩
theorem WP.seq{x y:Code}(h:WP P D x (thenDo P D [.code y] Q) a cs w):WP P D (.seq x y) Q a cs w:=by
 intro b k hb
 obtain⟨e,a',cs',w',hq,harr⟩:=WPat.two (y := .code y) rfl h b k hb
 exact⟨e,a',cs',w',hq,.of_steps (.one step_seq) harr⟩
theorem WP.loop{c:Code}(h:WPat P D [.code c,.inLoop c] Q a cs w):WP P D (.loop c) Q a cs w:=by
 intro b k hb
 obtain⟨e,a',cs',w',hq,harr⟩:=h b k hb
 exact⟨e,a',cs',w',hq,.of_steps (.one step_loop) harr⟩
theorem WPat.inLoop{c:Code}(h:WPat P D [.code c,.inLoop c] Q a cs w):WPat P D [.inLoop c] Q a cs w:=by
 intro b k hb
 obtain⟨e,a',cs',w',hq,harr⟩:=h b k hb
 exact⟨e,a',cs',w',hq,.of_steps (.one step_inLoop) harr⟩
def outBlock(id:Nat)(Q:Exit->Act->List Frame->World->Prop):Exit->Act->List Frame->World->Prop
 | .exit id',a,cs,w=>if id'=id then Q .normal a cs w else Q (.exit id') a cs w
 |e,a,cs,w=>Q e a cs w
theorem WP.block{id:Nat}{c:Code}(h:WP P D c (outBlock id Q) a cs w):WP P D (.block id c) Q a cs w:=by
 intro b k hb
 obtain⟨e,a₁,cs₁,w₁,hq,harr⟩:=h b (.inBlock id::k) hb
 cases e with
 |normal=>exact⟨.normal,a₁,cs₁,w₁,hq,.head step_block (Steps.trans harr (.one step_inBlock))⟩
 |exit id'=>
  by_cases hid:id'=id
  ·simp only[outBlock,hid,if_true]at hq
   exact⟨.normal,a₁,cs₁,w₁,hq,.head step_block (harr k (by simp[exitTo,hid]))⟩
  ·simp only[outBlock,hid,if_false]at hq
   refine⟨.exit id',a₁,cs₁,w₁,hq,fun k' hk => .head step_block (harr k' ?_)⟩
   have:(id==id')=false:=by simp;exact fun h=>hid h.symm
   simp[exitTo,this,hk]
 |goto l=>exact⟨_,a₁,cs₁,w₁,hq,fun k' hk => .head step_block (harr k' (by simp[gotoIn,hk]))⟩
 |ret=>exact⟨_,a₁,cs₁,w₁,hq,.of_steps (.one step_block) harr⟩
 |panic ch=>exact⟨_,a₁,cs₁,w₁,hq,.of_steps (.one step_block) harr⟩
 |outgrown=>exact⟨_,a₁,cs₁,w₁,hq,.of_steps (b:=b) (k:=k) (cs:=cs₁) (e := .outgrown) (.one step_block) harr⟩
def noGoto(Q:Exit->Act->List Frame->World->Prop):Exit->Act->List Frame->World->Prop
 | .goto _,_,_,_=>False
 |e,a,cs,w=>Q e a cs w
theorem WP.scope{c:Code}(h:WP P D c (noGoto Q) a cs w):WP P D (.scope c) Q a cs w:=by
 intro b k hb
 obtain⟨e,a₁,cs₁,w₁,hq,harr⟩:=h b (.inScope c::k) hb
 cases e with
 |normal=>exact⟨.normal,a₁,cs₁,w₁,hq,.head step_scope (Steps.trans harr (.one step_inScope))⟩
 |exit id=>exact⟨_,a₁,cs₁,w₁,hq,fun k' hk => .head step_scope (harr k' (by simp[exitTo,hk]))⟩
 |goto l=>exact hq.elim
 |ret=>exact⟨_,a₁,cs₁,w₁,hq,.of_steps (.one step_scope) harr⟩
 |panic ch=>exact⟨_,a₁,cs₁,w₁,hq,.of_steps (.one step_scope) harr⟩
 |outgrown=>exact⟨_,a₁,cs₁,w₁,hq,.of_steps (b:=b) (k:=k) (cs:=cs₁) (e := .outgrown) (.one step_scope) harr⟩
theorem WP.region{id:Nat}{ops:Array Oper}(h:WPat P D [.inRegion ops (List.range ops.size)] Q a cs w):WP P D (.region id ops false) Q a cs w:=by
 intro b k hb
 obtain⟨e,a',cs',w',hq,harr⟩:=h b k hb
 exact⟨e,a',cs',w',hq,.of_steps (.one step_region) harr⟩
theorem WP.region_draw{id:Nat}{ops:Array Oper}(hm:P.follows .mixedOrders=true)
  (h:wpAny P .any ops (fun e a' w'=>Q e a' cs w') ops.size (Array.replicate ops.size false) a {w with drawn:=w.drawn+1}):WP P D (.region id ops true) Q a cs w:=by
 intro b k _
 obtain⟨e,a',w',hq,harr⟩:=wp_region_any hm h b k cs
 exact⟨e,a',cs,w',hq,harr⟩
theorem WPat.done{ops:Array Oper}(h:Q .normal a cs w):WPat P D [.inRegion ops []] Q a cs w:=fun _ _ _=>⟨.normal,a,cs,w,h,.one step_region_end⟩
theorem WPat.skipOp{ops:Array Oper}{i:Nat}{rest:List Nat}{o:Oper}(ho:ops[i]?=some o)(hw:Region.wanted o (yielded ops a.tmps)=false)
  (h:WPat P D [.inRegion ops rest] Q (a.put o.dst undef) cs w):WPat P D [.inRegion ops (i::rest)] Q a cs w:=by
 intro b k hb
 obtain⟨e,a',cs',w',hq,harr⟩:=h b k hb
 refine⟨e,a',cs',w',hq,.of_steps (.one ?_) harr⟩
 have:=step_op_skip (P:=P) (b:=b) (a:=a) (k:=k) (cs:=cs) (w:=w) (ops:=ops) (i:=i) (rest:=rest) (by simp[ho,hw])
 simpa [ho]using this
theorem WPat.value{ops:Array Oper}{i:Nat}{rest:List Nat}{o:Oper}(ho:ops[i]?=some o)(hw:Region.wanted o (yielded ops a.tmps)=true){n:Next}{v:Value}{w₁:World}
  (hr:(execOp a.eval o).run P w = .ok n w₁) (hn:n = .value v∨(n = .skip/\v=undef)) (h:WPat P D [.inRegion ops rest] Q (a.put o.dst v) cs w₁):WPat P D [.inRegion ops (i::rest)] Q a cs w:=by
 intro b k hb
 obtain⟨e,a',cs',w',hq,harr⟩:=h b k hb
 have hg:=stepG_op (P:=P) (b:=b) (k:=k) (cs:=cs) (w:=w) (rest:=rest) ho hw
 have hfin:∀v,(b.at a (.inRegion ops (i::rest)::k)).finish v=b.at (a.put o.dst v) (.inRegion ops rest::k):=by
  intro v;rw[Frame.finish_at,ho];rfl
 refine⟨e,a',cs',w',hq,.of_steps (.one (step_lone_go ?_)) harr⟩
 rcases hn with rfl|⟨rfl,rfl⟩
 ·simp only[List.cons_append,List.nil_append];rw[hg,←hfin];simp[stepG.apply,hr]
 ·simp only[List.cons_append,List.nil_append];rw[hg,←hfin];simp[stepG.apply,hr]
theorem WPat.deferOp{ops:Array Oper}{i:Nat}{rest:List Nat}{o:Oper}(ho:ops[i]?=some o)(hw:Region.wanted o (yielded ops a.tmps)=true){d:Deferred}{w₁:World}
  (hr:(execOp a.eval o).run P w = .ok (.defer d) w₁) (h:WPat P D [.inRegion ops rest] Q ({a with defers:=d::a.defers}.put o.dst undef) cs w₁):WPat P D [.inRegion ops (i::rest)] Q a cs w:=by
 intro b k hb
 obtain⟨e,a',cs',w',hq,harr⟩:=h b k hb
 have hg:=stepG_op (P:=P) (b:=b) (k:=k) (cs:=cs) (w:=w) (rest:=rest) ho hw
 refine⟨e,a',cs',w',hq,.of_steps (.one (step_lone_go ?_)) harr⟩
 have:({b.at a (.inRegion ops (i::rest)::k)with defers:=d::a.defers}:Frame).finish undef=
   b.at ({a with defers:=d::a.defers}.put o.dst undef) (.inRegion ops rest::k):=by
  have:=Frame.finish_at b {a with defers:=d::a.defers} ops i rest k undef
  rw[ho]at this;exact this
 simp only[List.cons_append,List.nil_append]
 rw[hg];simp only[stepG.apply,Sem.runT_eq,hr,GStep.bare_after]
 exact congrArg (fun fr=>GStep.go {frame:=fr,callers:=cs,status := .running,dying:=none} w₁) this
theorem WPat.panicOp{ops:Array Oper}{i:Nat}{rest:List Nat}{o:Oper}(ho:ops[i]?=some o)(hw:Region.wanted o (yielded ops a.tmps)=true){v:Value}{w₁:World}
  (hr:(execOp a.eval o).run P w = .halt (.panic v) w₁) (h:Q (.panic [{v,recovered:=false}]) a cs w₁):WPat P D [.inRegion ops (i::rest)] Q a cs w:=by
 intro b k hb
 have hg:=stepG_op (P:=P) (b:=b) (k:=k) (cs:=cs) (w:=w) (rest:=rest) ho hw
 refine⟨_,a,cs,w₁,h,.inRegion ops (i::rest)::k,.one (step_lone_go ?_)⟩
 simp only[List.cons_append,List.nil_append]
 rw[hg,←Frame.raise_at];simp[stepG.apply,hr]
theorem WPat.callOp{ops:Array Oper}{i:Nat}{rest:List Nat}{o:Oper}(ho:ops[i]?=some o)(hw:Region.wanted o (yielded ops a.tmps)=true){f:FuncId}{args:Array Value}{w₁:World}
  (hr:(execOp a.eval o).run P w = .ok (.enter f args) w₁)
  (h:Calls P f args w₁ fun
   | .returned v,w₂=>WPat P D [.inRegion ops rest] Q (a.put o.dst v) cs w₂
   | .panicked chain,w₂=>Q (.panic chain) a cs w₂
   | .outgrown,_=>False):WPat P D [.inRegion ops (i::rest)] Q a cs w:=by
 intro b k hb
 have hg:=stepG_op (P:=P) (b:=b) (k:=k) (cs:=cs) (w:=w) (rest:=rest) ho hw
 have hfin:∀v,(b.at a (.inRegion ops (i::rest)::k)).finish v=b.at (a.put o.dst v) (.inRegion ops rest::k):=by
  intro v;rw[Frame.finish_at,ho];rfl
 obtain⟨e,w'',fr,hR,hsteps,_,hleave⟩:=h (b.at a (.inRegion ops (i::rest)::k)::cs)
 have henter:step P (lone (b.at a (.inRegion ops (i::rest)::k)) cs w)=
   .next (lone (Frame.enter P f args .normal) (b.at a (.inRegion ops (i::rest)::k)::cs) w₁):=
  step_lone_go (by rw[hg];simp[stepG.apply,hr,Frame.at])
 cases e with
 |returned v=>
  obtain⟨e,a',cs'',w₃,hq,harr⟩:=hR b k hb
  refine⟨e,a',cs'',w₃,hq,.of_steps (.head henter (hsteps.trans (.one ?_))) harr⟩
  simp only[List.cons_append,List.nil_append]
  rw[←hfin];exact step_leave_returned hleave
 |panicked chain=>
  refine⟨.panic chain,a,cs,w'',hR,.inRegion ops (i::rest)::k,.head henter (hsteps.trans (.one ?_))⟩
  rw[←Frame.raise_at];exact step_leave_panicked hleave
 |outgrown=>exact hR.elim
theorem WPat.recoverOp{ops:Array Oper}{i:Nat}{rest:List Nat}{o:Oper}(ho:ops[i]?=some o)(hw:Region.wanted o (yielded ops a.tmps)=true)(hD:D=true){w₁:World}
  (hr:(execOp a.eval o).run P w = .ok .recover w₁)
  (h:match recoverD cs with
   |some (v,cs')=>WPat P D [.inRegion ops rest] Q (a.put o.dst v) cs' w₁
   |none=>WPat P D [.inRegion ops rest] Q (a.put o.dst .nilIface) cs w₁):WPat P D [.inRegion ops (i::rest)] Q a cs w:=by
 intro b k hb
 have hg:=stepG_op (P:=P) (b:=b) (k:=k) (cs:=cs) (w:=w) (rest:=rest) ho hw
 have hfin:∀v,(b.at a (.inRegion ops (i::rest)::k)).finish v=b.at (a.put o.dst v) (.inRegion ops rest::k):=by
  intro v;rw[Frame.finish_at,ho];rfl
 obtain⟨hb1,hro⟩:=hb hD
 have hk:(b.at a (.inRegion ops (i::rest)::k)).kind = .deferred:=hb1
 have htr:=tryRecover_deferred hk cs
 split at h
 ·rename_i v cs' hrec
  obtain⟨e,a',cs'',w'',hq,harr⟩:=h b k hb
  refine⟨e,a',cs'',w'',hq,.of_steps (.one (step_lone_go ?_)) harr⟩
  simp only[List.cons_append,List.nil_append]
  rw[hg,←hfin]
  simp only[Frame.at]at htr ⊢
  simp[stepG.apply,hr,htr,hrec]
 ·rename_i hrec
  obtain⟨e,a',cs'',w'',hq,harr⟩:=h b k hb
  refine⟨e,a',cs'',w'',hq,.of_steps (.one (step_lone_go ?_)) harr⟩
  simp only[List.cons_append,List.nil_append]
  rw[hg,←hfin]
  simp only[Frame.at]at htr ⊢
  simp[stepG.apply,hr,htr,hrec]
end
end
end Go.Abs
namespace Go.Abs
open Go
noncomputable section
def ChR(F:Nm):List PanicEntry->List PanicEntry->Prop
 | [],l'=>l'=[]
 |e::l,l'=>∃v' r',VR F e.v v'/\ChR F l r'/\l'={v:=v',recovered:=e.recovered,goexit:=e.goexit}::r'
def DsR(F:Nm):List Deferred->List Deferred->Prop
 | [],l'=>l'=[]
 |d::l,l'=>∃fn cap cap' args' r',d.target = .fn fn cap/\VRA F cap cap'/\VRA F d.args args'/\DsR F l r'/\l'={target := .fn fn cap',args:=args' }::r'
def MR(F:Nm):FrameMode->FrameMode->Prop
 | .run,m=>m = .run
 | .returning,m=>m = .returning
 | .panicking c,m=>∃c',ChR F c c'/\m = .panicking c'
def ER(F:Nm):Exit->Exit->Prop
 | .panic c,e'=>∃c',ChR F c c'/\e' = .panic c'
 | .outgrown,_=>False
 |e,e'=>e'=e
def EnR(F:Nm):Ending->Ending->Prop
 | .returned v,e'=>∃v',VR F v v'/\e' = .returned v'
 | .panicked c,e'=>∃c',ChR F c c'/\e' = .panicked c'
 | .outgrown,_=>False
theorem ChR.mono{F F':Nm}(h:Nm.le F F'):∀ {l l':List PanicEntry},ChR F l l'->ChR F' l l'
 | [],_,e=>e
 |_::_,_,⟨v',r',h1,h2,e⟩=>⟨v',r',h1.mono h,ChR.mono h h2,e⟩
theorem DsR.mono{F F':Nm}(h:Nm.le F F'):∀ {l l':List Deferred},DsR F l l'->DsR F' l l'
 | [],_,e=>e
 |_::_,_,⟨fn,cap,cap',args',r',h0,h1,h2,h3,e⟩=>⟨fn,cap,cap',args',r',h0,h1.mono h,h2.mono h,DsR.mono h h3,e⟩
theorem MR.mono{F F':Nm}(h:Nm.le F F'){m m':FrameMode}(hm:MR F m m'):MR F' m m':=by
 cases m with
 |run=>exact hm
 |returning=>exact hm
 |panicking c=>obtain⟨c',h1,e⟩:=hm;exact⟨c',h1.mono h,e⟩
theorem ChR.append{F:Nm}:∀ {l l' m m':List PanicEntry},ChR F l l'->ChR F m m'->ChR F (l++m) (l'++m')
 | [],_,_,_,e,h=>by simp only[ChR]at e;subst e;exact h
 |_::_,_,_,_,⟨v',r',h1,h2,e⟩,h=>by subst e;exact⟨v',_,h1,ChR.append h2 h,rfl⟩
theorem ChR.dropWhile{F:Nm}:∀ {l l':List PanicEntry},ChR F l l'->ChR F (l.dropWhile (!·.goexit)) (l'.dropWhile (!·.goexit))
 | [],_,e=>by simp only[ChR]at e;subst e;rfl
 |x::l,_,⟨v',r',h1,h2,e⟩=>by
  subst e
  cases hx:x.goexit with
  |true=>
   rw[List.dropWhile_cons_of_neg (by simp[hx]),List.dropWhile_cons_of_neg (by simp)]
   exact⟨v',r',h1,h2,by rw[hx]⟩
  |false=>
   rw[List.dropWhile_cons_of_pos (by simp[hx]),List.dropWhile_cons_of_pos (by simp)]
   exact ChR.dropWhile h2
theorem MR.settle{F:Nm}{m m':FrameMode}(h:MR F m m'):MR F (settle m) (settle m'):=by
 cases m with
 |run=>simp only[MR]at h;subst h;exact rfl
 |returning=>simp only[MR]at h;subst h;exact rfl
 |panicking c=>
  obtain⟨c',hc,e⟩:=h
  subst e
  cases c with
  |nil=>simp only[ChR]at hc;subst hc;exact⟨[],rfl,rfl⟩
  |cons x l=>
   obtain⟨v',r',h1,h2,e⟩:=hc
   subst e
   obtain⟨xv,xr,xg⟩:=x
   cases xr with
   |false=>exact⟨_,⟨v',r',h1,h2,rfl⟩,rfl⟩
   |true=>
    have hd:=h2.dropWhile
    simp only[Go.settle]
    cases hl:l.dropWhile (!·.goexit)with
    |nil=>rw[hl]at hd;simp only[ChR]at hd;rw[hd];rfl
    |cons y ys=>
     rw[hl]at hd
     obtain⟨v2,r2,g1,g2,g3⟩:=hd
     rw[g3]
     exact⟨_,⟨v2,r2,g1,g2,rfl⟩,rfl⟩
theorem MR.raised{F:Nm}{m m':FrameMode}(h:MR F m m'){c c':List PanicEntry}(hc:ChR F c c'):MR F (raised m c) (raised m' c'):=by
 cases m with
 |run=>simp only[MR]at h;subst h;exact⟨c',hc,rfl⟩
 |returning=>simp only[MR]at h;subst h;exact⟨c',hc,rfl⟩
 |panicking d=>obtain⟨d',hd,e⟩:=h;subst e;exact⟨_,hc.append hd,rfl⟩
structure St where
 ts:Tm
 ds:List Deferred
 h:Heap
 u:FrameMode
inductive Cmd where
 |code (D:Bool) (c:Code) (s:St)
 |loop (D:Bool) (c:Code) (s:St)
 |ops (D:Bool) (ops:Array Oper) (k:Nat) (todo:List Oper) (s:St)
 |draw (ops:Array Oper) (s:St)
 |call (f:FuncId) (args:List Value) (h:Heap)
 |callD (f:FuncId) (args:List Value) (u:FrameMode) (h:Heap)
 |leaves (fn:Func) (ts:Tm) (ds:List Deferred) (u:FrameMode) (h:Heap)
inductive Res where
 |ex (e:Exit) (s:St)
 |en (e:Ending) (u:FrameMode) (h:Heap)
def okOper(G:Nat)(o:Oper):Bool:=o.op.operands.all (okOpd G)
def okCode(G:Nat):Code->Bool
 | .region _ ops _=>ops.all (okOper G)
 | .seq a b=>okCode G a&&okCode G b
 | .cond c a b=>okOpd G c&&okCode G a&&okCode G b
 | .block _ c=>okCode G c
 | .loop c=>okCode G c
 | .scope c=>okCode G c
 |_=>true
def okFunc(G:Nat)(fn:Func):Bool:=match fn.body with
 | some c => fn.name != "runtime.NumGoroutine" && okCode G c
 |none=>true
def okProg(P:Program)(G:Nat):Bool:=P.follows .mixedOrders&&P.funcs.all (okFunc G)
section
variable (P:Program) (G:Nat) (w0:Base)
def SR(D:Bool)(c0:Frame)(rest:List Frame)(F:Nm)(s:St)(a:Act)(cs:List Frame)(w:World):Prop:=
 Rel G F s.h w0 w/\TR F s.ts a.tmps/\DsR F s.ds a.defers/\
  match D with
  |true=>∃m,cs={c0 with mode:=m}::rest/\MR F s.u m
  |false=>cs=rest
def Ends(D:Bool)(c0:Frame)(rest:List Frame)(F:Nm)(e:Exit)(s:St):Exit->Act->List Frame->World->Prop:=
 fun e' a' cs' w'=>∃F',Nm.le F F'/\ER F' e e'/\SR G w0 D c0 rest F' s a' cs' w'
def CallH(f:FuncId)(args:List Value)(h:Heap)(e:Ending)(h':Heap):Prop:=
 ∀F w args',Rel G F h w0 w->VRL F args args'.toList->Calls P f args' w fun e' w'=>∃F',Nm.le F F'/\EnR F' e e'/\Rel G F' h' w0 w'
def Holds:Cmd->Res->Prop
 | .code D c s,.ex e s'=>∀c0 rest F a cs w,okCode G c=true->SR G w0 D c0 rest F s a cs w->WP P D c (Ends G w0 D c0 rest F e s') a cs w
 | .loop D c s,.ex e s'=>∀c0 rest F a cs w,okCode G c=true->SR G w0 D c0 rest F s a cs w->WPat P D [.code c,.inLoop c] (Ends G w0 D c0 rest F e s') a cs w
 | .ops D ops k todo s,.ex e s'=>todo=ops.toList.drop k->ops.all (okOper G)=true->∀c0 rest F a cs w,SR G w0 D c0 rest F s a cs w->
  WPat P D [.inRegion ops (List.range' k todo.length)] (Ends G w0 D c0 rest F e s') a cs w
 | .draw ops s,.ex e s'=>ops.all (okOper G)=true->∀c0 rest F a cs w,SR G w0 false c0 rest F s a cs w->
  wpAny P .any ops (fun e' a' w'=>Ends G w0 false c0 rest F e s' e' a' cs w') ops.size (Array.replicate ops.size false) a {w with drawn:=w.drawn+1}
 | .call f args h,.en e _ h'=>CallH P G w0 f args h e h'
 | .callD f args u h,.en e u' h'=>∀F w args' m,Rel G F h w0 w->VRL F args args'.toList->MR F u m->CallsD P f args' m w fun e' m' w'=>∃F',Nm.le F F'/\EnR F' e e'/\MR F' u' m'/\Rel G F' h' w0 w'
 | .leaves fn ts ds u h,.en e _ h'=>∀F w tmps ds' m,Rel G F h w0 w->TR F ts tmps->DsR F ds ds'->MR F u m->
  Leaves P fn tmps (fun e' w'=>∃F',Nm.le F F'/\EnR F' e e'/\Rel G F' h' w0 w') ds' m w
 |_,_=>False
end
def aResult(P:Program)(ts:Tm)(h:Heap):ResultVar->Option Value
 | .tmp t=>some (ts.get t)
 | .cell a t=>match ts.get a with
  | .pointer (some ad)=>aLoad P h t ad
  |_=>none
def aResultsL(P:Program)(ts:Tm)(h:Heap):List ResultVar->Option (List Value)
 | []=>some []
 |r::rs=>match aResult P ts h r,aResultsL P ts h rs with
  |some v,some l=>some (v::l)
  |_,_=>none
def aResults(P:Program)(fn:Func)(ts:Tm)(h:Heap):Option Value:=
 match aResultsL P ts h fn.results.toList with
 |some [v]=>some v
 |some l=>some (.tuple l.toArray)
 |none=>none
section
variable {P:Program} {G:Nat} {F:Nm} {H:Heap} {w0:Base} {w:World}
theorem aResult_ok(R:Rel G F H w0 w){ts:Tm}{tmps:Array Value}(ht:TR F ts tmps){r:ResultVar}{v:Value}(h:aResult P ts H r=some v):
  ∃v',((match r with | .tmp t=>Pure.pure (tmps.getD t undef) | .cell a t=>do loadVar t (←asAddr (tmps.getD a undef)):Sem Value)).run P w = .ok v' w/\VR F v v':=by
 cases r with
 |tmp t=>
  simp only[aResult,Option.some.injEq]at h;subst h
  exact⟨_,rfl,ht.2 t⟩
 |cell a t=>
  simp only[aResult]at h
  have hg:=ht.2 a
  split at h<;>(try(cases h;done))
  rename_i ad e
  rw[e]at hg;simp only[VR]at hg;obtain⟨ad',har,e'⟩:=hg
  obtain⟨v',h1,h2⟩:=aLoad_ok (P:=P) R har h
  exact⟨v',by simp[e',asAddr,h1],h2⟩
theorem aResultsL_ok(R:Rel G F H w0 w){ts:Tm}{tmps:Array Value}(ht:TR F ts tmps):∀(rs:List ResultVar) (l:List Value),aResultsL P ts H rs=some l->
  ∃l',(rs.mapM fun(r:ResultVar)=>(match r with | .tmp t=>Pure.pure (tmps.getD t undef) | .cell a t=>do loadVar t (←asAddr (tmps.getD a undef)):Sem Value)).run P w = .ok l' w/\VRL F l l'
 | [],l,h=>by simp only[aResultsL,Option.some.injEq]at h;subst h;exact⟨[],rfl,by simp[VRL]⟩
 |r::rs,l,h=>by
  simp only[aResultsL]at h
  split at h<;>(try(cases h;done))
  rename_i v l2 hv hl
  simp only[Option.some.injEq]at h;subst h
  obtain⟨v',h1,h2⟩:=aResult_ok (P:=P) R ht hv
  obtain⟨l',h3,h4⟩:=aResultsL_ok R ht rs l2 hl
  refine⟨v'::l',?_,by simp only[VRL];exact⟨v',l',h2,h4,rfl⟩⟩
  rw[List.mapM_cons]
  rw[Sem.run_bind,h1];simp only[Result.andThen_ok]
  rw[Sem.run_bind,h3];rfl
theorem aResults_ok(R:Rel G F H w0 w){ts:Tm}{tmps:Array Value}(ht:TR F ts tmps){fn:Func}{v:Value}(h:aResults P fn ts H=some v):
  ∃v',(results fn tmps).run P w = .ok v' w/\VR F v v':=by
 unfold aResults at h
 have key:∀l,aResultsL P ts H fn.results.toList=some l->∃l',VRL F l l'/\(results fn tmps).run P w = .ok (if h:l'.toArray.size=1 then l'.toArray[0]else .tuple l'.toArray) w:=by
  intro l hl
  obtain⟨l',h1,h2⟩:=aResultsL_ok R ht _ l hl
  refine⟨l',h2,?_⟩
  unfold results
  rw[Sem.run_bind,Array.mapM_eq_mapM_toList,Sem.run_map]
  exact congrArg (fun r:Result (List Value)=>(r.andThen fun a w'=>Result.ok a.toArray w').andThen fun a w'=>Sem.run P (Pure.pure (if h:a.size=1 then a[0]else Value.tuple a)) w') h1
 split at h
 ·rename_i x hl
  simp only[Option.some.injEq]at h;subst h
  obtain⟨l',h1,h2⟩:=key _ hl
  simp only[VRL]at h1;obtain⟨v',r',g1,g2,e⟩:=h1;subst g2;subst e
  exact⟨v',by rw[h2];simp,g1⟩
 ·rename_i l hne hl
  simp only[Option.some.injEq]at h;subst h
  obtain⟨l',h1,h2⟩:=key _ hl
  have hlen:=h1.length
  refine⟨.tuple l'.toArray,?_,by simp only[VR];exact⟨_,VRA.ofL (by simpa using h1),rfl⟩⟩
  rw[h2,dif_neg]
  intro hc
  have:l.length=1:=by simpa [hlen]using hc
  match l,this with
  | [x],_=>exact hne x rfl
 ·cases h
end
end
end Go.Abs
namespace Go.Abs
open Go
noncomputable section
def beqU:List UInt8->List UInt8->Bool
 | [],[]=>true
 |a::l,b::l'=>Nat.beq a.toNat b.toNat&&beqU l l'
 |_,_=>false
theorem beqU_eq:∀(a b:List UInt8),beqU a b=true->a=b
 | [],[],_=>rfl
 | [],_::_,h=>by cases h
 |_::_,[],h=>by cases h
 |a::l,b::l',h=>by
  simp only[beqU,Bool.and_eq_true]at h
  rw[UInt8.toNat_inj.1 (Nat.eq_of_beq_eq_true h.1),beqU_eq _ _ h.2]
mutual
def beqV:Value->Value->Bool
 | .bool a,.bool b=>a==b
 | .int k n,.int k' n'=>decide (k=k')&&decide (n=n')
 | .float k n,.float k' n'=>decide (k=k')&&Nat.beq n n'
 | .complex k n m,.complex k' n' m'=>decide (k=k')&&Nat.beq n n'&&Nat.beq m m'
 | .string s,.string s'=>beqU s.data.toList s'.data.toList
 | .pointer a,.pointer b=>decide (a=b)
 | .slice a l c,.slice b l' c'=>decide (a=b)&&Nat.beq l l'&&Nat.beq c c'
 | .map a,.map b=>decide (a=b)
 | .chan a,.chan b=>decide (a=b)
 | .func f x y,.func f' x' y'=>decide (f=f')&&beqA x x'&&beqA y y'
 | .nilFunc,.nilFunc=>true
 | .iface t v,.iface t' v'=>Nat.beq t t'&&beqV v v'
 | .nilIface,.nilIface=>true
 | .agg c,.agg c'=>beqA c c'
 | .tuple c,.tuple c'=>beqA c c'
 |_,_=>false
def beqA:Array Value->Array Value->Bool
 |⟨l⟩,c=>beqL l c.toList
def beqL:List Value->List Value->Bool
 | [],[]=>true
 |v::l,v'::l'=>beqV v v'&&beqL l l'
 |_,_=>false
end
mutual
theorem beqV_eq:∀(a b:Value),beqV a b=true->a=b
 | .bool a,b,h=>by cases b<;>simp_all[beqV]
 | .int k n,b,h=>by cases b<;>simp_all[beqV]
 | .float k n,b,h=>by cases b<;>simp_all[beqV]
 | .complex k n m,b,h=>by cases b<;>simp_all[beqV]
 | .string s,b,h=>by
  cases b<;>simp only[beqV,Bool.false_eq_true]at h
  congr 1;apply ByteArray.ext;exact Array.ext' (beqU_eq _ _ h)
 | .pointer a,b,h=>by cases b<;>simp_all[beqV]
 | .slice a l c,b,h=>by cases b<;>simp_all[beqV]
 | .map a,b,h=>by cases b<;>simp_all[beqV]
 | .chan a,b,h=>by cases b<;>simp_all[beqV]
 | .func f x y,b,h=>by
  cases b<;>simp only[beqV,Bool.and_eq_true,decide_eq_true_eq,Bool.false_eq_true]at h
  obtain⟨⟨h1,h2⟩,h3⟩:=h
  rw[h1,beqA_eq _ _ h2,beqA_eq _ _ h3]
 | .nilFunc,b,h=>by cases b<;>simp_all[beqV]
 | .iface t v,b,h=>by
  cases b<;>simp only[beqV,Bool.and_eq_true,Bool.false_eq_true]at h
  rw[Nat.eq_of_beq_eq_true h.1,beqV_eq _ _ h.2]
 | .nilIface,b,h=>by cases b<;>simp_all[beqV]
 | .agg c,b,h=>by
  cases b<;>simp only[beqV,Bool.false_eq_true]at h
  rw[beqA_eq _ _ h]
 | .tuple c,b,h=>by
  cases b<;>simp only[beqV,Bool.false_eq_true]at h
  rw[beqA_eq _ _ h]
theorem beqA_eq:∀(a b:Array Value),beqA a b=true->a=b
 |⟨l⟩,⟨l'⟩,h=>by simp only[beqA]at h;rw[beqL_eq _ _ h]
theorem beqL_eq:∀(a b:List Value),beqL a b=true->a=b
 | [],b,h=>by cases b<;>simp_all[beqL]
 |v::l,b,h=>by
  cases b with
  |nil=>simp[beqL]at h
  |cons v' l'=>
   simp only[beqL,Bool.and_eq_true]at h
   rw[beqV_eq _ _ h.1,beqL_eq _ _ h.2]
end
def maskOf(acc:List Nat)(o:Oper):Nat:=
 o.after.toList.foldl (fun s e=>match Region.binds .any e with
  |true=>(s ||| 2 ^ e.on) ||| acc.getD e.on 0
  |false=>s) 0
def masksF:List Oper->List Nat->List Nat
 | [],acc=>acc
 |o::r,acc=>masksF r (acc++[maskOf acc o])
def masks(ops:List Oper):List Nat:=masksF ops []
theorem two_pow_bit(n j:Nat):(2 ^ n).testBit j=decide (n=j):=Nat.testBit_two_pow
theorem fold_bit(acc:List Nat)(j:Nat):∀(es:List Edge) (s:Nat),
  (es.foldl (fun s e=>match Region.binds .any e with
   |true=>(s ||| 2 ^ e.on) ||| acc.getD e.on 0
   |false=>s) s).testBit j=true->
  s.testBit j=true∨∃e∈es,Region.binds .any e=true/\(j=e.on∨(acc.getD e.on 0).testBit j=true)
 | [],s,h => .inl h
 |e::es,s,h=>by
  simp only[List.foldl_cons]at h
  rcases fold_bit acc j es _ h with h|⟨e',h1,h2⟩
  ·cases hb:Region.binds .any e with
   |false=>rw[hb]at h;exact .inl h
   |true=>
    rw[hb]at h
    simp only[Nat.testBit_or,Bool.or_eq_true,two_pow_bit,decide_eq_true_eq]at h
    rcases h with(h|h)|h
    ·exact .inl h
    ·exact .inr ⟨e,List.mem_cons_self ..,hb,.inl h.symm⟩
    ·exact .inr ⟨e,List.mem_cons_self ..,hb,.inr h⟩
  ·exact .inr ⟨e',List.mem_cons_of_mem _ h1,h2⟩
theorem masksF_spec:∀(l:List Oper) (acc:List Nat) (i:Nat),(masksF l acc)[i]?=if i<acc.length then acc[i]? else(l[i-acc.length]?).map fun o=>maskOf ((masksF l acc).take i) o
 | [],acc,i=>by
  simp only[masksF]
  split
  ·rfl
  ·rename_i h;simp;omega
 |o::r,acc,i=>by
  simp only[masksF]
  rw[masksF_spec r (acc++[maskOf acc o]) i]
  simp only[List.length_append,List.length_singleton]
  by_cases h:i<acc.length
  ·rw[if_pos (by omega),if_pos h,List.getElem?_append_left h]
  ·rw[if_neg h]
   by_cases h2:i=acc.length
   ·subst h2
    rw[if_pos (by omega)]
    have hpre:(masksF r (acc++[maskOf acc o])).take acc.length=acc:=by
     apply List.ext_getElem?
     intro k
     rw[List.getElem?_take]
     split
     ·rename_i hk
      rw[masksF_spec r (acc++[maskOf acc o]) k,if_pos (by simp;omega),List.getElem?_append_left hk]
     ·rename_i hk;rw[List.getElem?_eq_none (by omega)]
    simp[hpre]
   ·rw[if_neg (by omega)]
    have e:i-acc.length=(i-(acc.length+1))+1:=by omega
    rw[e,List.getElem?_cons_succ]
 termination_by l=>l.length
theorem masks_bit{ops:List Oper}{i j:Nat}(h:((masks ops).getD i 0).testBit j=true):
  ∃o e,ops[i]?=some o/\e∈o.after/\Region.binds .any e=true/\(j=e.on∨(e.on<i/\((masks ops).getD e.on 0).testBit j=true)):=by
 have hs:=masksF_spec ops [] i
 simp only[List.length_nil,Nat.not_lt_zero,if_false,Nat.sub_zero]at hs
 rw[List.getD_eq_getElem?_getD]at h
 unfold masks at h
 rw[hs]at h
 cases ho:ops[i]? with
 |none=>rw[ho]at h;simp at h
 |some o=>
  rw[ho]at h
  simp only[Option.map_some,Option.getD_some,maskOf]at h
  rcases fold_bit _ j _ 0 h with h|⟨e,h1,h2,h3⟩
  ·simp at h
  ·refine⟨o,e,rfl,by simpa using h1,h2,?_⟩
   rcases h3 with h3|h3
   ·exact .inl h3
   ·right
    rw[List.getD_eq_getElem?_getD,List.getElem?_take]at h3
    split at h3
    ·rename_i hlt
     exact⟨hlt,by rw[List.getD_eq_getElem?_getD];exact h3⟩
    ·simp at h3
def Closed(ops:List Oper)(S:Nat->Prop):Prop:=∀i o,ops[i]?=some o->S i->∀e∈o.after,Region.binds .any e=true->S e.on
theorem Closed.masks{ops:List Oper}{S:Nat->Prop}(hc:Closed ops S):∀(i j:Nat),S i->((masks ops).getD i 0).testBit j=true->S j
 |i,j,hi,h=>by
  obtain⟨o,e,ho,he,hb,h3⟩:=masks_bit h
  have:=hc i o ho hi e he hb
  rcases h3 with h3|⟨hlt,h3⟩
  ·rw[h3];exact this
  ·exact Closed.masks hc e.on j this h3
 termination_by i=>i
theorem Closed.ready{ops:List Oper}{S:Nat->Prop}(hc:Closed ops S){i j:Nat}(hr:∀o,ops[i]?=some o->∀e∈o.after,Region.binds .any e=true->S e.on)(h:((Abs.masks ops).getD i 0).testBit j=true):S j:=by
 obtain⟨o,e,ho,he,hb,h3⟩:=masks_bit h
 have:=hr o ho e he hb
 rcases h3 with h3|⟨_,h3⟩
 ·rw[h3];exact this
 ·exact hc.masks e.on j this h3
def putL(ts:Tm)(dst:Option Tmp)(v:Value):Tm:=
 match dst with
 |some d=>ts.put d v
 |none=>ts
def yieldedL(ops:List Oper)(ts:Tm)(j:Nat):Option Bool:=
 match (ops[j]?).bind (·.dst)with
 |some d=>asB (ts.get d)
 |none=>none
def topAt(ops:List Oper)(ts:Tm)(j:Nat):Bool:=match (ops[j]?).bind (·.dst)with
 |some d=>isTop (ts.get d)
 |none=>false
def wantedA(o:Oper)(ops:List Oper)(ts:Tm):Option Bool:=match o.guard with
 |none=>some true
 |some (j,want)=>match topAt ops ts j with
  |true=>none
  |false=>some (yieldedL ops ts j==some want)
def quietKind:Op->Bool
 | .move _ | .assign _ | .pick .. | .build .. | .load .. | .nilCheck _ | .binOp .. | .unOp .. | .convert .. | .makeInterface .. | .makeFunc .. | .slice .. | .fieldAddr .. | .field .. | .indexAddr .. | .index ..
 | .typeAssert .. | .extract .. | .lookup ..=>true
 | .call {callee := .builtin .len,.. } | .call {callee := .builtin .cap,.. } | .call {callee := .builtin .min,.. } | .call {callee := .builtin .max,.. }=>true
 |_=>false
structure DRec where
 o:Oper
 ts:Tm
 v:Value
 on:Bool
 eff:Bool
def hasBody(P:Program)(g:FuncId):Bool:=match P.funcs[g]? with
 |some fn=>fn.body.isSome
 |none=>false
def methodOf(P:Program)(t:TypeId)(name:String):Option FuncId:=match P.info? t with
 |some i=>match i.methods.find? (·.name==name)with
  |some m=>match m.path.toList,m.func,P.underlying t with
   | [],some (f,true),some (.pointer _)=>some f
   | [],some (_,false),some (.pointer _)=>none
   | [],some (_,true),some _=>none
   | [],some (f,false),some _=>some f
   |_,_,_=>none
  |none=>none
 |none=>none
theorem methodOf_run{P:Program}{t:TypeId}{name:String}{f:FuncId}(h:methodOf P t name=some f)(n:Nat)(v:Value)(w:World):(Go.method (n+1) t v name).run P w = .ok (f,v) w:=by
 unfold methodOf at h
 split at h
 ·rename_i i hi
  split at h
  ·rename_i m hm
   have hgo:∀(pr:Bool) (g:FuncId) (d:TypeDesc),m.path.toList=[]->m.func=some (g,pr)->P.underlying t=some d->(match d,pr with | .pointer _,true=>True | .pointer _,false=>False|_,true=>False|_,false=>True)->(Go.method (n+1) t v name).run P w = .ok (g,v) w:=by
    intro pr g d hpath hfn hu hd
    simp only[Go.method,Sem.run_bind,run_typeInfo hi,Result.andThen_ok,hm,hpath,follow,Sem.run_pure,hfn,receiverAt,run_underlying hu]
    cases pr<;>cases d<;>first|exact hd.elim|rfl
   split at h
   ·rename_i e1 e2 e3;simp only[Option.some.injEq]at h;subst h;exact hgo _ _ _ e1 e2 e3 trivial
   ·cases h
   ·cases h
   ·rename_i d hne1 e1 e2 e3
    simp only[Option.some.injEq]at h;subst h
    refine hgo _ _ _ e1 e2 e3 ?_
    cases d<;>first|trivial|exact(hne1 _ rfl).elim
   ·cases h
  ·cases h
 ·cases h
def callOf(P:Program)(ρ:Operand->Value):Op->Option (FuncId×List Value)
 | .call {callee := .value f,args,.. }=>match ρ f with
  | .func (.func g) first captured=>match hasBody P g with
   |true=>some (g,first.toList++args.toList.map ρ++captured.toList)
   |false=>none
  |_=>none
 | .call {callee := .invoke x name,args,.. }=>match ρ x with
  | .iface t v=>match isMk t with
   |true=>none
   |false=>match methodOf P t name with
    |some g=>match hasBody P g with
     |true=>some (g,v::args.toList.map ρ)
     |false=>none
    |none=>none
  |_=>none
 |_=>none
def drawGo (P:Program) (rec:Cmd->Option Res) (ops:List Oper):List Oper->Tm->Heap->Option (List DRec×List Heap×Tm)
  | [],ts,_=>some ([],[],ts)
  |o::r,ts,h=>
    match wantedA o ops ts with
    |none=>none
    |some false=>match drawGo P rec ops r (putL ts o.dst undef) h with
      |some (l,hs,ts')=>some (⟨o,ts,undef,false,false⟩::l,hs,ts')
      |none=>none
    |some true=>match aOp P o (aev ts) h with
      |some (v,h')=>match quietKind o.op&&Nat.beq h'.next h.next with
        |true=>match drawGo P rec ops r (putL ts o.dst v) h with
          |some (l,hs,ts')=>some (⟨o,ts,v,true,false⟩::l,hs,ts')
          |none=>none
        |false=>match drawGo P rec ops r (putL ts o.dst v) h' with
          |some (l,hs,ts')=>some (⟨o,ts,v,true,true⟩::l,h'::hs,ts')
          |none=>none
      |none=>match callOf P (aev ts) o.op with
        |none=>none
        |some (g,args)=>match rec (.call g args h)with
          |some (.en (.returned v) _ h')=>match drawGo P rec ops r (putL ts o.dst v) h' with
            |some (l,hs,ts')=>some (⟨o,ts,v,true,true⟩::l,h'::hs,ts')
            |none=>none
          |_=>none
def looks (ops:List Oper) (o:Oper) (d:Tmp):Bool:=
  o.op.operands.any (fun | .tmp t=>Nat.beq t d|_=>false)||
  (match o.guard with
   |some (g,_)=>match (ops[g]?).bind (·.dst)with
     |some t=>Nat.beq t d
     |none=>false
   |none=>false)
def noSelect:Op->Bool
 | .select ..=>false
 |_=>true
def statOk(ops:List Oper):Bool:=
 let ms:=masks ops
 let L:=ops.zipIdx
 L.all fun(oj,j)=>noSelect oj.op&&(oj.after.toList.all fun e=>!Region.binds .any e||Nat.blt e.on j)&&
  L.all fun(oi,i)=>Nat.beq i j||match oi.dst with
   |none=>true
   |some d=>(match oj.dst with|some d'=>!Nat.beq d d'|none=>true)&&(!looks ops oj d||(match Nat.blt i j with
    |true=>(ms.getD j 0).testBit i
    |false=>(ms.getD i 0).testBit j))
def effsF:List DRec->Nat->List Nat
 | [],_=>[]
 |r::l,i=>match r.eff with
  |true=>i::effsF l (i+1)
  |false=>effsF l (i+1)
def effs(recs:List DRec):List Nat:=effsF recs 0
def chainOk(ms:List Nat):List Nat->Bool
 |a::b::r=>(ms.getD b 0).testBit a&&chainOk ms (b::r)
 |_=>true
def mayAt(ms:List Nat)(es:List Nat)(i k:Nat):Bool:=
 es.zipIdx.all fun(e,t)=>(!(ms.getD i 0).testBit e||Nat.blt t k)&&(!Nat.blt t k||!(ms.getD e 0).testBit i)
def quietAt(P:Program)(r:DRec)(H:Heap):Bool:=match aOp P r.o (aev r.ts) H with
 |some (v,H')=>beqV r.v v&&Nat.beq H'.next H.next
 |none=>false
def drawOk(P:Program)(ops:List Oper)(recs:List DRec)(hs:List Heap):Bool:=
 let ms:=masks ops
 let es:=effs recs
 statOk ops&&chainOk ms es&&
  recs.zipIdx.all fun(r,i)=>!r.on||r.eff||hs.zipIdx.all fun(H,k)=>!mayAt ms es i k||quietAt P r H
def allBefore(ms es:List Nat)(e u:Nat):Bool:=es.zipIdx.all fun(e',t)=>!Nat.blt t u||(ms.getD e 0).testBit e'
def downOk(ms es:List Nat)(i:Nat):Bool:=es.zipIdx.all fun(e,t)=>!(ms.getD i 0).testBit e||allBefore ms es i t
def oldLoose(h0 H:Heap):Nat->Bool
 | 0=>true
 |n+1=>(match H.get n with
  |some o=>o.own||(match h0.get n with
   |some _=>true
   |none=>false)
  |none=>true)&&oldLoose h0 H n
def floatAt(recs:List DRec)(f:Nat):Bool:=match recs[f]? with
 |some r=>match r.o.op,r.o.guard,r.o.dst with
  | .alloc _,none,some d=>r.on&&Nat.blt d r.ts.n
  |_,_,_=>false
 |none=>false
def findFloat(ms:List Nat)(recs:List DRec)(es:List Nat):Nat->List Nat->Option Nat
 |_,[]=>none
 |u,e::r=>match floatAt recs e&&!allBefore ms es e u with
  |true=>some u
  |false=>findFloat ms recs es (u+1) r
def drawOkF(P:Program)(ops:List Oper)(recs:List DRec)(hs:List Heap)(tf:Nat):Bool:=
 let ms:=masks ops
 let es:=effs recs
 match es[tf]?,hs[tf]?,hs[0]? with
 |some f,some H,some h0=>statOk ops&&(floatAt recs f&&((es.zipIdx.all fun(e,u)=>Nat.beq u tf||allBefore ms es e u)&&((recs.zipIdx.all fun(_,i)=>Nat.beq i f||downOk ms es i)&&(oldLoose h0 H H.next&&
  recs.zipIdx.all fun(r,i)=>!r.on||r.eff||hs.zipIdx.all fun(H,k)=>!mayAt ms es i k||quietAt P r H))))
 |_,_,_=>false
def aDraw(P:Program)(rec:Cmd->Option Res)(ops:Array Oper)(s:St):Option St:=
 match drawGo P rec ops.toList ops.toList s.ts s.h with
 |some (recs,hs,ts')=>match drawOk P ops.toList recs (s.h::hs)with
  |true=>some {s with ts:=ts',h:=hs.getLastD s.h}
  |false=>match findFloat (masks ops.toList) recs (effs recs) 0 (effs recs)with
   |some tf=>match drawOkF P ops.toList recs (s.h::hs) tf with
    |true=>some {s with ts:=ts',h:=hs.getLastD s.h}
    |false=>none
   |none=>none
 |none=>none
end
end Go.Abs
