/- Are two objects the same: what the reference comes to. -/
import Derived.Test.YtblbaohcelldpaaU7
import Derived.Test.YtblbaohcelldpaaWD
set_option linter.all false
namespace Go.Proofs.Ytblbaohcelldpaa.Ob
open Go Go.Abs Go.Tlv
set_option maxRecDepth 100000
noncomputable section
theorem take_next{α:Type}{l m:List α}{i:Nat}{a:α}(h:l.take i=m.take i)(h1:l[i]?=some a)(h2:m[i]?=some a):l.take (i+1)=m.take (i+1):=by
 rw[List.take_add_one,List.take_add_one,h,h1,h2]
structure InvQ{α:Type}(l m:List α)(i:Nat):Prop where
 le:i<=l.length
 eq:l.take i=m.take i
abbrev StQ{α:Type}(l m:List α):={i:Nat // InvQ l m i}
def ISm(oa ob:AObj){α:Type}{l m:List α}(i:StQ l m):List Value×List (Option AObj):=([pA 100,pA 101,.int .i64 (i.1:Int)],[some oa,some ob])
def RSm(oa ob:AObj){α:Type}(l m:List α)(e:Exit)(v:List Value)(o:List (Option AObj)):Prop:=
 (l=m/\e = .exit 0/\v=[pA 100,pA 101,top]/\o=[some oa,some ob])∨(l≠m/\e = .ret/\v=[top,top,.bool false]/\o=[none,none])
theorem wk_sm{a b:Value}{oa ob:AObj}:Wk 100 102 [a,b,.bool false] [some oa,some ob] [top,top,.bool false] [none,none]:=
 wk_weak (.cons (.top _) (.cons (.top _) (.cons (.refl _) .nil))) (.cons (.none _) (.cons (.none _) .nil))
def LSr(f nt:Nat)(oa ob:AObj){α:Type}(l m:List α):LSm:=fun c n vals obs A E=>c=loopIn Try.prog f 4/\n=nt/\vals=[pA 100,pA 101,.int .i64 (0:Int)]/\obs=[some oa,some ob]/\l.length=m.length/\(l=m->A)/\(l≠m->E)
theorem pu_mkB2{W:How}(hkn:KnOk Try.prog 100 W)(hlp:LpOk Try.prog 100 W){f:FuncId}{args:List Value}{n:Nat}{Q:Bool->Prop}(ha:belowL 100 args=true)
  (h:Is (wpe Try.prog (real Try.prog) W n (.call f args h0) (retV fun v'=>∃b:Bool,v' = .bool b/\Q b))):∃b:Bool,Q b/\∀B H,CallH Try.prog 100 B f args H (.returned (.bool b)) H:=by
 obtain⟨r,h1,h2⟩:=wpe_ok okp hkn hlp n _ _ h.out
 unfold retV at h2
 split at h2
 ·rename_i v' u h'
  split at h2
  ·rename_i hc
   simp only[Bool.and_eq_true]at hc
   obtain⟨b,rfl,hb⟩:=h2
   exact⟨b,hb,fun B H=>pure_lift (fun B=>call_wk (ins:=[]) (call_objs (Nat.le_of_ble_eq_true hc.1) (h1 B)) (wk_pure rfl)) ha rfl B H⟩
  ·exact h2.elim
 ·exact h2.elim
theorem no_eq{α:Type}{β:Type}{x y:α}(f:α->β)(h:¬f x=f y):(false=true↔x=y):=⟨fun e=>(by cases e),fun e=>absurd (by rw[e]) h⟩
theorem aeArm(a b:Arm):allEq [((a.v:Int),(b.v:Int)),(a.nx,b.nx)]=true↔a=b:=by
 cases a;cases b
 simp[allEq]<;>omega
theorem aeInstr(a b:Instr):allEq [((a.op:Int),(b.op:Int)),(a.to,b.to),((a.ak:Int),(b.ak:Int)),((a.an:Int),(b.an:Int)),((a.bk:Int),(b.bk:Int)),((a.bn:Int),(b.bn:Int)),(a.n,b.n)]=true↔a=b:=by
 cases a;cases b
 simp[allEq]<;>omega
theorem aeBucket(a b:Bucket):allEq [((a.w:Int),(b.w:Int)),(a.b,b.b)]=true↔a=b:=by
 cases a;cases b
 simp[allEq]<;>omega
theorem sm_ofNode{x y:ONode}(hl:x.arms=y.arms)(e_id:x.id=y.id)(e_size:x.size=y.size)(e_lo:x.lo=y.lo)(e_lw:x.lw=y.lw)(e_lu:x.lu=y.lu)(e_so:x.so=y.so)(e_sw:x.sw=y.sw)(e_ot:x.ot=y.ot):x=y:=by
 cases x;cases y
 simp_all
theorem rndSNode(x y:ONode)(hx:fitNode x)(hl:x.arms.length=y.arms.length)(i:StQ x.arms y.arms):
  Is (wpe Try.prog (real Try.prog) (howOf Z0 Zp [] [] [] []) 300 (.code false (loopIn Try.prog 9 4) (stOf 100 85 [2,3,5] [] (ISm (xbNode x) (xbNode y) i))) (roundQ 100 [2,3,5] [2,3,4] 85 []
   (fun vals objs=>∃a':StQ x.arms y.arms,x.arms.length-a'.1<x.arms.length-i.1/\Wk 100 (100+2) vals objs (ISm (xbNode x) (xbNode y) a').1 (ISm (xbNode x) (xbNode y) a').2/\∀e v o,RSm (xbNode x) (xbNode y) x.arms y.arms e v o->RSm (xbNode x) (xbNode y) x.arms y.arms e v o)
   (fun e vals objs=>∃v o,Wk 100 (100+2) vals objs v o/\RSm (xbNode x) (xbNode y) x.arms y.arms e v o))):=by
 refine⟨?_⟩
 obtain⟨i,inv⟩:=i
 have hi:=inv.le
 have hb:x.arms.length<1000000000:=hx
 show gSmNodeR (real Try.prog) x.id y.id x.size y.size x.lo y.lo x.lw y.lw x.lu y.lu x.so y.so x.sw y.sw (rowsOf cArm x.arms) (rowsOf cArm y.arms) x.ot y.ot (i:Int) _ _
 rw[gSmNodeR_eq]
 refine n_dlen x.arms.length (rowsOf_len _ _) (n_ltN (fun hlt=>?_) (fun hge=>?_))
 ·have ha:x.arms[i]?=some x.arms[i]:=List.getElem?_eq_getElem hlt
  have hlt2:i<y.arms.length:=by omega
  have hb2:y.arms[i]?=some y.arms[i]:=List.getElem?_eq_getElem hlt2
  generalize x.arms[i]=a at ha
  generalize y.arms[i]=b at hb2
  have hms:x.arms.length-(i+1)<x.arms.length-i:=by omega
  refine n_dget i rfl (rowsOf_get ha) rfl (n_rdI rfl (n_rdI rfl (n_dget i rfl (rowsOf_get hb2) rfl (n_rdI rfl (n_rdI rfl (n_agNeq (ps:=[((a.v:Int),(b.v:Int)),(a.nx,b.nx)]) (by kernel_rfl) (by kernel_rfl) rfl rfl (fun h=>?_) (fun h=>?_)))))))
  ·have hne:a≠b:=(fun e=>by rw[(aeArm a b).2 e]at h;cases h)
   exact⟨rfl,_,_,wk_sm,.inr ⟨fun e=>hne (by rw[e,hb2]at ha;simpa using ha.symm),rfl,rfl,rfl⟩⟩
  ·have he:a=b:=(aeArm a b).1 h
   subst he
   exact n_inc (by omega) ⟨rfl,⟨i+1,⟨hlt,take_next inv.eq ha hb2⟩⟩,hms,Wk.refl _ _ _ _,fun _ _ _ h=>h⟩
 ·have e:i=x.arms.length:=by omega
  have h:=inv.eq
  rw[e,List.take_length,hl,List.take_length]at h
  exact⟨rfl,_,_,Wk.refl _ _ _ _,.inl ⟨h,rfl,rfl,rfl⟩⟩
theorem lpSNode(x y:ONode)(hx:fitNode x):LoopOk Try.prog 100 [2,3,5] (sLoS (LSr 9 85 (xbNode x) (xbNode y) x.arms y.arms)):=by
 show LoopOk Try.prog 100 [2,3,5] (lpS [2,3,4] _)
 refine lp_mk okp (W:=howOf Z0 Zp [] [] [] []) kn_none lp_none ?_
 intro c n vals obs K h
 split at h<;>try exact h.elim
 obtain⟨hc,hn,hv2,ho,hl,hA,hE⟩:=h
 subst hc;subst hn;subst ho
 simp only[List.cons.injEq]at hv2
 obtain⟨rfl,rfl,rfl⟩:=hv2
 refine⟨StQ x.arms y.arms,2,300,fun a=>x.arms.length-a.1,ISm (xbNode x) (xbNode y),fun _ e v o=>RSm (xbNode x) (xbNode y) x.arms y.arms e v o,⟨0,⟨Nat.zero_le _,rfl⟩⟩,rfl,Wk.refl _ _ _ _,?_,rndSNode x y hx hl⟩
 intro e v o hR
 rcases hR with⟨h1,rfl,rfl,rfl⟩ | ⟨h1,rfl,rfl,rfl⟩
 ·exact hA h1
 ·exact hE h1
theorem smNodeC(x y:ONode):Is (gSmNode (real Try.prog) (LSr 9 85 (xbNode x) (xbNode y) x.arms y.arms) x.id y.id x.size y.size x.lo y.lo x.lw y.lw x.lu y.lu x.so y.so x.sw y.sw (rowsOf cArm x.arms) (rowsOf cArm y.arms) x.ot y.ot (fun v=>∃b:Bool,v = .bool b/\(b=true↔x=y))):=by
 refine⟨?_⟩
 rw[gSmNode_eq]
 refine n_dlen x.arms.length (rowsOf_len _ _) (n_dlen y.arms.length (rowsOf_len _ _) (n_neN (fun h=>⟨false,rfl,no_eq (fun z:ONode=>z.arms.length) h⟩) (fun hlen=>⟨rfl,rfl,rfl,rfl,hlen,fun hl=>?_,fun h=>⟨false,rfl,no_eq (fun z:ONode=>z.arms) h⟩⟩)))
 exact n_eql (fun e_id=>n_eql (fun e_size=>n_eql (fun e_lo=>n_eql (fun e_lw=>n_eql (fun e_lu=>n_eql (fun e_so=>n_eql (fun e_sw=>n_eql (fun e_ot=>⟨true,rfl,⟨fun _=>sm_ofNode hl e_id e_size e_lo e_lw e_lu e_so e_sw e_ot,fun _=>rfl⟩⟩) (fun h=>⟨false,rfl,no_eq (fun z:ONode=>z.ot) h⟩)) (fun h=>⟨false,rfl,no_eq (fun z:ONode=>z.sw) h⟩)) (fun h=>⟨false,rfl,no_eq (fun z:ONode=>z.so) h⟩)) (fun h=>⟨false,rfl,no_eq (fun z:ONode=>z.lu) h⟩)) (fun h=>⟨false,rfl,no_eq (fun z:ONode=>z.lw) h⟩)) (fun h=>⟨false,rfl,no_eq (fun z:ONode=>z.lo) h⟩)) (fun h=>⟨false,rfl,no_eq (fun z:ONode=>z.size) h⟩)) (fun h=>⟨false,rfl,no_eq (fun z:ONode=>z.id) h⟩)
theorem smNodeH(x y:ONode)(hx:fitNode x):∃b:Bool,(b=true↔x=y)/\∀B H,CallH Try.prog 100 B 9 [vNode x,vNode y] H (.returned (.bool b)) H:=
 pu_mkB2 kn_none (lp_ok (fun z hz=>by simp only[List.mem_singleton]at hz;subst hz;exact lpSNode x y hx)) rfl (smNodeC x y)
theorem aeField(x y:OField):allEq [(x.id,y.id),((x.base:Int),(y.base:Int)),(x.node,y.node),(x.off,y.off),(x.wid,y.wid)]=true↔x=y:=by
 cases x;cases y
 simp[allEq]<;>omega
theorem smFieldC(x y:OField):Is (gSmField (real Try.prog) x.id y.id (x.base:Int) (y.base:Int) x.node y.node x.off y.off x.wid y.wid (fun v=>∃b:Bool,v = .bool b/\(b=true↔x=y))):=by
 refine⟨?_⟩
 rw[gSmField_eq]
 exact n_agEql (ps:=[(x.id,y.id),((x.base:Int),(y.base:Int)),(x.node,y.node),(x.off,y.off),(x.wid,y.wid)]) (by kernel_rfl) (by kernel_rfl) rfl rfl (fun h=>⟨true,rfl,⟨fun _=>(aeField x y).1 h,fun _=>rfl⟩⟩) (fun h=>⟨false,rfl,⟨fun e=>(by cases e),fun e=>by rw[(aeField x y).2 e]at h;cases h⟩⟩)
theorem smFieldH(x y:OField):∃b:Bool,(b=true↔x=y)/\∀B H,CallH Try.prog 100 B 11 [vField x,vField y] H (.returned (.bool b)) H:=pu_mkB2 kn_none lp_none rfl (smFieldC x y)
theorem sm_ofTable{x y:OTable}(hl:x.keys=y.keys)(e_id:x.id=y.id)(e_kind:x.kind=y.kind)(e_cap:x.cap=y.cap)(e_miss:x.miss=y.miss):x=y:=by
 cases x;cases y
 simp_all
theorem rndSTable(x y:OTable)(hx:fitTable x)(hl:x.keys.length=y.keys.length)(i:StQ x.keys y.keys):
  Is (wpe Try.prog (real Try.prog) (howOf Z0 Zp [] [] [] []) 300 (.code false (loopIn Try.prog 13 4) (stOf 100 57 [2,3,5] [] (ISm (xbTable x) (xbTable y) i))) (roundQ 100 [2,3,5] [2,3,4] 57 []
   (fun vals objs=>∃a':StQ x.keys y.keys,x.keys.length-a'.1<x.keys.length-i.1/\Wk 100 (100+2) vals objs (ISm (xbTable x) (xbTable y) a').1 (ISm (xbTable x) (xbTable y) a').2/\∀e v o,RSm (xbTable x) (xbTable y) x.keys y.keys e v o->RSm (xbTable x) (xbTable y) x.keys y.keys e v o)
   (fun e vals objs=>∃v o,Wk 100 (100+2) vals objs v o/\RSm (xbTable x) (xbTable y) x.keys y.keys e v o))):=by
 refine⟨?_⟩
 obtain⟨i,inv⟩:=i
 have hi:=inv.le
 have hb:x.keys.length<1000000000:=hx
 show gSmTableR (real Try.prog) x.id y.id (x.kind:Int) (y.kind:Int) (rowsOf cInt x.keys) (rowsOf cInt y.keys) x.cap y.cap x.miss y.miss (i:Int) _ _
 rw[gSmTableR_eq]
 refine n_dlen x.keys.length (rowsOf_len _ _) (n_ltN (fun hlt=>?_) (fun hge=>?_))
 ·have ha:x.keys[i]?=some x.keys[i]:=List.getElem?_eq_getElem hlt
  have hlt2:i<y.keys.length:=by omega
  have hb2:y.keys[i]?=some y.keys[i]:=List.getElem?_eq_getElem hlt2
  generalize x.keys[i]=a at ha
  generalize y.keys[i]=b at hb2
  have hms:x.keys.length-(i+1)<x.keys.length-i:=by omega
  refine n_dget i rfl (rowsOf_get ha) rfl (n_rdI rfl (n_dget i rfl (rowsOf_get hb2) rfl (n_rdI rfl (n_neq (fun h=>?_) (fun h=>?_)))))
  ·have hne:a≠b:=(fun e=>h (by rw[e]))
   exact⟨rfl,_,_,wk_sm,.inr ⟨fun e=>hne (by rw[e,hb2]at ha;simpa using ha.symm),rfl,rfl,rfl⟩⟩
  ·have he:a=b:=(by omega)
   subst he
   exact n_inc (by omega) ⟨rfl,⟨i+1,⟨hlt,take_next inv.eq ha hb2⟩⟩,hms,Wk.refl _ _ _ _,fun _ _ _ h=>h⟩
 ·have e:i=x.keys.length:=by omega
  have h:=inv.eq
  rw[e,List.take_length,hl,List.take_length]at h
  exact⟨rfl,_,_,Wk.refl _ _ _ _,.inl ⟨h,rfl,rfl,rfl⟩⟩
theorem lpSTable(x y:OTable)(hx:fitTable x):LoopOk Try.prog 100 [2,3,5] (sLoS (LSr 13 57 (xbTable x) (xbTable y) x.keys y.keys)):=by
 show LoopOk Try.prog 100 [2,3,5] (lpS [2,3,4] _)
 refine lp_mk okp (W:=howOf Z0 Zp [] [] [] []) kn_none lp_none ?_
 intro c n vals obs K h
 split at h<;>try exact h.elim
 obtain⟨hc,hn,hv2,ho,hl,hA,hE⟩:=h
 subst hc;subst hn;subst ho
 simp only[List.cons.injEq]at hv2
 obtain⟨rfl,rfl,rfl⟩:=hv2
 refine⟨StQ x.keys y.keys,2,300,fun a=>x.keys.length-a.1,ISm (xbTable x) (xbTable y),fun _ e v o=>RSm (xbTable x) (xbTable y) x.keys y.keys e v o,⟨0,⟨Nat.zero_le _,rfl⟩⟩,rfl,Wk.refl _ _ _ _,?_,rndSTable x y hx hl⟩
 intro e v o hR
 rcases hR with⟨h1,rfl,rfl,rfl⟩ | ⟨h1,rfl,rfl,rfl⟩
 ·exact hA h1
 ·exact hE h1
theorem smTableC(x y:OTable):Is (gSmTable (real Try.prog) (LSr 13 57 (xbTable x) (xbTable y) x.keys y.keys) x.id y.id (x.kind:Int) (y.kind:Int) (rowsOf cInt x.keys) (rowsOf cInt y.keys) x.cap y.cap x.miss y.miss (fun v=>∃b:Bool,v = .bool b/\(b=true↔x=y))):=by
 refine⟨?_⟩
 rw[gSmTable_eq]
 refine n_dlen x.keys.length (rowsOf_len _ _) (n_dlen y.keys.length (rowsOf_len _ _) (n_neN (fun h=>⟨false,rfl,no_eq (fun z:OTable=>z.keys.length) h⟩) (fun hlen=>⟨rfl,rfl,rfl,rfl,hlen,fun hl=>?_,fun h=>⟨false,rfl,no_eq (fun z:OTable=>z.keys) h⟩⟩)))
 exact n_eql (fun e_id=>n_eqN (fun e_kind=>n_eql (fun e_cap=>n_eql (fun e_miss=>⟨true,rfl,⟨fun _=>sm_ofTable hl e_id e_kind e_cap e_miss,fun _=>rfl⟩⟩) (fun h=>⟨false,rfl,no_eq (fun z:OTable=>z.miss) h⟩)) (fun h=>⟨false,rfl,no_eq (fun z:OTable=>z.cap) h⟩)) (fun h=>⟨false,rfl,no_eq (fun z:OTable=>z.kind) h⟩)) (fun h=>⟨false,rfl,no_eq (fun z:OTable=>z.id) h⟩)
theorem smTableH(x y:OTable)(hx:fitTable x):∃b:Bool,(b=true↔x=y)/\∀B H,CallH Try.prog 100 B 13 [vTable x,vTable y] H (.returned (.bool b)) H:=
 pu_mkB2 kn_none (lp_ok (fun z hz=>by simp only[List.mem_singleton]at hz;subst hz;exact lpSTable x y hx)) rfl (smTableC x y)
theorem sm_ofEntry{x y:OEntry}(hl:x.args=y.args)(e_tab:x.tab=y.tab)(e_key:x.key=y.key)(e_oth:x.oth=y.oth)(e_len:x.len=y.len)(e_prio:x.prio=y.prio)(e_blk:x.blk=y.blk)(e_idle:x.idle=y.idle)(e_hard:x.hard=y.hard)(e_cook:x.cook=y.cook)(e_tell:x.tell=y.tell):x=y:=by
 cases x;cases y
 simp_all
theorem rndSEntry(x y:OEntry)(hx:fitEntry x)(hl:x.args.length=y.args.length)(i:StQ x.args y.args):
  Is (wpe Try.prog (real Try.prog) (howOf Z0 Zp [] [] [] []) 300 (.code false (loopIn Try.prog 15 4) (stOf 100 99 [2,3,5] [] (ISm (xbEntry x) (xbEntry y) i))) (roundQ 100 [2,3,5] [2,3,4] 99 []
   (fun vals objs=>∃a':StQ x.args y.args,x.args.length-a'.1<x.args.length-i.1/\Wk 100 (100+2) vals objs (ISm (xbEntry x) (xbEntry y) a').1 (ISm (xbEntry x) (xbEntry y) a').2/\∀e v o,RSm (xbEntry x) (xbEntry y) x.args y.args e v o->RSm (xbEntry x) (xbEntry y) x.args y.args e v o)
   (fun e vals objs=>∃v o,Wk 100 (100+2) vals objs v o/\RSm (xbEntry x) (xbEntry y) x.args y.args e v o))):=by
 refine⟨?_⟩
 obtain⟨i,inv⟩:=i
 have hi:=inv.le
 have hb:x.args.length<1000000000:=hx
 show gSmEntryR (real Try.prog) x.tab y.tab x.key y.key x.oth y.oth x.len y.len x.prio y.prio x.blk y.blk (rowsOf cNat x.args) (rowsOf cNat y.args) x.idle y.idle x.hard y.hard (x.cook:Int) (y.cook:Int) x.tell y.tell (i:Int) _ _
 rw[gSmEntryR_eq]
 refine n_dlen x.args.length (rowsOf_len _ _) (n_ltN (fun hlt=>?_) (fun hge=>?_))
 ·have ha:x.args[i]?=some x.args[i]:=List.getElem?_eq_getElem hlt
  have hlt2:i<y.args.length:=by omega
  have hb2:y.args[i]?=some y.args[i]:=List.getElem?_eq_getElem hlt2
  generalize x.args[i]=a at ha
  generalize y.args[i]=b at hb2
  have hms:x.args.length-(i+1)<x.args.length-i:=by omega
  refine n_dget i rfl (rowsOf_get ha) rfl (n_rdI rfl (n_dget i rfl (rowsOf_get hb2) rfl (n_rdI rfl (n_neq (fun h=>?_) (fun h=>?_)))))
  ·have hne:a≠b:=(fun e=>h (by rw[e]))
   exact⟨rfl,_,_,wk_sm,.inr ⟨fun e=>hne (by rw[e,hb2]at ha;simpa using ha.symm),rfl,rfl,rfl⟩⟩
  ·have he:a=b:=(by omega)
   subst he
   exact n_inc (by omega) ⟨rfl,⟨i+1,⟨hlt,take_next inv.eq ha hb2⟩⟩,hms,Wk.refl _ _ _ _,fun _ _ _ h=>h⟩
 ·have e:i=x.args.length:=by omega
  have h:=inv.eq
  rw[e,List.take_length,hl,List.take_length]at h
  exact⟨rfl,_,_,Wk.refl _ _ _ _,.inl ⟨h,rfl,rfl,rfl⟩⟩
theorem lpSEntry(x y:OEntry)(hx:fitEntry x):LoopOk Try.prog 100 [2,3,5] (sLoS (LSr 15 99 (xbEntry x) (xbEntry y) x.args y.args)):=by
 show LoopOk Try.prog 100 [2,3,5] (lpS [2,3,4] _)
 refine lp_mk okp (W:=howOf Z0 Zp [] [] [] []) kn_none lp_none ?_
 intro c n vals obs K h
 split at h<;>try exact h.elim
 obtain⟨hc,hn,hv2,ho,hl,hA,hE⟩:=h
 subst hc;subst hn;subst ho
 simp only[List.cons.injEq]at hv2
 obtain⟨rfl,rfl,rfl⟩:=hv2
 refine⟨StQ x.args y.args,2,300,fun a=>x.args.length-a.1,ISm (xbEntry x) (xbEntry y),fun _ e v o=>RSm (xbEntry x) (xbEntry y) x.args y.args e v o,⟨0,⟨Nat.zero_le _,rfl⟩⟩,rfl,Wk.refl _ _ _ _,?_,rndSEntry x y hx hl⟩
 intro e v o hR
 rcases hR with⟨h1,rfl,rfl,rfl⟩ | ⟨h1,rfl,rfl,rfl⟩
 ·exact hA h1
 ·exact hE h1
theorem smEntryC(x y:OEntry):Is (gSmEntry (real Try.prog) (LSr 15 99 (xbEntry x) (xbEntry y) x.args y.args) x.tab y.tab x.key y.key x.oth y.oth x.len y.len x.prio y.prio x.blk y.blk (rowsOf cNat x.args) (rowsOf cNat y.args) x.idle y.idle x.hard y.hard (x.cook:Int) (y.cook:Int) x.tell y.tell (fun v=>∃b:Bool,v = .bool b/\(b=true↔x=y))):=by
 refine⟨?_⟩
 rw[gSmEntry_eq]
 refine n_dlen x.args.length (rowsOf_len _ _) (n_dlen y.args.length (rowsOf_len _ _) (n_neN (fun h=>⟨false,rfl,no_eq (fun z:OEntry=>z.args.length) h⟩) (fun hlen=>⟨rfl,rfl,rfl,rfl,hlen,fun hl=>?_,fun h=>⟨false,rfl,no_eq (fun z:OEntry=>z.args) h⟩⟩)))
 exact n_eql (fun e_tab=>n_scmp_eq (fun h=>(fun e_key:x.key=y.key=>n_scmp_eq (fun h=>(fun e_oth:x.oth=y.oth=>n_eql (fun e_len=>n_eql (fun e_prio=>n_eql (fun e_blk=>n_eql (fun e_idle=>n_eql (fun e_hard=>n_eqN (fun e_cook => .inl ⟨rfl,fun h=>(fun e_tell:x.tell=y.tell=>⟨true,rfl,⟨fun _=>sm_ofEntry hl e_tab e_key e_oth e_len e_prio e_blk e_idle e_hard e_cook e_tell,fun _=>rfl⟩⟩) (by simpa using h),fun h=>(fun h:¬x.tell=y.tell=>⟨false,rfl,no_eq (fun z:OEntry=>z.tell) h⟩) (by simpa using h)⟩) (fun h=>⟨false,rfl,no_eq (fun z:OEntry=>z.cook) h⟩)) (fun h=>⟨false,rfl,no_eq (fun z:OEntry=>z.hard) h⟩)) (fun h=>⟨false,rfl,no_eq (fun z:OEntry=>z.idle) h⟩)) (fun h=>⟨false,rfl,no_eq (fun z:OEntry=>z.blk) h⟩)) (fun h=>⟨false,rfl,no_eq (fun z:OEntry=>z.prio) h⟩)) (fun h=>⟨false,rfl,no_eq (fun z:OEntry=>z.len) h⟩)) (bytes_ext h)) (fun h=>(fun h:¬x.oth=y.oth=>⟨false,rfl,no_eq (fun z:OEntry=>z.oth) h⟩) (fun e=>h (by rw[e])))) (bytes_ext h)) (fun h=>(fun h:¬x.key=y.key=>⟨false,rfl,no_eq (fun z:OEntry=>z.key) h⟩) (fun e=>h (by rw[e])))) (fun h=>⟨false,rfl,no_eq (fun z:OEntry=>z.tab) h⟩)
theorem smEntryH(x y:OEntry)(hx:fitEntry x):∃b:Bool,(b=true↔x=y)/\∀B H,CallH Try.prog 100 B 15 [vEntry x,vEntry y] H (.returned (.bool b)) H:=
 pu_mkB2 kn_none (lp_ok (fun z hz=>by simp only[List.mem_singleton]at hz;subst hz;exact lpSEntry x y hx)) rfl (smEntryC x y)
theorem sm_ofBlock{x y:OBlock}(hl:x.code=y.code)(e_id:x.id=y.id):x=y:=by
 cases x;cases y
 simp_all
theorem rndSBlock(x y:OBlock)(hx:fitBlock x)(hl:x.code.length=y.code.length)(i:StQ x.code y.code):
  Is (wpe Try.prog (real Try.prog) (howOf Z0 Zp [] [] [] []) 300 (.code false (loopIn Try.prog 17 4) (stOf 100 36 [2,3,5] [] (ISm (xbBlock x) (xbBlock y) i))) (roundQ 100 [2,3,5] [2,3,4] 36 []
   (fun vals objs=>∃a':StQ x.code y.code,x.code.length-a'.1<x.code.length-i.1/\Wk 100 (100+2) vals objs (ISm (xbBlock x) (xbBlock y) a').1 (ISm (xbBlock x) (xbBlock y) a').2/\∀e v o,RSm (xbBlock x) (xbBlock y) x.code y.code e v o->RSm (xbBlock x) (xbBlock y) x.code y.code e v o)
   (fun e vals objs=>∃v o,Wk 100 (100+2) vals objs v o/\RSm (xbBlock x) (xbBlock y) x.code y.code e v o))):=by
 refine⟨?_⟩
 obtain⟨i,inv⟩:=i
 have hi:=inv.le
 have hb:x.code.length<1000000000:=hx
 show gSmBlockR (real Try.prog) x.id y.id (rowsOf cInstr x.code) (rowsOf cInstr y.code) (i:Int) _ _
 rw[gSmBlockR_eq]
 refine n_dlen x.code.length (rowsOf_len _ _) (n_ltN (fun hlt=>?_) (fun hge=>?_))
 ·have ha:x.code[i]?=some x.code[i]:=List.getElem?_eq_getElem hlt
  have hlt2:i<y.code.length:=by omega
  have hb2:y.code[i]?=some y.code[i]:=List.getElem?_eq_getElem hlt2
  generalize x.code[i]=a at ha
  generalize y.code[i]=b at hb2
  have hms:x.code.length-(i+1)<x.code.length-i:=by omega
  refine n_dget i rfl (rowsOf_get ha) rfl (n_rdI rfl (n_rdI rfl (n_rdI rfl (n_rdI rfl (n_rdI rfl (n_rdI rfl (n_rdI rfl (n_dget i rfl (rowsOf_get hb2) rfl (n_rdI rfl (n_rdI rfl (n_rdI rfl (n_rdI rfl (n_rdI rfl (n_rdI rfl (n_rdI rfl (n_agNeq (ps:=[((a.op:Int),(b.op:Int)),(a.to,b.to),((a.ak:Int),(b.ak:Int)),((a.an:Int),(b.an:Int)),((a.bk:Int),(b.bk:Int)),((a.bn:Int),(b.bn:Int)),(a.n,b.n)]) (by kernel_rfl) (by kernel_rfl) rfl rfl (fun h=>?_) (fun h=>?_)))))))))))))))))
  ·have hne:a≠b:=(fun e=>by rw[(aeInstr a b).2 e]at h;cases h)
   exact⟨rfl,_,_,wk_sm,.inr ⟨fun e=>hne (by rw[e,hb2]at ha;simpa using ha.symm),rfl,rfl,rfl⟩⟩
  ·have he:a=b:=(aeInstr a b).1 h
   subst he
   exact n_inc (by omega) ⟨rfl,⟨i+1,⟨hlt,take_next inv.eq ha hb2⟩⟩,hms,Wk.refl _ _ _ _,fun _ _ _ h=>h⟩
 ·have e:i=x.code.length:=by omega
  have h:=inv.eq
  rw[e,List.take_length,hl,List.take_length]at h
  exact⟨rfl,_,_,Wk.refl _ _ _ _,.inl ⟨h,rfl,rfl,rfl⟩⟩
theorem lpSBlock(x y:OBlock)(hx:fitBlock x):LoopOk Try.prog 100 [2,3,5] (sLoS (LSr 17 36 (xbBlock x) (xbBlock y) x.code y.code)):=by
 show LoopOk Try.prog 100 [2,3,5] (lpS [2,3,4] _)
 refine lp_mk okp (W:=howOf Z0 Zp [] [] [] []) kn_none lp_none ?_
 intro c n vals obs K h
 split at h<;>try exact h.elim
 obtain⟨hc,hn,hv2,ho,hl,hA,hE⟩:=h
 subst hc;subst hn;subst ho
 simp only[List.cons.injEq]at hv2
 obtain⟨rfl,rfl,rfl⟩:=hv2
 refine⟨StQ x.code y.code,2,300,fun a=>x.code.length-a.1,ISm (xbBlock x) (xbBlock y),fun _ e v o=>RSm (xbBlock x) (xbBlock y) x.code y.code e v o,⟨0,⟨Nat.zero_le _,rfl⟩⟩,rfl,Wk.refl _ _ _ _,?_,rndSBlock x y hx hl⟩
 intro e v o hR
 rcases hR with⟨h1,rfl,rfl,rfl⟩ | ⟨h1,rfl,rfl,rfl⟩
 ·exact hA h1
 ·exact hE h1
theorem smBlockC(x y:OBlock):Is (gSmBlock (real Try.prog) (LSr 17 36 (xbBlock x) (xbBlock y) x.code y.code) x.id y.id (rowsOf cInstr x.code) (rowsOf cInstr y.code) (fun v=>∃b:Bool,v = .bool b/\(b=true↔x=y))):=by
 refine⟨?_⟩
 rw[gSmBlock_eq]
 refine n_dlen x.code.length (rowsOf_len _ _) (n_dlen y.code.length (rowsOf_len _ _) (n_neN (fun h=>⟨false,rfl,no_eq (fun z:OBlock=>z.code.length) h⟩) (fun hlen=>⟨rfl,rfl,rfl,rfl,hlen,fun hl=>?_,fun h=>⟨false,rfl,no_eq (fun z:OBlock=>z.code) h⟩⟩)))
 exact n_eql (fun e_id=>⟨true,rfl,⟨fun _=>sm_ofBlock hl e_id,fun _=>rfl⟩⟩) (fun h=>⟨false,rfl,no_eq (fun z:OBlock=>z.id) h⟩)
theorem smBlockH(x y:OBlock)(hx:fitBlock x):∃b:Bool,(b=true↔x=y)/\∀B H,CallH Try.prog 100 B 17 [vBlock x,vBlock y] H (.returned (.bool b)) H:=
 pu_mkB2 kn_none (lp_ok (fun z hz=>by simp only[List.mem_singleton]at hz;subst hz;exact lpSBlock x y hx)) rfl (smBlockC x y)
theorem sm_ofGroup{x y:OGroup}(hl:x.bks=y.bks)(e_id:x.id=y.id)(e_kind:x.kind=y.kind)(e_fld:x.fld=y.fld):x=y:=by
 cases x;cases y
 simp_all
theorem rndSGroup(x y:OGroup)(hx:fitGroup x)(hl:x.bks.length=y.bks.length)(i:StQ x.bks y.bks):
  Is (wpe Try.prog (real Try.prog) (howOf Z0 Zp [] [] [] []) 300 (.code false (loopIn Try.prog 19 4) (stOf 100 50 [2,3,5] [] (ISm (xbGroup x) (xbGroup y) i))) (roundQ 100 [2,3,5] [2,3,4] 50 []
   (fun vals objs=>∃a':StQ x.bks y.bks,x.bks.length-a'.1<x.bks.length-i.1/\Wk 100 (100+2) vals objs (ISm (xbGroup x) (xbGroup y) a').1 (ISm (xbGroup x) (xbGroup y) a').2/\∀e v o,RSm (xbGroup x) (xbGroup y) x.bks y.bks e v o->RSm (xbGroup x) (xbGroup y) x.bks y.bks e v o)
   (fun e vals objs=>∃v o,Wk 100 (100+2) vals objs v o/\RSm (xbGroup x) (xbGroup y) x.bks y.bks e v o))):=by
 refine⟨?_⟩
 obtain⟨i,inv⟩:=i
 have hi:=inv.le
 have hb:x.bks.length<1000000000:=hx
 show gSmGroupR (real Try.prog) x.id y.id (x.kind:Int) (y.kind:Int) x.fld y.fld (rowsOf cBucket x.bks) (rowsOf cBucket y.bks) (i:Int) _ _
 rw[gSmGroupR_eq]
 refine n_dlen x.bks.length (rowsOf_len _ _) (n_ltN (fun hlt=>?_) (fun hge=>?_))
 ·have ha:x.bks[i]?=some x.bks[i]:=List.getElem?_eq_getElem hlt
  have hlt2:i<y.bks.length:=by omega
  have hb2:y.bks[i]?=some y.bks[i]:=List.getElem?_eq_getElem hlt2
  generalize x.bks[i]=a at ha
  generalize y.bks[i]=b at hb2
  have hms:x.bks.length-(i+1)<x.bks.length-i:=by omega
  refine n_dget i rfl (rowsOf_get ha) rfl (n_rdI rfl (n_rdI rfl (n_dget i rfl (rowsOf_get hb2) rfl (n_rdI rfl (n_rdI rfl (n_agNeq (ps:=[((a.w:Int),(b.w:Int)),(a.b,b.b)]) (by kernel_rfl) (by kernel_rfl) rfl rfl (fun h=>?_) (fun h=>?_)))))))
  ·have hne:a≠b:=(fun e=>by rw[(aeBucket a b).2 e]at h;cases h)
   exact⟨rfl,_,_,wk_sm,.inr ⟨fun e=>hne (by rw[e,hb2]at ha;simpa using ha.symm),rfl,rfl,rfl⟩⟩
  ·have he:a=b:=(aeBucket a b).1 h
   subst he
   exact n_inc (by omega) ⟨rfl,⟨i+1,⟨hlt,take_next inv.eq ha hb2⟩⟩,hms,Wk.refl _ _ _ _,fun _ _ _ h=>h⟩
 ·have e:i=x.bks.length:=by omega
  have h:=inv.eq
  rw[e,List.take_length,hl,List.take_length]at h
  exact⟨rfl,_,_,Wk.refl _ _ _ _,.inl ⟨h,rfl,rfl,rfl⟩⟩
theorem lpSGroup(x y:OGroup)(hx:fitGroup x):LoopOk Try.prog 100 [2,3,5] (sLoS (LSr 19 50 (xbGroup x) (xbGroup y) x.bks y.bks)):=by
 show LoopOk Try.prog 100 [2,3,5] (lpS [2,3,4] _)
 refine lp_mk okp (W:=howOf Z0 Zp [] [] [] []) kn_none lp_none ?_
 intro c n vals obs K h
 split at h<;>try exact h.elim
 obtain⟨hc,hn,hv2,ho,hl,hA,hE⟩:=h
 subst hc;subst hn;subst ho
 simp only[List.cons.injEq]at hv2
 obtain⟨rfl,rfl,rfl⟩:=hv2
 refine⟨StQ x.bks y.bks,2,300,fun a=>x.bks.length-a.1,ISm (xbGroup x) (xbGroup y),fun _ e v o=>RSm (xbGroup x) (xbGroup y) x.bks y.bks e v o,⟨0,⟨Nat.zero_le _,rfl⟩⟩,rfl,Wk.refl _ _ _ _,?_,rndSGroup x y hx hl⟩
 intro e v o hR
 rcases hR with⟨h1,rfl,rfl,rfl⟩ | ⟨h1,rfl,rfl,rfl⟩
 ·exact hA h1
 ·exact hE h1
theorem smGroupC(x y:OGroup):Is (gSmGroup (real Try.prog) (LSr 19 50 (xbGroup x) (xbGroup y) x.bks y.bks) x.id y.id (x.kind:Int) (y.kind:Int) x.fld y.fld (rowsOf cBucket x.bks) (rowsOf cBucket y.bks) (fun v=>∃b:Bool,v = .bool b/\(b=true↔x=y))):=by
 refine⟨?_⟩
 rw[gSmGroup_eq]
 refine n_dlen x.bks.length (rowsOf_len _ _) (n_dlen y.bks.length (rowsOf_len _ _) (n_neN (fun h=>⟨false,rfl,no_eq (fun z:OGroup=>z.bks.length) h⟩) (fun hlen=>⟨rfl,rfl,rfl,rfl,hlen,fun hl=>?_,fun h=>⟨false,rfl,no_eq (fun z:OGroup=>z.bks) h⟩⟩)))
 exact n_eql (fun e_id=>n_eqN (fun e_kind=>n_eql (fun e_fld=>⟨true,rfl,⟨fun _=>sm_ofGroup hl e_id e_kind e_fld,fun _=>rfl⟩⟩) (fun h=>⟨false,rfl,no_eq (fun z:OGroup=>z.fld) h⟩)) (fun h=>⟨false,rfl,no_eq (fun z:OGroup=>z.kind) h⟩)) (fun h=>⟨false,rfl,no_eq (fun z:OGroup=>z.id) h⟩)
theorem smGroupH(x y:OGroup)(hx:fitGroup x):∃b:Bool,(b=true↔x=y)/\∀B H,CallH Try.prog 100 B 19 [vGroup x,vGroup y] H (.returned (.bool b)) H:=
 pu_mkB2 kn_none (lp_ok (fun z hz=>by simp only[List.mem_singleton]at hz;subst hz;exact lpSGroup x y hx)) rfl (smGroupC x y)
theorem aeMeter(x y:OMeter):allEq [(x.id,y.id),(x.rate,y.rate),(x.burst,y.burst)]=true↔x=y:=by
 cases x;cases y
 simp[allEq]<;>omega
theorem smMeterC(x y:OMeter):Is (gSmMeter (real Try.prog) x.id y.id x.rate y.rate x.burst y.burst (fun v=>∃b:Bool,v = .bool b/\(b=true↔x=y))):=by
 refine⟨?_⟩
 rw[gSmMeter_eq]
 exact n_agEql (ps:=[(x.id,y.id),(x.rate,y.rate),(x.burst,y.burst)]) (by kernel_rfl) (by kernel_rfl) rfl rfl (fun h=>⟨true,rfl,⟨fun _=>(aeMeter x y).1 h,fun _=>rfl⟩⟩) (fun h=>⟨false,rfl,⟨fun e=>(by cases e),fun e=>by rw[(aeMeter x y).2 e]at h;cases h⟩⟩)
theorem smMeterH(x y:OMeter):∃b:Bool,(b=true↔x=y)/\∀B H,CallH Try.prog 100 B 21 [vMeter x,vMeter y] H (.returned (.bool b)) H:=pu_mkB2 kn_none lp_none rfl (smMeterC x y)
theorem aeRegs(x y:ORegs):allEq [(x.id,y.id),(x.size,y.size)]=true↔x=y:=by
 cases x;cases y
 simp[allEq]<;>omega
theorem smRegsC(x y:ORegs):Is (gSmRegs (real Try.prog) x.id y.id x.size y.size (fun v=>∃b:Bool,v = .bool b/\(b=true↔x=y))):=by
 refine⟨?_⟩
 rw[gSmRegs_eq]
 exact n_agEql (ps:=[(x.id,y.id),(x.size,y.size)]) (by kernel_rfl) (by kernel_rfl) rfl rfl (fun h=>⟨true,rfl,⟨fun _=>(aeRegs x y).1 h,fun _=>rfl⟩⟩) (fun h=>⟨false,rfl,⟨fun e=>(by cases e),fun e=>by rw[(aeRegs x y).2 e]at h;cases h⟩⟩)
theorem smRegsH(x y:ORegs):∃b:Bool,(b=true↔x=y)/\∀B H,CallH Try.prog 100 B 23 [vRegs x,vRegs y] H (.returned (.bool b)) H:=pu_mkB2 kn_none lp_none rfl (smRegsC x y)
end
end Go.Proofs.Ytblbaohcelldpaa.Ob
namespace Go.Abs
open Go
noncomputable section
section
variable {P:Program}
def allB(n0:Nat):List (Option AObj)->Bool
 | []=>true
 |o::l=>belowO n0 o&&allB n0 l
theorem allB_at{n0:Nat}:∀ {l:List (Option AObj)},allB n0 l=true->∀(i:Nat) o,l[i]?=some (some o)->belowO n0 (some o)=true
 | [],_,i,o,h=>by simp at h
 |x::l,hb,0,o,h=>by
  simp only[allB,Bool.and_eq_true]at hb
  simp only[List.getElem?_cons_zero,Option.some.injEq]at h;subst h;exact hb.1
 |x::l,hb,i+1,o,h=>by
  simp only[allB,Bool.and_eq_true]at hb
  exact allB_at hb.2 i o (by simpa using h)
def roundK(k0:Nat)(live live2:List Nat)(N:Nat)(back:List Value->List (Option AObj)->Prop)(out:Exit->List Value->Prop):Res->Prop
 | .ex e s=>match Nat.beq s.ts.n N&&(Nat.ble (100+k0) s.h.next&&allB (100+k0) ((objsOf 100 s.h).take k0))with
  |true=>s.ds=[]/\match e with
   | .normal=>match belowL (100+k0) (live.map s.ts.get)with
    |true=>back (live.map s.ts.get) ((objsOf 100 s.h).take k0)
    |false=>False
   | .exit id=>match belowL (100+k0) (live2.map s.ts.get)with
    |true=>out (.exit id) (live2.map s.ts.get)
    |false=>False
   | .ret=>match belowL (100+k0) (live2.map s.ts.get)with
    |true=>out .ret (live2.map s.ts.get)
    |false=>False
   |_=>False
  |false=>False
 |_=>False
theorem weak_none:∀l:List (Option AObj),WeakOs l (l.map fun _=>none)
 | [] => .nil
 |o::l => .cons (.none o) (weak_none l)
theorem wk_first{k0:Nat}{vals:List Value}{objs:List (Option AObj)}(hk:k0<=objs.length)(hv:belowL (100+k0) vals=true)(ho:allB (100+k0) (objs.take k0)=true):Wk 100 (100+k0) vals objs vals (objs.take k0):=by
 have h:=wk_drop (G:=100) (k0:=k0) (vals:=vals) (pre:=objs.take k0) (extra:=objs.drop k0) (by rw[List.length_take];omega) hv (allB_at ho)
 rw[List.take_append_drop]at h;exact h
theorem map_none{α β:Type}:∀ {l:List α} {m:List β},l.length=m.length->(l.map fun _=>(none:Option AObj))=m.map fun _=>none
 | [],[],_=>rfl
 |a::l,b::m,h=>by simp only[List.map_cons,map_none (l:=l) (m:=m) (by simpa using h)]
theorem lp_mkK (hP:okProg P 100=true) {W:How} (hkn:KnOk P 100 W) (hlp:LpOk P 100 W) {live live2:List Nat} {F:LF}
    (h:∀c n vals obs K,F c n vals obs K->∃(α:Type) (fuel:Nat) (m:α->Nat) (I:α->List Value×List (Option AObj)) (R:α->Exit->List Value->Prop) (a:α),Wk 100 (100+obs.length) vals obs (I a).1 (I a).2/\(∀e v,R a e v->K e v (obs.map fun _=>none))/\
      ∀a,Is (wpe P (real P) W fuel (.code false c (stOf 100 n live [] (I a))) (roundK obs.length live live2 n
      (fun vals objs=>∃a',m a' < m a/\vals=(I a').1/\objs=(I a').2/\∀e v,R a' e v->R a e v)
      (fun e v=>R a e v)))):LoopOk P 100 live (lpS live2 F):=by
  intro c n vals ds hh Q hs
  unfold lpS at hs
  split at hs
  · split at hs
    · rename_i hle
      obtain⟨α,fuel,m,I,R,a,h2,h3,h4⟩:=h _ _ _ _ _ hs
      let R2:α->Exit->List Value->List (Option AObj)->Prop:=fun a e v o=>R a e v/\o=(objsOf 100 hh).map fun _=>none
      have hbody:∀a,∃r,(∀B,Holds P 100 B (.code false c (stOf 100 n live [] (I a))) r)/\RoundQ 100 (objsOf 100 hh).length n live live2 [] m I R2 a r:=by
        intro a
        obtain⟨r,g1,g2⟩:=wpe_ok hP hkn hlp _ _ _ (h4 a).out
        refine⟨r,g1,?_⟩
        cases r with
        |en _ _ _=>exact g2.elim
        |ex e s=>
          simp only[roundK]at g2
          split at g2
          · rename_i hc
            simp only[Bool.and_eq_true]at hc
            obtain⟨hc1,hc2,hc3⟩:=hc
            have hc2:=Nat.le_of_ble_eq_true hc2
            have hlen:(objsOf 100 hh).length<=(objsOf 100 s.h).length:=by rw[objsOf_len 100 s.h];omega
            have hout:∀e v,belowL (100+(objsOf 100 hh).length) v=true->R a e v->∃v' o,Wk 100 (100+(objsOf 100 hh).length) v (objsOf 100 s.h) v' o/\R2 a e v' o:=by
              intro e v hb hr
              have hl2:((objsOf 100 s.h).take (objsOf 100 hh).length).length=(objsOf 100 hh).length:=by rw[List.length_take];omega
              refine⟨v,_,(wk_first hlen hb hc3).trans (wk_weak (WeakL.refl _) (weak_none _)),hr,map_none hl2⟩
            obtain⟨hds,g2⟩:=g2
            refine⟨by omega,Nat.eq_of_beq_eq_true hc1,hds,?_⟩
            cases e<;>try exact g2.elim
            · simp only at g2
              split at g2
              · rename_i hb
                obtain⟨a',k1,k2,k3,k4⟩:=g2
                exact⟨a',k1,by rw[←k2,←k3];exact wk_first hlen hb hc3,fun e v o ⟨r1,r2⟩=>⟨k4 e v r1,r2⟩⟩
              · exact g2.elim
            · simp only at g2
              split at g2
              · rename_i hb;exact⟨rfl,hout _ _ hb g2⟩
              · exact g2.elim
            · simp only at g2
              split at g2
              · rename_i hb;exact⟨rfl,hout _ _ hb g2⟩
              · exact g2.elim
          · exact g2.elim
      obtain⟨e,v,o,g1,g2⟩:=loop_rule (ds:=[]) rfl (R:=R2) (m:=m) hbody a rfl h2
      exact⟨_,fun B=>holds_objs (Nat.le_of_ble_eq_true hle) (g2 B),by obtain⟨r1,r2⟩:=g1;subst r2;exact h3 _ _ r1⟩
    · exact hs.elim
  · exact hs.elim
end
end
end Go.Abs
