/- . -/
import Derived.Test.YtblbaohcelldpaaGreatDoorU7
import Derived.Test.YtblbaohcelldpaaGreatDoorS6
import Derived.Test.YtblbaohcelldpaaGreatDoorWH
set_option linter.all false
set_option maxRecDepth 100000
namespace Go.Proofs.Ob
open Go Go.Abs Go.Tlv
noncomputable section
theorem NS{α:Type}{l m:List α}{i:Nat}{a:α}(h:l.take i=m.take i)(h1:l[i]?=some a)(h2:m[i]?=some a):l.take (i+1)=m.take (i+1):=by
 rw[List.take_add_one,List.take_add_one,h,h1,h2]
structure AKm{α:Type}(l m:List α)(i:Nat):Prop where
 le:i<=l.length
 eq:l.take i=m.take i
abbrev StQ{α:Type}(l m:List α):={i:Nat // AKm l m i}
def ISm(oa ob:AJ){α:Type}{l m:List α}(i:StQ l m):Lv×Lo:=([pA 100,pA 101,.int .i64 (i.1:Int)],[some oa,some ob])
def RSm(oa ob:AJ){α:Type}(l m:List α)(e:Exit)(v:Lv)(o:Lo):Prop:=
 (l=m/\e = .exit 0/\v=[pA 100,pA 101,top]/\o=[some oa,some ob])∨(l≠m/\e = .ret/\v=[top,top,.bool false]/\o=[none,none])
theorem uE{a b:Value}{oa ob:AJ}:Wk 100 102 [a,b,.bool false] [some oa,some ob] [top,top,.bool false] [none,none]:=
 CQ (.cons (.top _) (.cons (.top _) (.cons (.refl _) .nil))) (.cons (.none _) (.cons (.none _) .nil))
def LSr(f nt:Nat)(oa ob:AJ){α:Type}(l m:List α):LSm:=fun c n AB obs A E=>c=AO Tryz.prog f 4/\n=nt/\AB=[pA 100,pA 101,.int .i64 (0:Int)]/\obs=[some oa,some ob]/\l.length=m.length/\(l=m->A)/\(l≠m->E)
abbrev MSm:=Value->Value->Prop->Prop->Prop
def AHS(v:Value):Value:=match v with
 | .slice none 0 _=>dsl []
 |v=>v
def AHT:Lv->Lv
 | []=>[]
 |v::l=>AHS v::AHT l
def AFw(v:Value):Value:=match v with
 | .agg ⟨l⟩ => .agg ⟨AHT l⟩
 |v=>v
theorem ABB(v:Value):EI v (AHS v):=by
 unfold AHS;split
 ·exact EI.nilD
 ·exact EI.refl _
theorem kH:∀l:Lv,BR l (AHT l)
 | [] => .nil
 |v::l => .cons (ABB v) (kH l)
theorem kI(v:Value):EI v (AFw v):=by
 unfold AFw;split
 ·exact .agg (kH _)
 ·exact EI.refl _
def sSm(M:MSm):Lv->(Value->Prop)->Prop
 | [v,w],K=>M (AFw v) (AFw w) (K (.bool true)) (K (.bool false))
 |_,_=>False
theorem LX{W:How}(hkn:QP Tryz.prog 100 W)(hlp:QQ Tryz.prog 100 W){f:FuncId}{args:Lv}{n:Nat}{Q:Bool->Prop}(ha:A8 100 args=true)
  (h:Is (wpe Tryz.prog (real Tryz.prog) W n (.call f args h0) (II fun v'=>∃b:Bool,v' = .bool b/\Q b))):∃b:Bool,Q b/\∀B H,BP Tryz.prog 100 B f args H (.returned (.bool b)) H:=by
 obtain⟨r,h1,h2⟩:=UD okp hkn hlp n _ _ h.out
 unfold II at h2
 split at h2
 ·rename_i v' u h'
  split at h2
  ·rename_i hc
   simp only[Bool.and_eq_true]at hc
   obtain⟨b,rfl,hb⟩:=h2
   exact⟨b,hb,fun B H=>NQ (fun B=>GZ (ins:=[]) (P8 (Nat.le_of_ble_eq_true hc.1) (h1 B)) (F5 rfl)) ha rfl B H⟩
  ·exact h2.elim
 ·exact h2.elim
theorem DF{α:Type}{β:Type}{x y:α}(f:α->β)(h:¬f x=f y):(false=true↔x=y):=⟨fun e=>(by cases e),fun e=>absurd (by rw[e]) h⟩
theorem AGl(a b:Arm):allEq [((a.v:Int),(b.v:Int)),(a.nx,b.nx)]=true↔a=b:=by
 cases a;cases b
 simp[allEq]<;>omega
theorem yG(a b:Instr):allEq [((a.op:Int),(b.op:Int)),(a.to,b.to),((a.ak:Int),(b.ak:Int)),((a.an:Int),(b.an:Int)),((a.bk:Int),(b.bk:Int)),((a.bn:Int),(b.bn:Int)),(a.n,b.n)]=true↔a=b:=by
 cases a;cases b
 simp[allEq]<;>omega
theorem o9(a b:EP):allEq [((a.w:Int),(b.w:Int)),(a.b,b.b)]=true↔a=b:=by
 cases a;cases b
 simp[allEq]<;>omega
theorem ABu{x y:DX}(hl:x.arms=y.arms)(e_id:x.id=y.id)(e_size:x.size=y.size)(e_lo:x.lo=y.lo)(e_lw:x.lw=y.lw)(e_lu:x.lu=y.lu)(e_so:x.so=y.so)(e_sw:x.sw=y.sw)(e_ot:x.ot=y.ot):x=y:=by
 cases x;cases y
 simp_all
theorem ADw(x y:DX)(hx:O0 x)(hl:x.arms.length=y.arms.length)(i:StQ x.arms y.arms):
  Is (wpe Tryz.prog (real Tryz.prog) (AU Z0 Zp [] [] [] []) 300 (.code false (AO Tryz.prog 42 4) (C9 100 85 [2,3,5] [] (ISm (GX x) (GX y) i))) (BM 100 [2,3,5] [2,3,4] 85 []
   (fun AB AL=>∃a':StQ x.arms y.arms,x.arms.length-a'.1<x.arms.length-i.1/\Wk 100 (100+2) AB AL (ISm (GX x) (GX y) a').1 (ISm (GX x) (GX y) a').2/\∀e v o,RSm (GX x) (GX y) x.arms y.arms e v o->RSm (GX x) (GX y) x.arms y.arms e v o)
   (fun e AB AL=>∃v o,Wk 100 (100+2) AB AL v o/\RSm (GX x) (GX y) x.arms y.arms e v o))):=by
 refine⟨?_⟩
 obtain⟨i,inv⟩:=i
 have hi:=inv.le
 have hb:x.arms.length<1000000000:=hx
 show rA (real Tryz.prog) x.id y.id x.size y.size x.lo y.lo x.lw y.lw x.lu y.lu x.so y.so x.sw y.sw (rowsOf FV x.arms) (rowsOf FV y.arms) x.ot y.ot (i:Int) _ _
 rw[rC]
 refine CL x.arms.length (BJ _ _) (DW (fun hlt=>?_) (fun hge=>?_))
 ·have ha:x.arms[i]?=some x.arms[i]:=List.getElem?_eq_getElem hlt
  have hlt2:i<y.arms.length:=by omega
  have hb2:y.arms[i]?=some y.arms[i]:=List.getElem?_eq_getElem hlt2
  generalize x.arms[i]=a at ha
  generalize y.arms[i]=b at hb2
  have hms:x.arms.length-(i+1)<x.arms.length-i:=by omega
  refine EG i rfl (E5 ha) rfl (EN rfl (EN rfl (EG i rfl (E5 hb2) rfl (EN rfl (EN rfl (nJ (ps:=[((a.v:Int),(b.v:Int)),(a.nx,b.nx)]) (by kernel_rfl) (by kernel_rfl) rfl rfl (fun h=>?_) (fun h=>?_)))))))
  ·have hne:a≠b:=(fun e=>by rw[(AGl a b).2 e]at h;cases h)
   exact⟨rfl,_,_,uE,.inr ⟨fun e=>hne (by rw[e,hb2]at ha;simpa using ha.symm),rfl,rfl,rfl⟩⟩
  ·have he:a=b:=(AGl a b).1 h
   subst he
   exact BS (by omega) ⟨rfl,⟨i+1,⟨hlt,NS inv.eq ha hb2⟩⟩,hms,Wk.refl _ _ _ _,fun _ _ _ h=>h⟩
 ·have e:i=x.arms.length:=by omega
  have h:=inv.eq
  rw[e,List.take_length,hl,List.take_length]at h
  exact⟨rfl,_,_,Wk.refl _ _ _ _,.inl ⟨h,rfl,rfl,rfl⟩⟩
theorem AFn(x y:DX)(hx:O0 x):BH Tryz.prog 100 [2,3,5] (gX (LSr 42 85 (GX x) (GX y) x.arms y.arms)):=by
 show BH Tryz.prog 100 [2,3,5] (lpS [2,3,4] _)
 refine FW okp (W:=AU Z0 Zp [] [] [] []) DR BN ?_
 intro c n AB obs K h
 split at h<;>try exact h.elim
 obtain⟨hc,hn,hv2,ho,hl,hA,hE⟩:=h
 subst hc;subst hn;subst ho
 simp only[List.cons.injEq]at hv2
 obtain⟨rfl,rfl,rfl⟩:=hv2
 refine⟨StQ x.arms y.arms,2,300,fun a=>x.arms.length-a.1,ISm (GX x) (GX y),fun _ e v o=>RSm (GX x) (GX y) x.arms y.arms e v o,⟨0,⟨Nat.zero_le _,rfl⟩⟩,rfl,Wk.refl _ _ _ _,?_,ADw x y hx hl⟩
 intro e v o hR
 rcases hR with⟨h1,rfl,rfl,rfl⟩ | ⟨h1,rfl,rfl,rfl⟩
 ·exact hA h1
 ·exact hE h1
theorem AF0(x y:DX):Is (yV (real Tryz.prog) (LSr 42 85 (GX x) (GX y) x.arms y.arms) x.id y.id x.size y.size x.lo y.lo x.lw y.lw x.lu y.lu x.so y.so x.sw y.sw (rowsOf FV x.arms) (rowsOf FV y.arms) x.ot y.ot (fun v=>∃b:Bool,v = .bool b/\(b=true↔x=y))):=by
 refine⟨?_⟩
 rw[vE]
 refine CL x.arms.length (BJ _ _) (CL y.arms.length (BJ _ _) (N9 (fun h=>⟨false,rfl,DF (fun z:DX=>z.arms.length) h⟩) (fun hlen=>⟨rfl,rfl,rfl,rfl,hlen,fun hl=>?_,fun h=>⟨false,rfl,DF (fun z:DX=>z.arms) h⟩⟩)))
 exact HY (fun e_id=>HY (fun e_size=>HY (fun e_lo=>HY (fun e_lw=>HY (fun e_lu=>HY (fun e_so=>HY (fun e_sw=>HY (fun e_ot=>⟨true,rfl,⟨fun _=>ABu hl e_id e_size e_lo e_lw e_lu e_so e_sw e_ot,fun _=>rfl⟩⟩) (fun h=>⟨false,rfl,DF (fun z:DX=>z.ot) h⟩)) (fun h=>⟨false,rfl,DF (fun z:DX=>z.sw) h⟩)) (fun h=>⟨false,rfl,DF (fun z:DX=>z.so) h⟩)) (fun h=>⟨false,rfl,DF (fun z:DX=>z.lu) h⟩)) (fun h=>⟨false,rfl,DF (fun z:DX=>z.lw) h⟩)) (fun h=>⟨false,rfl,DF (fun z:DX=>z.lo) h⟩)) (fun h=>⟨false,rfl,DF (fun z:DX=>z.size) h⟩)) (fun h=>⟨false,rfl,DF (fun z:DX=>z.id) h⟩)
theorem AF1(x y:DX)(hx:O0 x):∃b:Bool,(b=true↔x=y)/\∀B H,BP Tryz.prog 100 B 42 [QM x,QM y] H (.returned (.bool b)) H:=
 LX DR (E9 (fun z hz=>by simp only[List.mem_singleton]at hz;subst hz;exact AFn x y hx)) rfl (AF0 x y)
theorem yF(x y:EJ):allEq [(x.id,y.id),((x.base:Int),(y.base:Int)),(x.node,y.node),(x.off,y.off),(x.wid,y.wid)]=true↔x=y:=by
 cases x;cases y
 simp[allEq]<;>omega
theorem ADO(x y:EJ):Is (qW (real Tryz.prog) x.id y.id (x.base:Int) (y.base:Int) x.node y.node x.off y.off x.wid y.wid (fun v=>∃b:Bool,v = .bool b/\(b=true↔x=y))):=by
 refine⟨?_⟩
 rw[qX]
 exact nI (ps:=[(x.id,y.id),((x.base:Int),(y.base:Int)),(x.node,y.node),(x.off,y.off),(x.wid,y.wid)]) (by kernel_rfl) (by kernel_rfl) rfl rfl (fun h=>⟨true,rfl,⟨fun _=>(yF x y).1 h,fun _=>rfl⟩⟩) (fun h=>⟨false,rfl,⟨fun e=>(by cases e),fun e=>by rw[(yF x y).2 e]at h;cases h⟩⟩)
theorem ADP(x y:EJ):∃b:Bool,(b=true↔x=y)/\∀B H,BP Tryz.prog 100 B 43 [LC x,LC y] H (.returned (.bool b)) H:=LX DR BN rfl (ADO x y)
theorem wT{x y:DC}(hl:x.keys=y.keys)(e_id:x.id=y.id)(e_kind:x.kind=y.kind)(e_cap:x.cap=y.cap)(e_miss:x.miss=y.miss):x=y:=by
 cases x;cases y
 simp_all
theorem ABg(x y:DC)(hx:MU x)(hl:x.keys.length=y.keys.length)(i:StQ x.keys y.keys):
  Is (wpe Tryz.prog (real Tryz.prog) (AU Z0 Zp [] [] [] []) 300 (.code false (AO Tryz.prog 44 4) (C9 100 57 [2,3,5] [] (ISm (FO x) (FO y) i))) (BM 100 [2,3,5] [2,3,4] 57 []
   (fun AB AL=>∃a':StQ x.keys y.keys,x.keys.length-a'.1<x.keys.length-i.1/\Wk 100 (100+2) AB AL (ISm (FO x) (FO y) a').1 (ISm (FO x) (FO y) a').2/\∀e v o,RSm (FO x) (FO y) x.keys y.keys e v o->RSm (FO x) (FO y) x.keys y.keys e v o)
   (fun e AB AL=>∃v o,Wk 100 (100+2) AB AL v o/\RSm (FO x) (FO y) x.keys y.keys e v o))):=by
 refine⟨?_⟩
 obtain⟨i,inv⟩:=i
 have hi:=inv.le
 have hb:x.keys.length<1000000000:=hx
 show jE (real Tryz.prog) x.id y.id (x.kind:Int) (y.kind:Int) (rowsOf G7 x.keys) (rowsOf G7 y.keys) x.cap y.cap x.miss y.miss (i:Int) _ _
 rw[mP]
 refine CL x.keys.length (BJ _ _) (DW (fun hlt=>?_) (fun hge=>?_))
 ·have ha:x.keys[i]?=some x.keys[i]:=List.getElem?_eq_getElem hlt
  have hlt2:i<y.keys.length:=by omega
  have hb2:y.keys[i]?=some y.keys[i]:=List.getElem?_eq_getElem hlt2
  generalize x.keys[i]=a at ha
  generalize y.keys[i]=b at hb2
  have hms:x.keys.length-(i+1)<x.keys.length-i:=by omega
  refine EG i rfl (E5 ha) rfl (EN rfl (EG i rfl (E5 hb2) rfl (EN rfl (dY (fun h=>?_) (fun h=>?_)))))
  ·have hne:a≠b:=(fun e=>h (by rw[e]))
   exact⟨rfl,_,_,uE,.inr ⟨fun e=>hne (by rw[e,hb2]at ha;simpa using ha.symm),rfl,rfl,rfl⟩⟩
  ·have he:a=b:=(by omega)
   subst he
   exact BS (by omega) ⟨rfl,⟨i+1,⟨hlt,NS inv.eq ha hb2⟩⟩,hms,Wk.refl _ _ _ _,fun _ _ _ h=>h⟩
 ·have e:i=x.keys.length:=by omega
  have h:=inv.eq
  rw[e,List.take_length,hl,List.take_length]at h
  exact⟨rfl,_,_,Wk.refl _ _ _ _,.inl ⟨h,rfl,rfl,rfl⟩⟩
theorem ACO(x y:DC)(hx:MU x):BH Tryz.prog 100 [2,3,5] (gX (LSr 44 57 (FO x) (FO y) x.keys y.keys)):=by
 show BH Tryz.prog 100 [2,3,5] (lpS [2,3,4] _)
 refine FW okp (W:=AU Z0 Zp [] [] [] []) DR BN ?_
 intro c n AB obs K h
 split at h<;>try exact h.elim
 obtain⟨hc,hn,hv2,ho,hl,hA,hE⟩:=h
 subst hc;subst hn;subst ho
 simp only[List.cons.injEq]at hv2
 obtain⟨rfl,rfl,rfl⟩:=hv2
 refine⟨StQ x.keys y.keys,2,300,fun a=>x.keys.length-a.1,ISm (FO x) (FO y),fun _ e v o=>RSm (FO x) (FO y) x.keys y.keys e v o,⟨0,⟨Nat.zero_le _,rfl⟩⟩,rfl,Wk.refl _ _ _ _,?_,ABg x y hx hl⟩
 intro e v o hR
 rcases hR with⟨h1,rfl,rfl,rfl⟩ | ⟨h1,rfl,rfl,rfl⟩
 ·exact hA h1
 ·exact hE h1
theorem ADU(x y:DC):Is (rD (real Tryz.prog) (LSr 44 57 (FO x) (FO y) x.keys y.keys) x.id y.id (x.kind:Int) (y.kind:Int) (rowsOf G7 x.keys) (rowsOf G7 y.keys) x.cap y.cap x.miss y.miss (fun v=>∃b:Bool,v = .bool b/\(b=true↔x=y))):=by
 refine⟨?_⟩
 rw[rE]
 refine CL x.keys.length (BJ _ _) (CL y.keys.length (BJ _ _) (N9 (fun h=>⟨false,rfl,DF (fun z:DC=>z.keys.length) h⟩) (fun hlen=>⟨rfl,rfl,rfl,rfl,hlen,fun hl=>?_,fun h=>⟨false,rfl,DF (fun z:DC=>z.keys) h⟩⟩)))
 exact HY (fun e_id=>CG (fun e_kind=>HY (fun e_cap=>HY (fun e_miss=>⟨true,rfl,⟨fun _=>wT hl e_id e_kind e_cap e_miss,fun _=>rfl⟩⟩) (fun h=>⟨false,rfl,DF (fun z:DC=>z.miss) h⟩)) (fun h=>⟨false,rfl,DF (fun z:DC=>z.cap) h⟩)) (fun h=>⟨false,rfl,DF (fun z:DC=>z.kind) h⟩)) (fun h=>⟨false,rfl,DF (fun z:DC=>z.id) h⟩)
theorem ADV(x y:DC)(hx:MU x):∃b:Bool,(b=true↔x=y)/\∀B H,BP Tryz.prog 100 B 44 [LP x,LP y] H (.returned (.bool b)) H:=
 LX DR (E9 (fun z hz=>by simp only[List.mem_singleton]at hz;subst hz;exact ACO x y hx)) rfl (ADU x y)
theorem wR{x y:CJ}(hl:x.args=y.args)(e_tab:x.tab=y.tab)(e_key:x.key=y.key)(e_oth:x.oth=y.oth)(e_len:x.len=y.len)(e_prio:x.prio=y.prio)(e_blk:x.blk=y.blk)(e_idle:x.idle=y.idle)(e_hard:x.hard=y.hard)(e_cook:x.cook=y.cook)(e_tell:x.tell=y.tell):x=y:=by
 cases x;cases y
 simp_all
theorem ABe(x y:CJ)(hx:MP x)(hl:x.args.length=y.args.length)(i:StQ x.args y.args):
  Is (wpe Tryz.prog (real Tryz.prog) (AU Z0 Zp [] [] [] []) 300 (.code false (AO Tryz.prog 45 4) (C9 100 99 [2,3,5] [] (ISm (FM x) (FM y) i))) (BM 100 [2,3,5] [2,3,4] 99 []
   (fun AB AL=>∃a':StQ x.args y.args,x.args.length-a'.1<x.args.length-i.1/\Wk 100 (100+2) AB AL (ISm (FM x) (FM y) a').1 (ISm (FM x) (FM y) a').2/\∀e v o,RSm (FM x) (FM y) x.args y.args e v o->RSm (FM x) (FM y) x.args y.args e v o)
   (fun e AB AL=>∃v o,Wk 100 (100+2) AB AL v o/\RSm (FM x) (FM y) x.args y.args e v o))):=by
 refine⟨?_⟩
 obtain⟨i,inv⟩:=i
 have hi:=inv.le
 have hb:x.args.length<1000000000:=hx
 show jC (real Tryz.prog) x.tab y.tab x.key y.key x.oth y.oth x.len y.len x.prio y.prio x.blk y.blk (rowsOf CS x.args) (rowsOf CS y.args) x.idle y.idle x.hard y.hard (x.cook:Int) (y.cook:Int) x.tell y.tell (i:Int) _ _
 rw[mK]
 refine CL x.args.length (BJ _ _) (DW (fun hlt=>?_) (fun hge=>?_))
 ·have ha:x.args[i]?=some x.args[i]:=List.getElem?_eq_getElem hlt
  have hlt2:i<y.args.length:=by omega
  have hb2:y.args[i]?=some y.args[i]:=List.getElem?_eq_getElem hlt2
  generalize x.args[i]=a at ha
  generalize y.args[i]=b at hb2
  have hms:x.args.length-(i+1)<x.args.length-i:=by omega
  refine EG i rfl (E5 ha) rfl (EN rfl (EG i rfl (E5 hb2) rfl (EN rfl (dY (fun h=>?_) (fun h=>?_)))))
  ·have hne:a≠b:=(fun e=>h (by rw[e]))
   exact⟨rfl,_,_,uE,.inr ⟨fun e=>hne (by rw[e,hb2]at ha;simpa using ha.symm),rfl,rfl,rfl⟩⟩
  ·have he:a=b:=(by omega)
   subst he
   exact BS (by omega) ⟨rfl,⟨i+1,⟨hlt,NS inv.eq ha hb2⟩⟩,hms,Wk.refl _ _ _ _,fun _ _ _ h=>h⟩
 ·have e:i=x.args.length:=by omega
  have h:=inv.eq
  rw[e,List.take_length,hl,List.take_length]at h
  exact⟨rfl,_,_,Wk.refl _ _ _ _,.inl ⟨h,rfl,rfl,rfl⟩⟩
theorem ACM(x y:CJ)(hx:MP x):BH Tryz.prog 100 [2,3,5] (gX (LSr 45 99 (FM x) (FM y) x.args y.args)):=by
 show BH Tryz.prog 100 [2,3,5] (lpS [2,3,4] _)
 refine FW okp (W:=AU Z0 Zp [] [] [] []) DR BN ?_
 intro c n AB obs K h
 split at h<;>try exact h.elim
 obtain⟨hc,hn,hv2,ho,hl,hA,hE⟩:=h
 subst hc;subst hn;subst ho
 simp only[List.cons.injEq]at hv2
 obtain⟨rfl,rfl,rfl⟩:=hv2
 refine⟨StQ x.args y.args,2,300,fun a=>x.args.length-a.1,ISm (FM x) (FM y),fun _ e v o=>RSm (FM x) (FM y) x.args y.args e v o,⟨0,⟨Nat.zero_le _,rfl⟩⟩,rfl,Wk.refl _ _ _ _,?_,ABe x y hx hl⟩
 intro e v o hR
 rcases hR with⟨h1,rfl,rfl,rfl⟩ | ⟨h1,rfl,rfl,rfl⟩
 ·exact hA h1
 ·exact hE h1
theorem ADM(x y:CJ):Is (qU (real Tryz.prog) (LSr 45 99 (FM x) (FM y) x.args y.args) x.tab y.tab x.key y.key x.oth y.oth x.len y.len x.prio y.prio x.blk y.blk (rowsOf CS x.args) (rowsOf CS y.args) x.idle y.idle x.hard y.hard (x.cook:Int) (y.cook:Int) x.tell y.tell (fun v=>∃b:Bool,v = .bool b/\(b=true↔x=y))):=by
 refine⟨?_⟩
 rw[qV]
 refine CL x.args.length (BJ _ _) (CL y.args.length (BJ _ _) (N9 (fun h=>⟨false,rfl,DF (fun z:CJ=>z.args.length) h⟩) (fun hlen=>⟨rfl,rfl,rfl,rfl,hlen,fun hl=>?_,fun h=>⟨false,rfl,DF (fun z:CJ=>z.args) h⟩⟩)))
 exact HY (fun e_tab=>YW (fun h=>(fun e_key:x.key=y.key=>YW (fun h=>(fun e_oth:x.oth=y.oth=>HY (fun e_len=>HY (fun e_prio=>HY (fun e_blk=>HY (fun e_idle=>HY (fun e_hard=>CG (fun e_cook => .inl ⟨rfl,fun h=>(fun e_tell:x.tell=y.tell=>⟨true,rfl,⟨fun _=>wR hl e_tab e_key e_oth e_len e_prio e_blk e_idle e_hard e_cook e_tell,fun _=>rfl⟩⟩) (by simpa using h),fun h=>(fun h:¬x.tell=y.tell=>⟨false,rfl,DF (fun z:CJ=>z.tell) h⟩) (by simpa using h)⟩) (fun h=>⟨false,rfl,DF (fun z:CJ=>z.cook) h⟩)) (fun h=>⟨false,rfl,DF (fun z:CJ=>z.hard) h⟩)) (fun h=>⟨false,rfl,DF (fun z:CJ=>z.idle) h⟩)) (fun h=>⟨false,rfl,DF (fun z:CJ=>z.blk) h⟩)) (fun h=>⟨false,rfl,DF (fun z:CJ=>z.prio) h⟩)) (fun h=>⟨false,rfl,DF (fun z:CJ=>z.len) h⟩)) (NN h)) (fun h=>(fun h:¬x.oth=y.oth=>⟨false,rfl,DF (fun z:CJ=>z.oth) h⟩) (fun e=>h (by rw[e])))) (NN h)) (fun h=>(fun h:¬x.key=y.key=>⟨false,rfl,DF (fun z:CJ=>z.key) h⟩) (fun e=>h (by rw[e])))) (fun h=>⟨false,rfl,DF (fun z:CJ=>z.tab) h⟩)
theorem ADN(x y:CJ)(hx:MP x):∃b:Bool,(b=true↔x=y)/\∀B H,BP Tryz.prog 100 B 45 [LB x,LB y] H (.returned (.bool b)) H:=
 LX DR (E9 (fun z hz=>by simp only[List.mem_singleton]at hz;subst hz;exact ACM x y hx)) rfl (ADM x y)
theorem wQ{x y:D6}(hl:x.code=y.code)(e_id:x.id=y.id):x=y:=by
 cases x;cases y
 simp_all
theorem ABd(x y:D6)(hx:MM x)(hl:x.code.length=y.code.length)(i:StQ x.code y.code):
  Is (wpe Tryz.prog (real Tryz.prog) (AU Z0 Zp [] [] [] []) 300 (.code false (AO Tryz.prog 46 4) (C9 100 36 [2,3,5] [] (ISm (FL x) (FL y) i))) (BM 100 [2,3,5] [2,3,4] 36 []
   (fun AB AL=>∃a':StQ x.code y.code,x.code.length-a'.1<x.code.length-i.1/\Wk 100 (100+2) AB AL (ISm (FL x) (FL y) a').1 (ISm (FL x) (FL y) a').2/\∀e v o,RSm (FL x) (FL y) x.code y.code e v o->RSm (FL x) (FL y) x.code y.code e v o)
   (fun e AB AL=>∃v o,Wk 100 (100+2) AB AL v o/\RSm (FL x) (FL y) x.code y.code e v o))):=by
 refine⟨?_⟩
 obtain⟨i,inv⟩:=i
 have hi:=inv.le
 have hb:x.code.length<1000000000:=hx
 show jB (real Tryz.prog) x.id y.id (rowsOf CO x.code) (rowsOf CO y.code) (i:Int) _ _
 rw[mJ]
 refine CL x.code.length (BJ _ _) (DW (fun hlt=>?_) (fun hge=>?_))
 ·have ha:x.code[i]?=some x.code[i]:=List.getElem?_eq_getElem hlt
  have hlt2:i<y.code.length:=by omega
  have hb2:y.code[i]?=some y.code[i]:=List.getElem?_eq_getElem hlt2
  generalize x.code[i]=a at ha
  generalize y.code[i]=b at hb2
  have hms:x.code.length-(i+1)<x.code.length-i:=by omega
  refine EG i rfl (E5 ha) rfl (EN rfl (EN rfl (EN rfl (EN rfl (EN rfl (EN rfl (EN rfl (EG i rfl (E5 hb2) rfl (EN rfl (EN rfl (EN rfl (EN rfl (EN rfl (EN rfl (EN rfl (nJ (ps:=[((a.op:Int),(b.op:Int)),(a.to,b.to),((a.ak:Int),(b.ak:Int)),((a.an:Int),(b.an:Int)),((a.bk:Int),(b.bk:Int)),((a.bn:Int),(b.bn:Int)),(a.n,b.n)]) (by kernel_rfl) (by kernel_rfl) rfl rfl (fun h=>?_) (fun h=>?_)))))))))))))))))
  ·have hne:a≠b:=(fun e=>by rw[(yG a b).2 e]at h;cases h)
   exact⟨rfl,_,_,uE,.inr ⟨fun e=>hne (by rw[e,hb2]at ha;simpa using ha.symm),rfl,rfl,rfl⟩⟩
  ·have he:a=b:=(yG a b).1 h
   subst he
   exact BS (by omega) ⟨rfl,⟨i+1,⟨hlt,NS inv.eq ha hb2⟩⟩,hms,Wk.refl _ _ _ _,fun _ _ _ h=>h⟩
 ·have e:i=x.code.length:=by omega
  have h:=inv.eq
  rw[e,List.take_length,hl,List.take_length]at h
  exact⟨rfl,_,_,Wk.refl _ _ _ _,.inl ⟨h,rfl,rfl,rfl⟩⟩
theorem ACK(x y:D6)(hx:MM x):BH Tryz.prog 100 [2,3,5] (gX (LSr 46 36 (FL x) (FL y) x.code y.code)):=by
 show BH Tryz.prog 100 [2,3,5] (lpS [2,3,4] _)
 refine FW okp (W:=AU Z0 Zp [] [] [] []) DR BN ?_
 intro c n AB obs K h
 split at h<;>try exact h.elim
 obtain⟨hc,hn,hv2,ho,hl,hA,hE⟩:=h
 subst hc;subst hn;subst ho
 simp only[List.cons.injEq]at hv2
 obtain⟨rfl,rfl,rfl⟩:=hv2
 refine⟨StQ x.code y.code,2,300,fun a=>x.code.length-a.1,ISm (FL x) (FL y),fun _ e v o=>RSm (FL x) (FL y) x.code y.code e v o,⟨0,⟨Nat.zero_le _,rfl⟩⟩,rfl,Wk.refl _ _ _ _,?_,ABd x y hx hl⟩
 intro e v o hR
 rcases hR with⟨h1,rfl,rfl,rfl⟩ | ⟨h1,rfl,rfl,rfl⟩
 ·exact hA h1
 ·exact hE h1
theorem ADK(x y:D6):Is (qQ (real Tryz.prog) (LSr 46 36 (FL x) (FL y) x.code y.code) x.id y.id (rowsOf CO x.code) (rowsOf CO y.code) (fun v=>∃b:Bool,v = .bool b/\(b=true↔x=y))):=by
 refine⟨?_⟩
 rw[qR]
 refine CL x.code.length (BJ _ _) (CL y.code.length (BJ _ _) (N9 (fun h=>⟨false,rfl,DF (fun z:D6=>z.code.length) h⟩) (fun hlen=>⟨rfl,rfl,rfl,rfl,hlen,fun hl=>?_,fun h=>⟨false,rfl,DF (fun z:D6=>z.code) h⟩⟩)))
 exact HY (fun e_id=>⟨true,rfl,⟨fun _=>wQ hl e_id,fun _=>rfl⟩⟩) (fun h=>⟨false,rfl,DF (fun z:D6=>z.id) h⟩)
theorem ADL(x y:D6)(hx:MM x):∃b:Bool,(b=true↔x=y)/\∀B H,BP Tryz.prog 100 B 46 [LA x,LA y] H (.returned (.bool b)) H:=
 LX DR (E9 (fun z hz=>by simp only[List.mem_singleton]at hz;subst hz;exact ACK x y hx)) rfl (ADK x y)
theorem wS{x y:DL}(hl:x.bks=y.bks)(e_id:x.id=y.id)(e_kind:x.kind=y.kind)(e_fld:x.fld=y.fld):x=y:=by
 cases x;cases y
 simp_all
theorem ABf(x y:DL)(hx:MQ x)(hl:x.bks.length=y.bks.length)(i:StQ x.bks y.bks):
  Is (wpe Tryz.prog (real Tryz.prog) (AU Z0 Zp [] [] [] []) 300 (.code false (AO Tryz.prog 47 4) (C9 100 50 [2,3,5] [] (ISm (FN x) (FN y) i))) (BM 100 [2,3,5] [2,3,4] 50 []
   (fun AB AL=>∃a':StQ x.bks y.bks,x.bks.length-a'.1<x.bks.length-i.1/\Wk 100 (100+2) AB AL (ISm (FN x) (FN y) a').1 (ISm (FN x) (FN y) a').2/\∀e v o,RSm (FN x) (FN y) x.bks y.bks e v o->RSm (FN x) (FN y) x.bks y.bks e v o)
   (fun e AB AL=>∃v o,Wk 100 (100+2) AB AL v o/\RSm (FN x) (FN y) x.bks y.bks e v o))):=by
 refine⟨?_⟩
 obtain⟨i,inv⟩:=i
 have hi:=inv.le
 have hb:x.bks.length<1000000000:=hx
 show jD (real Tryz.prog) x.id y.id (x.kind:Int) (y.kind:Int) x.fld y.fld (rowsOf CF x.bks) (rowsOf CF y.bks) (i:Int) _ _
 rw[mM]
 refine CL x.bks.length (BJ _ _) (DW (fun hlt=>?_) (fun hge=>?_))
 ·have ha:x.bks[i]?=some x.bks[i]:=List.getElem?_eq_getElem hlt
  have hlt2:i<y.bks.length:=by omega
  have hb2:y.bks[i]?=some y.bks[i]:=List.getElem?_eq_getElem hlt2
  generalize x.bks[i]=a at ha
  generalize y.bks[i]=b at hb2
  have hms:x.bks.length-(i+1)<x.bks.length-i:=by omega
  refine EG i rfl (E5 ha) rfl (EN rfl (EN rfl (EG i rfl (E5 hb2) rfl (EN rfl (EN rfl (nJ (ps:=[((a.w:Int),(b.w:Int)),(a.b,b.b)]) (by kernel_rfl) (by kernel_rfl) rfl rfl (fun h=>?_) (fun h=>?_)))))))
  ·have hne:a≠b:=(fun e=>by rw[(o9 a b).2 e]at h;cases h)
   exact⟨rfl,_,_,uE,.inr ⟨fun e=>hne (by rw[e,hb2]at ha;simpa using ha.symm),rfl,rfl,rfl⟩⟩
  ·have he:a=b:=(o9 a b).1 h
   subst he
   exact BS (by omega) ⟨rfl,⟨i+1,⟨hlt,NS inv.eq ha hb2⟩⟩,hms,Wk.refl _ _ _ _,fun _ _ _ h=>h⟩
 ·have e:i=x.bks.length:=by omega
  have h:=inv.eq
  rw[e,List.take_length,hl,List.take_length]at h
  exact⟨rfl,_,_,Wk.refl _ _ _ _,.inl ⟨h,rfl,rfl,rfl⟩⟩
theorem ACN(x y:DL)(hx:MQ x):BH Tryz.prog 100 [2,3,5] (gX (LSr 47 50 (FN x) (FN y) x.bks y.bks)):=by
 show BH Tryz.prog 100 [2,3,5] (lpS [2,3,4] _)
 refine FW okp (W:=AU Z0 Zp [] [] [] []) DR BN ?_
 intro c n AB obs K h
 split at h<;>try exact h.elim
 obtain⟨hc,hn,hv2,ho,hl,hA,hE⟩:=h
 subst hc;subst hn;subst ho
 simp only[List.cons.injEq]at hv2
 obtain⟨rfl,rfl,rfl⟩:=hv2
 refine⟨StQ x.bks y.bks,2,300,fun a=>x.bks.length-a.1,ISm (FN x) (FN y),fun _ e v o=>RSm (FN x) (FN y) x.bks y.bks e v o,⟨0,⟨Nat.zero_le _,rfl⟩⟩,rfl,Wk.refl _ _ _ _,?_,ABf x y hx hl⟩
 intro e v o hR
 rcases hR with⟨h1,rfl,rfl,rfl⟩ | ⟨h1,rfl,rfl,rfl⟩
 ·exact hA h1
 ·exact hE h1
theorem ADQ(x y:DL):Is (qY (real Tryz.prog) (LSr 47 50 (FN x) (FN y) x.bks y.bks) x.id y.id (x.kind:Int) (y.kind:Int) x.fld y.fld (rowsOf CF x.bks) (rowsOf CF y.bks) (fun v=>∃b:Bool,v = .bool b/\(b=true↔x=y))):=by
 refine⟨?_⟩
 rw[qZ]
 refine CL x.bks.length (BJ _ _) (CL y.bks.length (BJ _ _) (N9 (fun h=>⟨false,rfl,DF (fun z:DL=>z.bks.length) h⟩) (fun hlen=>⟨rfl,rfl,rfl,rfl,hlen,fun hl=>?_,fun h=>⟨false,rfl,DF (fun z:DL=>z.bks) h⟩⟩)))
 exact HY (fun e_id=>CG (fun e_kind=>HY (fun e_fld=>⟨true,rfl,⟨fun _=>wS hl e_id e_kind e_fld,fun _=>rfl⟩⟩) (fun h=>⟨false,rfl,DF (fun z:DL=>z.fld) h⟩)) (fun h=>⟨false,rfl,DF (fun z:DL=>z.kind) h⟩)) (fun h=>⟨false,rfl,DF (fun z:DL=>z.id) h⟩)
theorem ADR(x y:DL)(hx:MQ x):∃b:Bool,(b=true↔x=y)/\∀B H,BP Tryz.prog 100 B 47 [LH x,LH y] H (.returned (.bool b)) H:=
 LX DR (E9 (fun z hz=>by simp only[List.mem_singleton]at hz;subst hz;exact ACN x y hx)) rfl (ADQ x y)
theorem yH(x y:EQ):allEq [(x.id,y.id),(x.rate,y.rate),(x.burst,y.burst)]=true↔x=y:=by
 cases x;cases y
 simp[allEq]<;>omega
theorem ADS(x y:EQ):Is (q8 (real Tryz.prog) x.id y.id x.rate y.rate x.burst y.burst (fun v=>∃b:Bool,v = .bool b/\(b=true↔x=y))):=by
 refine⟨?_⟩
 rw[q9]
 exact nI (ps:=[(x.id,y.id),(x.rate,y.rate),(x.burst,y.burst)]) (by kernel_rfl) (by kernel_rfl) rfl rfl (fun h=>⟨true,rfl,⟨fun _=>(yH x y).1 h,fun _=>rfl⟩⟩) (fun h=>⟨false,rfl,⟨fun e=>(by cases e),fun e=>by rw[(yH x y).2 e]at h;cases h⟩⟩)
theorem ADT(x y:EQ):∃b:Bool,(b=true↔x=y)/\∀B H,BP Tryz.prog 100 B 48 [LM x,LM y] H (.returned (.bool b)) H:=LX DR BN rfl (ADS x y)
theorem ABX(x y:GR):allEq [(x.id,y.id),(x.size,y.size)]=true↔x=y:=by
 cases x;cases y
 simp[allEq]<;>omega
theorem AF2(x y:GR):Is (yX (real Tryz.prog) x.id y.id x.size y.size (fun v=>∃b:Bool,v = .bool b/\(b=true↔x=y))):=by
 refine⟨?_⟩
 rw[vF]
 exact nI (ps:=[(x.id,y.id),(x.size,y.size)]) (by kernel_rfl) (by kernel_rfl) rfl rfl (fun h=>⟨true,rfl,⟨fun _=>(ABX x y).1 h,fun _=>rfl⟩⟩) (fun h=>⟨false,rfl,⟨fun e=>(by cases e),fun e=>by rw[(ABX x y).2 e]at h;cases h⟩⟩)
theorem AF3(x y:GR):∃b:Bool,(b=true↔x=y)/\∀B H,BP Tryz.prog 100 B 49 [QN x,QN y] H (.returned (.bool b)) H:=LX DR BN rfl (AF2 x y)
def AJ9(l:Lv):Heap:=hOf 100 [(0,.cells l 119 1 true false)] []
def syG(b:Nat):Option Bool:=match b with | 0=>some false|_=>none
def WOf:How:=AU syG (fun _=>false) [] [] [] []
def gOf(N:Nd)(l:Lv)(k t:Int)(K:Value->Prop):Prop:=wpe Tryz.prog N WOf 300 (.call 34 [(.int .u8 k),(.int .u8 t)] (AJ9 l)) (II K)
theorem AHj(N:Nd)(l:Lv)(k t:Int)(K:Value->Prop):gOf N l k t K=(N.conv 5 3 .u8 k .i64 (fun z0=>N.cmp .lss .i64 z0 .i64 47 (N.idx 47 0 1 k (fun o1=>N.rdI .u32 l o1 (fun z2=>N.ari .shr .u32 z2 .u8 t (fun z3=>N.ari .and .u32 z3 .u32 1 (fun z4=>N.cmp .eql .u32 z4 .u32 1 (K (.bool true)) (K (.bool false))))))) (K (.bool false)))):=by kernel_rfl
def fn2(f a b:Nat):Value := .func (.func f) ⟨[]⟩ ⟨[pA a,pA b]⟩
def bx(l:Lv)(t:Nat):Option AJ:=some (.cells l t 1 false true)
def bp(l:Lv):Option AJ:=some (.cells l 91 2 false true)
def AIR:Option AJ:=some (.cells [.nilFunc,.nilFunc,fn2 139 102 103,fn2 141 103 102,fn2 139 105 106,fn2 141 106 105,fn2 139 108 109,fn2 141 109 108,fn2 139 111 112,fn2 141 112 111,fn2 139 114 115,fn2 141 115 114,fn2 143 117 118,fn2 144 118 117,fn2 143 120 121,fn2 144 121 120,fnV 145,fnV 146,fnV 147,fnV 149,fn2 151 126 125,fn2 152 127 125,fn2 163 130 129,fn2 164 131 129,fn2 168 134 133,fn2 169 135 133,fn2 175 138 137,fn2 176 139 137,fn2 186 142 141,fn2 187 143 141,fn2 194 146 145,fn2 195 147 145,fn2 202 150 149,fn2 203 151 149,fn2 206 154 153,fn2 207 155 153] 92 36 false true)
def OC:Lo:=[AIR,bx [fnV 75] 128,bx [.int .u64 2147483647] 28,bp [fn2 139 102 103,fn2 141 103 102],bx [fnV 76] 128,bx [.int .u64 2147483647] 28,bp [fn2 139 105 106,fn2 141 106 105],bx [fnV 77] 128,bx [.int .u64 2147483647] 28,bp [fn2 139 108 109,fn2 141 109 108],bx [fnV 78] 128,bx [.int .u64 2147483647] 28,bp [fn2 139 111 112,fn2 141 112 111],bx [fnV 79] 128,bx [.int .u64 2147483647] 28,bp [fn2 139 114 115,fn2 141 115 114],bx [fnV 81] 131,bx [.int .u64 18446744073709551615] 28,bp [fn2 143 117 118,fn2 144 118 117],bx [fnV 82] 131,bx [.int .u64 18446744073709551615] 28,bp [fn2 143 120 121,fn2 144 121 120],bp [fnV 145,fnV 146],bp [fnV 147,fnV 149],bx [fnV 86] 135,bx [fnV 87] 136,bx [fnV 88] 137,bp [fn2 151 126 125,fn2 152 127 125],bx [fnV 90] 140,bx [fnV 91] 141,bx [fnV 92] 142,bp [fn2 163 130 129,fn2 164 131 129],bx [fnV 94] 145,bx [fnV 95] 146,bx [fnV 96] 147,bp [fn2 168 134 133,fn2 169 135 133],bx [fnV 98] 150,bx [fnV 99] 151,bx [fnV 100] 152,bp [fn2 175 138 137,fn2 176 139 137],bx [fnV 102] 155,bx [fnV 103] 156,bx [fnV 104] 157,bp [fn2 186 142 141,fn2 187 143 141],bx [fnV 106] 160,bx [fnV 107] 161,bx [fnV 108] 162,bp [fn2 194 146 145,fn2 195 147 145],bx [fnV 110] 165,bx [fnV 111] 166,bx [fnV 112] 167,bp [fn2 202 150 149,fn2 203 151 149],bx [fnV 114] 170,bx [fnV 115] 171,bx [fnV 116] 172,bp [fn2 206 154 153,fn2 207 155 153],AIR]
def lM(x:BB):Lv:=match JO x with
 | .agg ⟨l⟩=>l
 |_=>[]
def cM(x:BB):AJ := .cells (lM x) 51 52 false true
def XN:Lo:=List.replicate 58 none
abbrev MNm:=Int->(ByteArray->Prop)->Prop
abbrev MOf:=Int->Int->Prop->Prop->Prop
def sOf(M:MOf):Lv->(Value->Prop)->Prop
 | [.int .u8 k,.int .u8 t],K=>M k t (K (.bool true)) (K (.bool false))
 |_,_=>False
abbrev MPx:=Value->(ByteArray->Prop)->Prop->Prop
abbrev MW2:=Lv->(ByteArray->Bool->Prop)->Prop
structure MAt where
 n:MNm
 o:MOf
 w:MW2
 p0:MPx
 p1:MPx
 p2:MPx
 p3:MPx
 p4:MPx
 p5:MPx
 p6:MPx
 p7:MPx
def AKE(N:Nd)(M:MAt)(x:BB)(k:Nat)(ob:Option AJ)(t:Int)(s:ByteArray)(A R:Prop)(B:Lv->Nat->Prop):Prop:=
 N.scmp .neq s (bytesOf []) (M.o (x.a0:Int) t (N.scmp .neq s (bytesOf []) (N.base true k k ob 94 2 fun vs=>N.appX k vs 1 [.int .u8 t,.string s] 2 24 B) A) R) (N.scmp .neq s (bytesOf []) (N.base true k k ob 94 2 fun vs=>N.appX k vs 1 [.int .u8 t,.string s] 2 24 B) A)
end
end Go.Proofs.Ob
namespace Go.Tlv
open Go Go.Abs
theorem OZ{f:Nat->List UInt8}:∀(n j:Nat),BQ f (n+1) j=BQ f n j++OQ (j+n+1) (f (j+n+1))
 | 0,j=>by simp[BQ]
 |n+1,j=>by
  show OQ (j+1) (f (j+1))++BQ f (n+1) (j+1)=(OQ (j+1) (f (j+1))++BQ f n (j+1))++_
  rw[OZ n (j+1),List.append_assoc]
  rw[show j+1+n+1=j+(n+1)+1 by omega]
def hasB(k t:Nat):Bool:=decide (k<47)&&Nat.beq ((VT.getD k 0) / 2 ^ (min t 32) % 2) 1
def IX(x:BB):Nat->List UInt8
 | 1=>I5 (EL x.a2)
 | 2=>I5 (EL x.a3)
 | 3=>I5 (EL x.a4)
 | 4=>I5 (EL x.a5)
 | 5=>I5 (EL x.a6)
 | 6=>I5 x.a7
 | 7=>I5 x.a8
 | 8=>x.a9.data.toList
 | 9=>QB (x.a10.map OB)
 | 10=>if O4 x.n=true then encS (MC x.n)else[]
 | 11=>if M5 x.f=true then encS (JZ x.f)else[]
 | 12=>if M8 x.t=true then encS (J4 x.t)else[]
 | 13=>if M0 x.e=true then encS (JY x.e)else[]
 | 14=>if MZ x.b=true then encS (JX x.b)else[]
 | 15=>if M6 x.g=true then encS (J2 x.g)else[]
 | 16=>if M7 x.m=true then encS (J3 x.m)else[]
 | 17=>if O5 x.r=true then encS (MF x.r)else[]
 |_=>[]
def isM(x:BB):Nat->Bool
 | 1=>decide (EL x.a2<=2147483647)
 | 2=>decide (EL x.a3<=2147483647)
 | 3=>decide (EL x.a4<=2147483647)
 | 4=>decide (EL x.a5<=2147483647)
 | 5=>decide (EL x.a6<=2147483647)
 | 9=>decide (x.a10.length<=128)
 | 10=>O4 x.n
 | 11=>M5 x.f
 | 12=>M8 x.t
 | 13=>M0 x.e
 | 14=>MZ x.b
 | 15=>M6 x.g
 | 16=>M7 x.m
 | 17=>O5 x.r
 |_=>true
def goM(x:BB)(t:Nat):Bool:=isM x t&&((IX x t).isEmpty||hasB x.a0 t)
def allM(x:BB):Bool:=(List.range 17).all fun t=>goM x (t+1)
def ACE(k:Nat):Bool:=decide (1<=k)&&decide (k<=46)
def AFr(x:BB):Bool:=ACE x.a0&&allM x
def bY(x:BB):List At:=BQ (IX x) 17 0
theorem pE{x:BB}:allM x=true↔∀t,1<=t->t<=17->goM x t=true:=by
 unfold allM
 rw[List.all_eq_true]
 constructor
 ·intro h t h1 h2
  have:=h (t-1) (List.mem_range.2 (by omega))
  rwa[show t-1+1=t by omega]at this
 ·intro h t ht
  exact h (t+1) (by omega) (by have:=List.mem_range.1 ht;omega)
structure okP(x:BB):Prop where
 a0:x.a0<256
 a1:x.a1<4294967296
 a7:x.a7<18446744073709551616
 a8:x.a8<18446744073709551616
 w:x.a10.length<100000
 wn:∀y∈x.a10,AEa y
 n:O0 x.n/\wZ x.n
 f:XE x.f/\nZ x.f
 t:MU x.t/\oF x.t
 e:MP x.e/\nY x.e
 b:MM x.b/\nX x.b
 g:MQ x.g/\oC x.g
 m:XF x.m/\oD x.m
 r:bB x.r/\w9 x.r
end Go.Tlv
namespace Go.Proofs.Ob
open Go Go.Abs Go.Tlv
noncomputable section
def AAg:Sy:=fun b=>match Nat.beq b 101 with|true=>some true|false=>none
def MNr:MNm:=fun n K=>∃m:Nat,n=m/\m<18446744073709551616/\K (bytesOf (I5 m))
def wdS(x:BB):ByteArray:=bytesOf (QB (x.a10.map OB))
def MWr:MW2:=fun vs K=>∃x:BB,vs=lM x/\okP x/\K (wdS x) (isM x 9)
end
end Go.Proofs.Ob
