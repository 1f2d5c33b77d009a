/- . -/
import Derived.Test.YtblbaohcelldpaaGreatDoorU7
import Derived.Test.YtblbaohcelldpaaGreatDoorT15
import Derived.Test.YtblbaohcelldpaaGreatDoorWE
set_option linter.all false
set_option maxRecDepth 100000
namespace Go.Proofs.Ob
open Go Go.Abs Go.Tlv
noncomputable section
theorem M4{α:Type}{l m:List α}{i:Nat}{a:α}(h:l.take i=m.take i)(h1:l[i]?=some a)(h2:m[i]?=some a):l.take (i+1)=m.take (i+1):=by
 rw[List.take_add_one,List.take_add_one,h,h1,h2]
structure AQ6{α:Type}(l m:List α)(i:Nat):Prop where
 le:i<=l.length
 eq:l.take i=m.take i
abbrev StQ{α:Type}(l m:List α):={i:Nat // AQ6 l m i}
def ISm(oa ob:AA){α:Type}{l m:List α}(i:StQ l m):Lv×Lo:=([pA 100,pA 101,.int .i64 (i.1:Int)],[some oa,some ob])
def RSm(oa ob:AA){α:Type}(l m:List α)(e:Exit)(v:Lv)(o:Lo):Prop:=
 (l=m/\e = .exit 0/\v=[pA 100,pA 101,top]/\o=[some oa,some ob])∨(l≠m/\e = .ret/\v=[top,top,.bool false]/\o=[none,none])
theorem AAL{a b:Value}{oa ob:AA}:Wk 100 102 [a,b,.bool false] [some oa,some ob] [top,top,.bool false] [none,none]:=
 EX (.cons (.top _) (.cons (.top _) (.cons (.refl _) .nil))) (.cons (.none _) (.cons (.none _) .nil))
def LSr(f nt:Nat)(oa ob:AA){α:Type}(l m:List α):LSm:=fun c n AB obs A E=>c=AJ Tryz.prog f 4/\n=nt/\AB=[pA 100,pA 101,.int .i64 (0:Int)]/\obs=[some oa,some ob]/\l.length=m.length/\(l=m->A)/\(l≠m->E)
abbrev MSm:=Value->Value->Prop->Prop->Prop
def AMK(v:Value):Value:=match v with
 | .slice none 0 _=>dsl []
 |v=>v
def AML:Lv->Lv
 | []=>[]
 |v::l=>AMK v::AML l
def AHS(v:Value):Value:=match v with
 | .agg ⟨l⟩ => .agg ⟨AML l⟩
 |v=>v
theorem AF2(v:Value):FZ v (AMK v):=by
 unfold AMK;split
 ·exact FZ.nilD
 ·exact FZ.refl _
theorem q9:∀l:Lv,DT l (AML l)
 | [] => .nil
 |v::l => .cons (AF2 v) (q9 l)
theorem TU(v:Value):FZ v (AHS v):=by
 unfold AHS;split
 ·exact .agg (q9 _)
 ·exact FZ.refl _
def sSm(M:MSm):Lv->(Value->Prop)->Prop
 | [v,w],K=>M (AHS v) (AHS w) (K (.bool true)) (K (.bool false))
 |_,_=>False
def AD4{α:Type}(v:α->Value)(fit:α->Prop)(same:α->α->Prop):MSm:=fun a b A E=>∃x y:α,a=v x/\b=v y/\fit x/\fit y/\(same x y->A)/\(¬same x y->E)
theorem ANI{α:Type}{v:α->Value}{fit:α->Prop}{same:α->α->Prop}{f:FuncId}(h:∀x y,fit x->fit y->∃b:Bool,(b=true↔same x y)/\∀B H,BM Tryz.prog 100 B f [v x,v y] H (.returned (.bool b)) H):FY Tryz.prog 100 f (sSm (AD4 v fit same)):=by
 intro args K hs
 unfold sSm at hs
 split at hs<;>try exact hs.elim
 rename_i a b
 obtain⟨x,y,ha,hb,hx,hy,hA,hE⟩:=hs
 obtain⟨t,ht,hc⟩:=h x y hx hy
 refine⟨.bool t,fun B H=>PS (.cons (TU a) (.cons (TU b) .nil)) (by rw[ha,hb];exact hc B H),?_⟩
 cases t with
 |true=>exact hA (ht.1 rfl)
 |false=>exact hE (fun h=>by have:=ht.2 h;cases this)
theorem IZ{W:How}(hkn:OM Tryz.prog 100 W)(hlp:SN Tryz.prog 100 W){f:FuncId}{args:Lv}{n:Nat}{Q:Bool->Prop}(ha:BL 100 args=true)
  (h:Is (wpe Tryz.prog (real Tryz.prog) W n (.call f args h0) (J6 fun v'=>∃b:Bool,v' = .bool b/\Q b))):∃b:Bool,Q b/\∀B H,BM Tryz.prog 100 B f args H (.returned (.bool b)) H:=by
 obtain⟨r,h1,h2⟩:=ZN okp hkn hlp n _ _ h.out
 unfold J6 at h2
 split at h2
 ·rename_i v' u h'
  split at h2
  ·rename_i hc
   simp only[Bool.and_eq_true]at hc
   obtain⟨b,rfl,hb⟩:=h2
   exact⟨b,hb,fun B H=>QG (fun B=>IM (ins:=[]) (TB (Nat.le_of_ble_eq_true hc.1) (h1 B)) (LB rfl)) ha rfl B H⟩
  ·exact h2.elim
 ·exact h2.elim
theorem CS{α:Type}{β:Type}{x y:α}(f:α->β)(h:¬f x=f y):(false=true↔x=y):=⟨fun e=>(by cases e),fun e=>absurd (by rw[e]) h⟩
theorem AGs(a b:Arm):allEq [((a.v:Int),(b.v:Int)),(a.nx,b.nx)]=true↔a=b:=by
 cases a;cases b
 simp[allEq]<;>omega
theorem sD(a b:Instr):allEq [((a.op:Int),(b.op:Int)),(a.to,b.to),((a.ak:Int),(b.ak:Int)),((a.an:Int),(b.an:Int)),((a.bk:Int),(b.bk:Int)),((a.bn:Int),(b.bn:Int)),(a.n,b.n)]=true↔a=b:=by
 cases a;cases b
 simp[allEq]<;>omega
theorem jD(a b:DN):allEq [((a.w:Int),(b.w:Int)),(a.b,b.b)]=true↔a=b:=by
 cases a;cases b
 simp[allEq]<;>omega
theorem AAR{x y:EP}(hl:x.arms=y.arms)(e_id:x.id=y.id)(e_size:x.size=y.size)(e_lo:x.lo=y.lo)(e_lw:x.lw=y.lw)(e_lu:x.lu=y.lu)(e_so:x.so=y.so)(e_sw:x.sw=y.sw)(e_ot:x.ot=y.ot):x=y:=by
 cases x;cases y
 simp_all
theorem AIy(x y:EP)(hx:KQ x)(hl:x.arms.length=y.arms.length)(i:StQ x.arms y.arms):
  Is (wpe Tryz.prog (real Tryz.prog) (AP Z0 Zp [] [] [] []) 300 (.code false (AJ Tryz.prog 42 4) (CX 100 85 [2,3,5] [] (ISm (JS x) (JS y) i))) (A7 100 [2,3,5] [2,3,4] 85 []
   (fun AB AC=>∃a':StQ x.arms y.arms,x.arms.length-a'.1<x.arms.length-i.1/\Wk 100 (100+2) AB AC (ISm (JS x) (JS y) a').1 (ISm (JS x) (JS y) a').2/\∀e v o,RSm (JS x) (JS y) x.arms y.arms e v o->RSm (JS x) (JS y) x.arms y.arms e v o)
   (fun e AB AC=>∃v o,Wk 100 (100+2) AB AC v o/\RSm (JS x) (JS y) x.arms y.arms e v o))):=by
 refine⟨?_⟩
 obtain⟨i,inv⟩:=i
 have hi:=inv.le
 have hb:x.arms.length<1000000000:=hx
 show y9 (real Tryz.prog) x.id y.id x.size y.size x.lo y.lo x.lw y.lw x.lu y.lu x.so y.so x.sw y.sw (rowsOf D7 x.arms) (rowsOf D7 y.arms) x.ot y.ot (i:Int) _ _
 rw[zA]
 refine BI x.arms.length (AQ _ _) (EL (fun hlt=>?_) (fun hge=>?_))
 ·have ha:x.arms[i]?=some x.arms[i]:=List.getElem?_eq_getElem hlt
  have hlt2:i<y.arms.length:=by omega
  have hb2:y.arms[i]?=some y.arms[i]:=List.getElem?_eq_getElem hlt2
  generalize x.arms[i]=a at ha
  generalize y.arms[i]=b at hb2
  have hms:x.arms.length-(i+1)<x.arms.length-i:=by omega
  refine DK i rfl (CL ha) rfl (CG rfl (CG rfl (DK i rfl (CL hb2) rfl (CG rfl (CG rfl (eF (ps:=[((a.v:Int),(b.v:Int)),(a.nx,b.nx)]) (by kernel_rfl) (by kernel_rfl) rfl rfl (fun h=>?_) (fun h=>?_)))))))
  ·have hne:a≠b:=(fun e=>by rw[(AGs a b).2 e]at h;cases h)
   exact⟨rfl,_,_,AAL,.inr ⟨fun e=>hne (by rw[e,hb2]at ha;simpa using ha.symm),rfl,rfl,rfl⟩⟩
  ·have he:a=b:=(AGs a b).1 h
   subst he
   exact BZ (by omega) ⟨rfl,⟨i+1,⟨hlt,M4 inv.eq ha hb2⟩⟩,hms,Wk.refl _ _ _ _,fun _ _ _ h=>h⟩
 ·have e:i=x.arms.length:=by omega
  have h:=inv.eq
  rw[e,List.take_length,hl,List.take_length]at h
  exact⟨rfl,_,_,Wk.refl _ _ _ _,.inl ⟨h,rfl,rfl,rfl⟩⟩
theorem AKl(x y:EP)(hx:KQ x):BH Tryz.prog 100 [2,3,5] (nI (LSr 42 85 (JS x) (JS y) x.arms y.arms)):=by
 show BH Tryz.prog 100 [2,3,5] (lpS [2,3,4] _)
 refine FQ okp (W:=AP Z0 Zp [] [] [] []) DC AZ ?_
 intro c n AB obs K h
 split at h<;>try exact h.elim
 obtain⟨hc,hn,hv2,ho,hl,hA,hE⟩:=h
 subst hc;subst hn;subst ho
 simp only[List.cons.injEq]at hv2
 obtain⟨rfl,rfl,rfl⟩:=hv2
 refine⟨StQ x.arms y.arms,2,300,fun a=>x.arms.length-a.1,ISm (JS x) (JS y),fun _ e v o=>RSm (JS x) (JS y) x.arms y.arms e v o,⟨0,⟨Nat.zero_le _,rfl⟩⟩,rfl,Wk.refl _ _ _ _,?_,AIy x y hx hl⟩
 intro e v o hR
 rcases hR with⟨h1,rfl,rfl,rfl⟩ | ⟨h1,rfl,rfl,rfl⟩
 ·exact hA h1
 ·exact hE h1
theorem AKT(x y:EP):Is (ADh (real Tryz.prog) (LSr 42 85 (JS x) (JS y) x.arms y.arms) x.id y.id x.size y.size x.lo y.lo x.lw y.lw x.lu y.lu x.so y.so x.sw y.sw (rowsOf D7 x.arms) (rowsOf D7 y.arms) x.ot y.ot (fun v=>∃b:Bool,v = .bool b/\(b=true↔x=y))):=by
 refine⟨?_⟩
 rw[ABH]
 refine BI x.arms.length (AQ _ _) (BI y.arms.length (AQ _ _) (MP (fun h=>⟨false,rfl,CS (fun z:EP=>z.arms.length) h⟩) (fun hlen=>⟨rfl,rfl,rfl,rfl,hlen,fun hl=>?_,fun h=>⟨false,rfl,CS (fun z:EP=>z.arms) h⟩⟩)))
 exact H5 (fun e_id=>H5 (fun e_size=>H5 (fun e_lo=>H5 (fun e_lw=>H5 (fun e_lu=>H5 (fun e_so=>H5 (fun e_sw=>H5 (fun e_ot=>⟨true,rfl,⟨fun _=>AAR hl e_id e_size e_lo e_lw e_lu e_so e_sw e_ot,fun _=>rfl⟩⟩) (fun h=>⟨false,rfl,CS (fun z:EP=>z.ot) h⟩)) (fun h=>⟨false,rfl,CS (fun z:EP=>z.sw) h⟩)) (fun h=>⟨false,rfl,CS (fun z:EP=>z.so) h⟩)) (fun h=>⟨false,rfl,CS (fun z:EP=>z.lu) h⟩)) (fun h=>⟨false,rfl,CS (fun z:EP=>z.lw) h⟩)) (fun h=>⟨false,rfl,CS (fun z:EP=>z.lo) h⟩)) (fun h=>⟨false,rfl,CS (fun z:EP=>z.size) h⟩)) (fun h=>⟨false,rfl,CS (fun z:EP=>z.id) h⟩)
theorem AKU(x y:EP)(hx:KQ x):∃b:Bool,(b=true↔x=y)/\∀B H,BM Tryz.prog 100 B 42 [OI x,OI y] H (.returned (.bool b)) H:=
 IZ DC (GH (fun z hz=>by simp only[List.mem_singleton]at hz;subst hz;exact AKl x y hx)) rfl (AKT x y)
theorem r9(x y:E9):allEq [(x.id,y.id),((x.base:Int),(y.base:Int)),(x.node,y.node),(x.off,y.off),(x.wid,y.wid)]=true↔x=y:=by
 cases x;cases y
 simp[allEq]<;>omega
theorem AIQ(x y:E9):Is (yV (real Tryz.prog) x.id y.id (x.base:Int) (y.base:Int) x.node y.node x.off y.off x.wid y.wid (fun v=>∃b:Bool,v = .bool b/\(b=true↔x=y))):=by
 refine⟨?_⟩
 rw[yX]
 exact eD (ps:=[(x.id,y.id),((x.base:Int),(y.base:Int)),(x.node,y.node),(x.off,y.off),(x.wid,y.wid)]) (by kernel_rfl) (by kernel_rfl) rfl rfl (fun h=>⟨true,rfl,⟨fun _=>(r9 x y).1 h,fun _=>rfl⟩⟩) (fun h=>⟨false,rfl,⟨fun e=>(by cases e),fun e=>by rw[(r9 x y).2 e]at h;cases h⟩⟩)
theorem AIR(x y:E9):∃b:Bool,(b=true↔x=y)/\∀B H,BM Tryz.prog 100 B 43 [K6 x,K6 y] H (.returned (.bool b)) H:=IZ DC AZ rfl (AIQ x y)
theorem vY{x y:EB}(hl:x.keys=y.keys)(e_id:x.id=y.id)(e_kind:x.kind=y.kind)(e_cap:x.cap=y.cap)(e_miss:x.miss=y.miss):x=y:=by
 cases x;cases y
 simp_all
theorem AFI(x y:EB)(hx:JF x)(hl:x.keys.length=y.keys.length)(i:StQ x.keys y.keys):
  Is (wpe Tryz.prog (real Tryz.prog) (AP Z0 Zp [] [] [] []) 300 (.code false (AJ Tryz.prog 44 4) (CX 100 57 [2,3,5] [] (ISm (G6 x) (G6 y) i))) (A7 100 [2,3,5] [2,3,4] 57 []
   (fun AB AC=>∃a':StQ x.keys y.keys,x.keys.length-a'.1<x.keys.length-i.1/\Wk 100 (100+2) AB AC (ISm (G6 x) (G6 y) a').1 (ISm (G6 x) (G6 y) a').2/\∀e v o,RSm (G6 x) (G6 y) x.keys y.keys e v o->RSm (G6 x) (G6 y) x.keys y.keys e v o)
   (fun e AB AC=>∃v o,Wk 100 (100+2) AB AC v o/\RSm (G6 x) (G6 y) x.keys y.keys e v o))):=by
 refine⟨?_⟩
 obtain⟨i,inv⟩:=i
 have hi:=inv.le
 have hb:x.keys.length<1000000000:=hx
 show pY (real Tryz.prog) x.id y.id (x.kind:Int) (y.kind:Int) (rowsOf EM x.keys) (rowsOf EM y.keys) x.cap y.cap x.miss y.miss (i:Int) _ _
 rw[uX]
 refine BI x.keys.length (AQ _ _) (EL (fun hlt=>?_) (fun hge=>?_))
 ·have ha:x.keys[i]?=some x.keys[i]:=List.getElem?_eq_getElem hlt
  have hlt2:i<y.keys.length:=by omega
  have hb2:y.keys[i]?=some y.keys[i]:=List.getElem?_eq_getElem hlt2
  generalize x.keys[i]=a at ha
  generalize y.keys[i]=b at hb2
  have hms:x.keys.length-(i+1)<x.keys.length-i:=by omega
  refine DK i rfl (CL ha) rfl (CG rfl (DK i rfl (CL hb2) rfl (CG rfl (YO (fun h=>?_) (fun h=>?_)))))
  ·have hne:a≠b:=(fun e=>h (by rw[e]))
   exact⟨rfl,_,_,AAL,.inr ⟨fun e=>hne (by rw[e,hb2]at ha;simpa using ha.symm),rfl,rfl,rfl⟩⟩
  ·have he:a=b:=(by omega)
   subst he
   exact BZ (by omega) ⟨rfl,⟨i+1,⟨hlt,M4 inv.eq ha hb2⟩⟩,hms,Wk.refl _ _ _ _,fun _ _ _ h=>h⟩
 ·have e:i=x.keys.length:=by omega
  have h:=inv.eq
  rw[e,List.take_length,hl,List.take_length]at h
  exact⟨rfl,_,_,Wk.refl _ _ _ _,.inl ⟨h,rfl,rfl,rfl⟩⟩
theorem AHx(x y:EB)(hx:JF x):BH Tryz.prog 100 [2,3,5] (nI (LSr 44 57 (G6 x) (G6 y) x.keys y.keys)):=by
 show BH Tryz.prog 100 [2,3,5] (lpS [2,3,4] _)
 refine FQ okp (W:=AP Z0 Zp [] [] [] []) DC AZ ?_
 intro c n AB obs K h
 split at h<;>try exact h.elim
 obtain⟨hc,hn,hv2,ho,hl,hA,hE⟩:=h
 subst hc;subst hn;subst ho
 simp only[List.cons.injEq]at hv2
 obtain⟨rfl,rfl,rfl⟩:=hv2
 refine⟨StQ x.keys y.keys,2,300,fun a=>x.keys.length-a.1,ISm (G6 x) (G6 y),fun _ e v o=>RSm (G6 x) (G6 y) x.keys y.keys e v o,⟨0,⟨Nat.zero_le _,rfl⟩⟩,rfl,Wk.refl _ _ _ _,?_,AFI x y hx hl⟩
 intro e v o hR
 rcases hR with⟨h1,rfl,rfl,rfl⟩ | ⟨h1,rfl,rfl,rfl⟩
 ·exact hA h1
 ·exact hE h1
theorem AIW(x y:EB):Is (zB (real Tryz.prog) (LSr 44 57 (G6 x) (G6 y) x.keys y.keys) x.id y.id (x.kind:Int) (y.kind:Int) (rowsOf EM x.keys) (rowsOf EM y.keys) x.cap y.cap x.miss y.miss (fun v=>∃b:Bool,v = .bool b/\(b=true↔x=y))):=by
 refine⟨?_⟩
 rw[zC]
 refine BI x.keys.length (AQ _ _) (BI y.keys.length (AQ _ _) (MP (fun h=>⟨false,rfl,CS (fun z:EB=>z.keys.length) h⟩) (fun hlen=>⟨rfl,rfl,rfl,rfl,hlen,fun hl=>?_,fun h=>⟨false,rfl,CS (fun z:EB=>z.keys) h⟩⟩)))
 exact H5 (fun e_id=>DZ (fun e_kind=>H5 (fun e_cap=>H5 (fun e_miss=>⟨true,rfl,⟨fun _=>vY hl e_id e_kind e_cap e_miss,fun _=>rfl⟩⟩) (fun h=>⟨false,rfl,CS (fun z:EB=>z.miss) h⟩)) (fun h=>⟨false,rfl,CS (fun z:EB=>z.cap) h⟩)) (fun h=>⟨false,rfl,CS (fun z:EB=>z.kind) h⟩)) (fun h=>⟨false,rfl,CS (fun z:EB=>z.id) h⟩)
theorem AIX(x y:EB)(hx:JF x):∃b:Bool,(b=true↔x=y)/\∀B H,BM Tryz.prog 100 B 44 [K9 x,K9 y] H (.returned (.bool b)) H:=
 IZ DC (GH (fun z hz=>by simp only[List.mem_singleton]at hz;subst hz;exact AHx x y hx)) rfl (AIW x y)
theorem vW{x y:C9}(hl:x.args=y.args)(e_tab:x.tab=y.tab)(e_key:x.key=y.key)(e_oth:x.oth=y.oth)(e_len:x.len=y.len)(e_prio:x.prio=y.prio)(e_blk:x.blk=y.blk)(e_idle:x.idle=y.idle)(e_hard:x.hard=y.hard)(e_cook:x.cook=y.cook)(e_tell:x.tell=y.tell):x=y:=by
 cases x;cases y
 simp_all
theorem AFG(x y:C9)(hx:JD x)(hl:x.args.length=y.args.length)(i:StQ x.args y.args):
  Is (wpe Tryz.prog (real Tryz.prog) (AP Z0 Zp [] [] [] []) 300 (.code false (AJ Tryz.prog 45 4) (CX 100 99 [2,3,5] [] (ISm (GZ x) (GZ y) i))) (A7 100 [2,3,5] [2,3,4] 99 []
   (fun AB AC=>∃a':StQ x.args y.args,x.args.length-a'.1<x.args.length-i.1/\Wk 100 (100+2) AB AC (ISm (GZ x) (GZ y) a').1 (ISm (GZ x) (GZ y) a').2/\∀e v o,RSm (GZ x) (GZ y) x.args y.args e v o->RSm (GZ x) (GZ y) x.args y.args e v o)
   (fun e AB AC=>∃v o,Wk 100 (100+2) AB AC v o/\RSm (GZ x) (GZ y) x.args y.args e v o))):=by
 refine⟨?_⟩
 obtain⟨i,inv⟩:=i
 have hi:=inv.le
 have hb:x.args.length<1000000000:=hx
 show pV (real Tryz.prog) x.tab y.tab x.key y.key x.oth y.oth x.len y.len x.prio y.prio x.blk y.blk (rowsOf DJ x.args) (rowsOf DJ y.args) x.idle y.idle x.hard y.hard (x.cook:Int) (y.cook:Int) x.tell y.tell (i:Int) _ _
 rw[uV]
 refine BI x.args.length (AQ _ _) (EL (fun hlt=>?_) (fun hge=>?_))
 ·have ha:x.args[i]?=some x.args[i]:=List.getElem?_eq_getElem hlt
  have hlt2:i<y.args.length:=by omega
  have hb2:y.args[i]?=some y.args[i]:=List.getElem?_eq_getElem hlt2
  generalize x.args[i]=a at ha
  generalize y.args[i]=b at hb2
  have hms:x.args.length-(i+1)<x.args.length-i:=by omega
  refine DK i rfl (CL ha) rfl (CG rfl (DK i rfl (CL hb2) rfl (CG rfl (YO (fun h=>?_) (fun h=>?_)))))
  ·have hne:a≠b:=(fun e=>h (by rw[e]))
   exact⟨rfl,_,_,AAL,.inr ⟨fun e=>hne (by rw[e,hb2]at ha;simpa using ha.symm),rfl,rfl,rfl⟩⟩
  ·have he:a=b:=(by omega)
   subst he
   exact BZ (by omega) ⟨rfl,⟨i+1,⟨hlt,M4 inv.eq ha hb2⟩⟩,hms,Wk.refl _ _ _ _,fun _ _ _ h=>h⟩
 ·have e:i=x.args.length:=by omega
  have h:=inv.eq
  rw[e,List.take_length,hl,List.take_length]at h
  exact⟨rfl,_,_,Wk.refl _ _ _ _,.inl ⟨h,rfl,rfl,rfl⟩⟩
theorem AHv(x y:C9)(hx:JD x):BH Tryz.prog 100 [2,3,5] (nI (LSr 45 99 (GZ x) (GZ y) x.args y.args)):=by
 show BH Tryz.prog 100 [2,3,5] (lpS [2,3,4] _)
 refine FQ okp (W:=AP Z0 Zp [] [] [] []) DC AZ ?_
 intro c n AB obs K h
 split at h<;>try exact h.elim
 obtain⟨hc,hn,hv2,ho,hl,hA,hE⟩:=h
 subst hc;subst hn;subst ho
 simp only[List.cons.injEq]at hv2
 obtain⟨rfl,rfl,rfl⟩:=hv2
 refine⟨StQ x.args y.args,2,300,fun a=>x.args.length-a.1,ISm (GZ x) (GZ y),fun _ e v o=>RSm (GZ x) (GZ y) x.args y.args e v o,⟨0,⟨Nat.zero_le _,rfl⟩⟩,rfl,Wk.refl _ _ _ _,?_,AFG x y hx hl⟩
 intro e v o hR
 rcases hR with⟨h1,rfl,rfl,rfl⟩ | ⟨h1,rfl,rfl,rfl⟩
 ·exact hA h1
 ·exact hE h1
theorem AIO(x y:C9):Is (yT (real Tryz.prog) (LSr 45 99 (GZ x) (GZ y) x.args y.args) x.tab y.tab x.key y.key x.oth y.oth x.len y.len x.prio y.prio x.blk y.blk (rowsOf DJ x.args) (rowsOf DJ y.args) x.idle y.idle x.hard y.hard (x.cook:Int) (y.cook:Int) x.tell y.tell (fun v=>∃b:Bool,v = .bool b/\(b=true↔x=y))):=by
 refine⟨?_⟩
 rw[yU]
 refine BI x.args.length (AQ _ _) (BI y.args.length (AQ _ _) (MP (fun h=>⟨false,rfl,CS (fun z:C9=>z.args.length) h⟩) (fun hlen=>⟨rfl,rfl,rfl,rfl,hlen,fun hl=>?_,fun h=>⟨false,rfl,CS (fun z:C9=>z.args) h⟩⟩)))
 exact H5 (fun e_tab=>OE (fun h=>(fun e_key:x.key=y.key=>OE (fun h=>(fun e_oth:x.oth=y.oth=>H5 (fun e_len=>H5 (fun e_prio=>H5 (fun e_blk=>H5 (fun e_idle=>H5 (fun e_hard=>DZ (fun e_cook => .inl ⟨rfl,fun h=>(fun e_tell:x.tell=y.tell=>⟨true,rfl,⟨fun _=>vW hl e_tab e_key e_oth e_len e_prio e_blk e_idle e_hard e_cook e_tell,fun _=>rfl⟩⟩) (by simpa using h),fun h=>(fun h:¬x.tell=y.tell=>⟨false,rfl,CS (fun z:C9=>z.tell) h⟩) (by simpa using h)⟩) (fun h=>⟨false,rfl,CS (fun z:C9=>z.cook) h⟩)) (fun h=>⟨false,rfl,CS (fun z:C9=>z.hard) h⟩)) (fun h=>⟨false,rfl,CS (fun z:C9=>z.idle) h⟩)) (fun h=>⟨false,rfl,CS (fun z:C9=>z.blk) h⟩)) (fun h=>⟨false,rfl,CS (fun z:C9=>z.prio) h⟩)) (fun h=>⟨false,rfl,CS (fun z:C9=>z.len) h⟩)) (OC h)) (fun h=>(fun h:¬x.oth=y.oth=>⟨false,rfl,CS (fun z:C9=>z.oth) h⟩) (fun e=>h (by rw[e])))) (OC h)) (fun h=>(fun h:¬x.key=y.key=>⟨false,rfl,CS (fun z:C9=>z.key) h⟩) (fun e=>h (by rw[e])))) (fun h=>⟨false,rfl,CS (fun z:C9=>z.tab) h⟩)
theorem AIP(x y:C9)(hx:JD x):∃b:Bool,(b=true↔x=y)/\∀B H,BM Tryz.prog 100 B 45 [K5 x,K5 y] H (.returned (.bool b)) H:=
 IZ DC (GH (fun z hz=>by simp only[List.mem_singleton]at hz;subst hz;exact AHv x y hx)) rfl (AIO x y)
theorem vV{x y:ES}(hl:x.code=y.code)(e_id:x.id=y.id):x=y:=by
 cases x;cases y
 simp_all
theorem AFF(x y:ES)(hx:JC x)(hl:x.code.length=y.code.length)(i:StQ x.code y.code):
  Is (wpe Tryz.prog (real Tryz.prog) (AP Z0 Zp [] [] [] []) 300 (.code false (AJ Tryz.prog 46 4) (CX 100 36 [2,3,5] [] (ISm (GY x) (GY y) i))) (A7 100 [2,3,5] [2,3,4] 36 []
   (fun AB AC=>∃a':StQ x.code y.code,x.code.length-a'.1<x.code.length-i.1/\Wk 100 (100+2) AB AC (ISm (GY x) (GY y) a').1 (ISm (GY x) (GY y) a').2/\∀e v o,RSm (GY x) (GY y) x.code y.code e v o->RSm (GY x) (GY y) x.code y.code e v o)
   (fun e AB AC=>∃v o,Wk 100 (100+2) AB AC v o/\RSm (GY x) (GY y) x.code y.code e v o))):=by
 refine⟨?_⟩
 obtain⟨i,inv⟩:=i
 have hi:=inv.le
 have hb:x.code.length<1000000000:=hx
 show pU (real Tryz.prog) x.id y.id (rowsOf BN x.code) (rowsOf BN y.code) (i:Int) _ _
 rw[uU]
 refine BI x.code.length (AQ _ _) (EL (fun hlt=>?_) (fun hge=>?_))
 ·have ha:x.code[i]?=some x.code[i]:=List.getElem?_eq_getElem hlt
  have hlt2:i<y.code.length:=by omega
  have hb2:y.code[i]?=some y.code[i]:=List.getElem?_eq_getElem hlt2
  generalize x.code[i]=a at ha
  generalize y.code[i]=b at hb2
  have hms:x.code.length-(i+1)<x.code.length-i:=by omega
  refine DK i rfl (CL ha) rfl (CG rfl (CG rfl (CG rfl (CG rfl (CG rfl (CG rfl (CG rfl (DK i rfl (CL hb2) rfl (CG rfl (CG rfl (CG rfl (CG rfl (CG rfl (CG rfl (CG rfl (eF (ps:=[((a.op:Int),(b.op:Int)),(a.to,b.to),((a.ak:Int),(b.ak:Int)),((a.an:Int),(b.an:Int)),((a.bk:Int),(b.bk:Int)),((a.bn:Int),(b.bn:Int)),(a.n,b.n)]) (by kernel_rfl) (by kernel_rfl) rfl rfl (fun h=>?_) (fun h=>?_)))))))))))))))))
  ·have hne:a≠b:=(fun e=>by rw[(sD a b).2 e]at h;cases h)
   exact⟨rfl,_,_,AAL,.inr ⟨fun e=>hne (by rw[e,hb2]at ha;simpa using ha.symm),rfl,rfl,rfl⟩⟩
  ·have he:a=b:=(sD a b).1 h
   subst he
   exact BZ (by omega) ⟨rfl,⟨i+1,⟨hlt,M4 inv.eq ha hb2⟩⟩,hms,Wk.refl _ _ _ _,fun _ _ _ h=>h⟩
 ·have e:i=x.code.length:=by omega
  have h:=inv.eq
  rw[e,List.take_length,hl,List.take_length]at h
  exact⟨rfl,_,_,Wk.refl _ _ _ _,.inl ⟨h,rfl,rfl,rfl⟩⟩
theorem AHu(x y:ES)(hx:JC x):BH Tryz.prog 100 [2,3,5] (nI (LSr 46 36 (GY x) (GY y) x.code y.code)):=by
 show BH Tryz.prog 100 [2,3,5] (lpS [2,3,4] _)
 refine FQ okp (W:=AP Z0 Zp [] [] [] []) DC AZ ?_
 intro c n AB obs K h
 split at h<;>try exact h.elim
 obtain⟨hc,hn,hv2,ho,hl,hA,hE⟩:=h
 subst hc;subst hn;subst ho
 simp only[List.cons.injEq]at hv2
 obtain⟨rfl,rfl,rfl⟩:=hv2
 refine⟨StQ x.code y.code,2,300,fun a=>x.code.length-a.1,ISm (GY x) (GY y),fun _ e v o=>RSm (GY x) (GY y) x.code y.code e v o,⟨0,⟨Nat.zero_le _,rfl⟩⟩,rfl,Wk.refl _ _ _ _,?_,AFF x y hx hl⟩
 intro e v o hR
 rcases hR with⟨h1,rfl,rfl,rfl⟩ | ⟨h1,rfl,rfl,rfl⟩
 ·exact hA h1
 ·exact hE h1
theorem AIM(x y:ES):Is (yR (real Tryz.prog) (LSr 46 36 (GY x) (GY y) x.code y.code) x.id y.id (rowsOf BN x.code) (rowsOf BN y.code) (fun v=>∃b:Bool,v = .bool b/\(b=true↔x=y))):=by
 refine⟨?_⟩
 rw[yS]
 refine BI x.code.length (AQ _ _) (BI y.code.length (AQ _ _) (MP (fun h=>⟨false,rfl,CS (fun z:ES=>z.code.length) h⟩) (fun hlen=>⟨rfl,rfl,rfl,rfl,hlen,fun hl=>?_,fun h=>⟨false,rfl,CS (fun z:ES=>z.code) h⟩⟩)))
 exact H5 (fun e_id=>⟨true,rfl,⟨fun _=>vV hl e_id,fun _=>rfl⟩⟩) (fun h=>⟨false,rfl,CS (fun z:ES=>z.id) h⟩)
theorem AIN(x y:ES)(hx:JC x):∃b:Bool,(b=true↔x=y)/\∀B H,BM Tryz.prog 100 B 46 [K4 x,K4 y] H (.returned (.bool b)) H:=
 IZ DC (GH (fun z hz=>by simp only[List.mem_singleton]at hz;subst hz;exact AHu x y hx)) rfl (AIM x y)
theorem vX{x y:EI}(hl:x.bks=y.bks)(e_id:x.id=y.id)(e_kind:x.kind=y.kind)(e_fld:x.fld=y.fld):x=y:=by
 cases x;cases y
 simp_all
theorem AFH(x y:EI)(hx:JE x)(hl:x.bks.length=y.bks.length)(i:StQ x.bks y.bks):
  Is (wpe Tryz.prog (real Tryz.prog) (AP Z0 Zp [] [] [] []) 300 (.code false (AJ Tryz.prog 47 4) (CX 100 50 [2,3,5] [] (ISm (G5 x) (G5 y) i))) (A7 100 [2,3,5] [2,3,4] 50 []
   (fun AB AC=>∃a':StQ x.bks y.bks,x.bks.length-a'.1<x.bks.length-i.1/\Wk 100 (100+2) AB AC (ISm (G5 x) (G5 y) a').1 (ISm (G5 x) (G5 y) a').2/\∀e v o,RSm (G5 x) (G5 y) x.bks y.bks e v o->RSm (G5 x) (G5 y) x.bks y.bks e v o)
   (fun e AB AC=>∃v o,Wk 100 (100+2) AB AC v o/\RSm (G5 x) (G5 y) x.bks y.bks e v o))):=by
 refine⟨?_⟩
 obtain⟨i,inv⟩:=i
 have hi:=inv.le
 have hb:x.bks.length<1000000000:=hx
 show AUT (real Tryz.prog) x.id y.id (x.kind:Int) (y.kind:Int) x.fld y.fld (rowsOf BB x.bks) (rowsOf BB y.bks) (i:Int) _ _
 rw[uW]
 refine BI x.bks.length (AQ _ _) (EL (fun hlt=>?_) (fun hge=>?_))
 ·have ha:x.bks[i]?=some x.bks[i]:=List.getElem?_eq_getElem hlt
  have hlt2:i<y.bks.length:=by omega
  have hb2:y.bks[i]?=some y.bks[i]:=List.getElem?_eq_getElem hlt2
  generalize x.bks[i]=a at ha
  generalize y.bks[i]=b at hb2
  have hms:x.bks.length-(i+1)<x.bks.length-i:=by omega
  refine DK i rfl (CL ha) rfl (CG rfl (CG rfl (DK i rfl (CL hb2) rfl (CG rfl (CG rfl (eF (ps:=[((a.w:Int),(b.w:Int)),(a.b,b.b)]) (by kernel_rfl) (by kernel_rfl) rfl rfl (fun h=>?_) (fun h=>?_)))))))
  ·have hne:a≠b:=(fun e=>by rw[(jD a b).2 e]at h;cases h)
   exact⟨rfl,_,_,AAL,.inr ⟨fun e=>hne (by rw[e,hb2]at ha;simpa using ha.symm),rfl,rfl,rfl⟩⟩
  ·have he:a=b:=(jD a b).1 h
   subst he
   exact BZ (by omega) ⟨rfl,⟨i+1,⟨hlt,M4 inv.eq ha hb2⟩⟩,hms,Wk.refl _ _ _ _,fun _ _ _ h=>h⟩
 ·have e:i=x.bks.length:=by omega
  have h:=inv.eq
  rw[e,List.take_length,hl,List.take_length]at h
  exact⟨rfl,_,_,Wk.refl _ _ _ _,.inl ⟨h,rfl,rfl,rfl⟩⟩
theorem AHw(x y:EI)(hx:JE x):BH Tryz.prog 100 [2,3,5] (nI (LSr 47 50 (G5 x) (G5 y) x.bks y.bks)):=by
 show BH Tryz.prog 100 [2,3,5] (lpS [2,3,4] _)
 refine FQ okp (W:=AP Z0 Zp [] [] [] []) DC AZ ?_
 intro c n AB obs K h
 split at h<;>try exact h.elim
 obtain⟨hc,hn,hv2,ho,hl,hA,hE⟩:=h
 subst hc;subst hn;subst ho
 simp only[List.cons.injEq]at hv2
 obtain⟨rfl,rfl,rfl⟩:=hv2
 refine⟨StQ x.bks y.bks,2,300,fun a=>x.bks.length-a.1,ISm (G5 x) (G5 y),fun _ e v o=>RSm (G5 x) (G5 y) x.bks y.bks e v o,⟨0,⟨Nat.zero_le _,rfl⟩⟩,rfl,Wk.refl _ _ _ _,?_,AFH x y hx hl⟩
 intro e v o hR
 rcases hR with⟨h1,rfl,rfl,rfl⟩ | ⟨h1,rfl,rfl,rfl⟩
 ·exact hA h1
 ·exact hE h1
theorem AIS(x y:EI):Is (yY (real Tryz.prog) (LSr 47 50 (G5 x) (G5 y) x.bks y.bks) x.id y.id (x.kind:Int) (y.kind:Int) x.fld y.fld (rowsOf BB x.bks) (rowsOf BB y.bks) (fun v=>∃b:Bool,v = .bool b/\(b=true↔x=y))):=by
 refine⟨?_⟩
 rw[yZ]
 refine BI x.bks.length (AQ _ _) (BI y.bks.length (AQ _ _) (MP (fun h=>⟨false,rfl,CS (fun z:EI=>z.bks.length) h⟩) (fun hlen=>⟨rfl,rfl,rfl,rfl,hlen,fun hl=>?_,fun h=>⟨false,rfl,CS (fun z:EI=>z.bks) h⟩⟩)))
 exact H5 (fun e_id=>DZ (fun e_kind=>H5 (fun e_fld=>⟨true,rfl,⟨fun _=>vX hl e_id e_kind e_fld,fun _=>rfl⟩⟩) (fun h=>⟨false,rfl,CS (fun z:EI=>z.fld) h⟩)) (fun h=>⟨false,rfl,CS (fun z:EI=>z.kind) h⟩)) (fun h=>⟨false,rfl,CS (fun z:EI=>z.id) h⟩)
theorem AIT(x y:EI)(hx:JE x):∃b:Bool,(b=true↔x=y)/\∀B H,BM Tryz.prog 100 B 47 [K7 x,K7 y] H (.returned (.bool b)) H:=
 IZ DC (GH (fun z hz=>by simp only[List.mem_singleton]at hz;subst hz;exact AHw x y hx)) rfl (AIS x y)
theorem sG(x y:FJ):allEq [(x.id,y.id),(x.rate,y.rate),(x.burst,y.burst)]=true↔x=y:=by
 cases x;cases y
 simp[allEq]<;>omega
theorem AIU(x y:FJ):Is (y7 (real Tryz.prog) x.id y.id x.rate y.rate x.burst y.burst (fun v=>∃b:Bool,v = .bool b/\(b=true↔x=y))):=by
 refine⟨?_⟩
 rw[y8]
 exact eD (ps:=[(x.id,y.id),(x.rate,y.rate),(x.burst,y.burst)]) (by kernel_rfl) (by kernel_rfl) rfl rfl (fun h=>⟨true,rfl,⟨fun _=>(sG x y).1 h,fun _=>rfl⟩⟩) (fun h=>⟨false,rfl,⟨fun e=>(by cases e),fun e=>by rw[(sG x y).2 e]at h;cases h⟩⟩)
theorem AIV(x y:FJ):∃b:Bool,(b=true↔x=y)/\∀B H,BM Tryz.prog 100 B 48 [K8 x,K8 y] H (.returned (.bool b)) H:=IZ DC AZ rfl (AIU x y)
theorem AA0(x y:IJ):allEq [(x.id,y.id),(x.size,y.size)]=true↔x=y:=by
 cases x;cases y
 simp[allEq]<;>omega
theorem AKV(x y:IJ):Is (ADi (real Tryz.prog) x.id y.id x.size y.size (fun v=>∃b:Bool,v = .bool b/\(b=true↔x=y))):=by
 refine⟨?_⟩
 rw[ABJ]
 exact eD (ps:=[(x.id,y.id),(x.size,y.size)]) (by kernel_rfl) (by kernel_rfl) rfl rfl (fun h=>⟨true,rfl,⟨fun _=>(AA0 x y).1 h,fun _=>rfl⟩⟩) (fun h=>⟨false,rfl,⟨fun e=>(by cases e),fun e=>by rw[(AA0 x y).2 e]at h;cases h⟩⟩)
theorem AKW(x y:IJ):∃b:Bool,(b=true↔x=y)/\∀B H,BM Tryz.prog 100 B 49 [OJ x,OJ y] H (.returned (.bool b)) H:=IZ DC AZ rfl (AKV x y)
def AQi(l:Lv):Heap:=hOf 100 [(0,.cells l 119 1 true false)] []
def syG(b:Nat):Option Bool:=match b with | 0=>some false|_=>none
def WOf:How:=AP syG (fun _=>false) [] [] [] []
def gOf(N:Nd)(l:Lv)(k t:Int)(K:Value->Prop):Prop:=wpe Tryz.prog N WOf 300 (.call 34 [(.int .u8 k),(.int .u8 t)] (AQi l)) (J6 K)
theorem AMd(N:Nd)(l:Lv)(k t:Int)(K:Value->Prop):gOf N l k t K=(N.conv 5 3 .u8 k .i64 (fun z0=>N.cmp .lss .i64 z0 .i64 47 (N.idx 47 0 1 k (fun o1=>N.rdI .u32 l o1 (fun z2=>N.ari .shr .u32 z2 .u8 t (fun z3=>N.ari .and .u32 z3 .u32 1 (fun z4=>N.cmp .eql .u32 z4 .u32 1 (K (.bool true)) (K (.bool false))))))) (K (.bool false)))):=by kernel_rfl
end
end Go.Proofs.Ob
