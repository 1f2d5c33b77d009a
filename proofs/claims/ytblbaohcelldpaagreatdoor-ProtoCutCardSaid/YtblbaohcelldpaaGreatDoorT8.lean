/- . -/
import Derived.Test.YtblbaohcelldpaaGreatDoorT5
set_option linter.all false
set_option maxRecDepth 100000
namespace Go.Proofs.Ob
open Go Go.Abs Go.Tlv
noncomputable section
def MI:Mi where
 own:=fun vs K=>∃ns:List Int,vs=ns.map (fun n => .int .i64 n)/\ns.length<big/\K (ns.all okI)
 deep:=fun rs K=>∃ns:List Int,rs=rowsOf EM ns/\ns.length<big/\K (ns.all okI)
theorem QX{ns:List Int}{vs:Lv}{K:Bool->Prop}(h:vs=ns.map (fun n => .int .i64 n))(hl:ns.length<big)(hk:K (ns.all okI)):MI.own vs K:=⟨ns,h,hl,hk⟩
theorem RX{ns:List Int}{K:Bool->Prop}(hl:ns.length<big)(hk:K (ns.all okI)):MI.deep (rowsOf EM ns) K:=⟨ns,rfl,hl,hk⟩
theorem bF{α:Type}{c:α->Lv}{p:α->Bool}{l:List α}{K:Bool->Prop}(hl:l.length<big)(hk:K (l.any p)):MC c p (rowsOf c l) K:=⟨l,rfl,hl,hk⟩
theorem AJK(l:List Int):DI 1 (rowsOf EM l)=some (l.map fun n => .int .i64 n):=by
 induction l with
 |nil=>rfl
 |cons a l ih=>
  show DI 1 (.agg ⟨[.int .i64 a]⟩::rowsOf EM l)=_
  simp only[DI,ih];rfl
theorem AGy(l:List Int):BL 0 (l.map fun n=>Value.int .i64 n)=true:=by
 induction l with
 |nil=>rfl
 |cons a l ih=>show(true&&BL 0 (l.map fun n=>Value.int .i64 n))=true;rw[ih];rfl
theorem AKc{f:FuncId}(hd:∀(ns:List Int),ns.length<big->∀B H,BM Tryz.prog 100 B f [dsl (rowsOf EM ns)] H (.returned (.bool (ns.all okI))) H):JU Tryz.prog 100 f (TP MI):=by
 intro args H K h
 unfold TP at h
 split at h<;>try exact h.elim
 ·rename_i b k k'
  split at h<;>try exact h.elim
  rename_i vs e sz lo ow hg
  split at h<;>try exact h.elim
  rename_i hc
  simp only[Bool.and_eq_true]at hc
  obtain⟨hc1,rfl⟩:=hc
  obtain rfl:=Nat.eq_of_beq_eq_true hc1
  obtain⟨rfl,rfl,ns,rfl,hl,hK⟩:=h
  exact⟨_,H,fun B=>fD (pre:=[]) (post:=[]) (fun B H=>hd ns hl B H) hg (AJK ns) (AGy ns) (by omega) (by rw[List.length_map,AQ]) (Nat.le_refl _) rfl rfl rfl B,hK⟩
 ·rename_i t rs
  split at h<;>try exact h.elim
  rename_i e1
  obtain rfl:=Nat.eq_of_beq_eq_true e1
  obtain⟨ns,rfl,hl,hK⟩:=h
  exact⟨_,H,fun B=>hd ns hl B H,hK⟩
theorem APi(ns:List Int)(hl:ns.length<big):Is (ALk (real Tryz.prog) (MC EM OG) (rowsOf EM ns) (PQ (.bool (ns.all okI)))):=by
 refine⟨?_⟩
 rw[AGS]
 refine bF hl ?_
 exact CY (fun h=>PQ.of (by rw[←ADw,h];rfl) rfl) (fun h=>PQ.of (by rw[←ADw,h];rfl) rfl)
theorem APu:JU Tryz.prog 100 227 (TP MI):=AKc fun ns hl B H=>
 GL okp (EY (fun x hx=>by simp only[List.mem_singleton]at hx;subst hx;exact APK APL)) AZ rfl rfl (APi ns hl) B H
theorem AMr:OM Tryz.prog 100 (WIn 227 MI):=M3 (fun x hx=>by simp only[List.mem_singleton]at hx;subst hx;exact APu) (fun x hx=>by cases hx)
theorem AR9(x:Arm):Is (AOV (real Tryz.prog) MI (x.v:Int) x.nx (PQ (.bool (MX x)))):=by
 refine⟨?_⟩
 rw[AJX]
 exact⟨rfl,rfl,QX (ns:=[x.nx]) rfl (by simp[big]) (CY (fun h=>PQ.of (by simp_all[MX]) rfl) (fun h=>PQ.of (by simp_all[MX]) rfl))⟩
theorem ASa(x:Instr):Is (AOW (real Tryz.prog) MI (x.op:Int) x.to (x.ak:Int) (x.an:Int) (x.bk:Int) (x.bn:Int) x.n (PQ (.bool (GX x)))):=by
 refine⟨?_⟩
 rw[AJY]
 exact⟨rfl,rfl,QX (ns:=[x.to,x.n]) rfl (by simp[big]) (CY (fun h=>PQ.of (by cases h1:okI x.to<;>cases h2:okI x.n<;>simp_all[GX]) rfl) (fun h=>PQ.of (by cases h1:okI x.to<;>cases h2:okI x.n<;>simp_all[GX]) rfl))⟩
theorem ASb(x:DN):Is (AOX (real Tryz.prog) MI (x.w:Int) x.b (PQ (.bool (FH x)))):=by
 refine⟨?_⟩
 rw[AJZ]
 exact⟨rfl,rfl,QX (ns:=[x.b]) rfl (by simp[big]) (CY (fun h=>PQ.of (by simp_all[FH]) rfl) (fun h=>PQ.of (by simp_all[FH]) rfl))⟩
theorem ASi:FY Tryz.prog 100 229 (sP (PM (fun x:Arm => .agg ⟨D7 x⟩) MX)):=by
 intro args K h
 unfold sP at h
 split at h<;>try exact h.elim
 obtain⟨x,rfl,hK⟩:=h
 exact⟨_,fun B H=>GL okp AMr AZ rfl rfl (AR9 x) B H,hK⟩
theorem ASk:FY Tryz.prog 100 234 (sP (PM (fun x:Instr => .agg ⟨BN x⟩) GX)):=by
 intro args K h
 unfold sP at h
 split at h<;>try exact h.elim
 obtain⟨x,rfl,hK⟩:=h
 exact⟨_,fun B H=>GL okp AMr AZ rfl rfl (ASa x) B H,hK⟩
theorem ASm:FY Tryz.prog 100 237 (sP (PM (fun x:DN => .agg ⟨BB x⟩) FH)):=by
 intro args K h
 unfold sP at h
 split at h<;>try exact h.elim
 obtain⟨x,rfl,hK⟩:=h
 exact⟨_,fun B H=>GL okp AMr AZ rfl rfl (ASb x) B H,hK⟩
theorem knM(l:PuL)(h:∀x∈l,FY Tryz.prog 100 x.1 x.2):OM Tryz.prog 100 (AP S0 Sp0 [(227,TP MI)] [] l []):=M3 (fun x hx=>by simp only[List.mem_singleton]at hx;subst hx;exact APu) h
theorem AHJ(x:EP)(hf:KQ x):Is (xO (real Tryz.prog) MI (MC D7 MX) x.id x.size x.lo x.lw x.lu x.so x.sw (rowsOf D7 x.arms) x.ot (PQ (.bool (JX x)))):=by
 refine⟨?_⟩
 rw[xP]
 refine⟨rfl,rfl,QX (ns:=[x.id,x.size,x.lo,x.lw,x.lu,x.so,x.sw,x.ot]) rfl (by simp[big]) ?_⟩
 repeat' first
  |refine bG (fun _=>?_) (fun _=>?_)
  |refine N7 (fun _=>?_) (fun _=>?_)
  |refine FC ?_
  |refine CY (fun _=>?_) (fun _=>?_)
  |refine bF (by assumption) ?_
  |refine RX (by assumption) ?_
  |refine BI _ (AQ _ _) ?_
  |(refine PQ.of ?_ rfl;first|(simp_all[JX];done)|(simp_all[JX]<;>intros<;>omega))
theorem AHK(x:EP)(hf:KQ x)(B:Base)(H:Heap):BM Tryz.prog 100 B 153 [OI x] H (.returned (.bool (JX x))) H:=
 GL okp (knM _ (fun x hx=>by simp only[List.mem_singleton]at hx;subst hx;exact ASh ASi)) AZ rfl rfl (AHJ x hf) B H
theorem AFa(x:E9)(hf:NI x):Is (oM (real Tryz.prog) MI (MC D7 MX) x.id (x.base:Int) x.node x.off x.wid (PQ (.bool (I5 x)))):=by
 refine⟨?_⟩
 rw[uB]
 refine⟨rfl,rfl,QX (ns:=[x.id,x.node,x.off,x.wid]) rfl (by simp[big]) ?_⟩
 repeat' first
  |refine bG (fun _=>?_) (fun _=>?_)
  |refine N7 (fun _=>?_) (fun _=>?_)
  |refine FC ?_
  |refine CY (fun _=>?_) (fun _=>?_)
  |refine bF (by assumption) ?_
  |refine RX (by assumption) ?_
  |refine BI _ (AQ _ _) ?_
  |(refine PQ.of ?_ rfl;first|(simp_all[I5];done)|(simp_all[I5]<;>intros<;>omega))
theorem AFb(x:E9)(hf:NI x)(B:Base)(H:Heap):BM Tryz.prog 100 B 165 [K6 x] H (.returned (.bool (I5 x))) H:=
 GL okp (knM _ (fun x hx=>by cases hx)) AZ rfl rfl (AFa x hf) B H
theorem AFg(x:EB)(hf:JF x):Is (oP (real Tryz.prog) MI (MC D7 MX) x.id (x.kind:Int) (rowsOf EM x.keys) x.cap x.miss (PQ (.bool (IG x)))):=by
 refine⟨?_⟩
 rw[uE]
 refine⟨rfl,rfl,QX (ns:=[x.id,x.cap,x.miss]) rfl (by simp[big]) ?_⟩
 repeat' first
  |refine bG (fun _=>?_) (fun _=>?_)
  |refine N7 (fun _=>?_) (fun _=>?_)
  |refine FC ?_
  |refine CY (fun _=>?_) (fun _=>?_)
  |refine bF (by assumption) ?_
  |refine RX (by assumption) ?_
  |refine BI _ (AQ _ _) ?_
  |(refine PQ.of ?_ rfl;first|(simp_all[IG];done)|(simp_all[IG]<;>intros<;>omega))
theorem AFh(x:EB)(hf:JF x)(B:Base)(H:Heap):BM Tryz.prog 100 B 170 [K9 x] H (.returned (.bool (IG x))) H:=
 GL okp (knM _ (fun x hx=>by cases hx)) AZ rfl rfl (AFg x hf) B H
theorem AE8(x:C9)(hf:JD x):Is (oL (real Tryz.prog) MI (MC D7 MX) x.tab x.key x.oth x.len x.prio x.blk (rowsOf DJ x.args) x.idle x.hard (x.cook:Int) x.tell (PQ (.bool (IB x)))):=by
 refine⟨?_⟩
 rw[uA]
 refine⟨rfl,rfl,QX (ns:=[x.tab,x.len,x.prio,x.blk]) rfl (by simp[big]) ?_⟩
 repeat' first
  |refine bG (fun _=>?_) (fun _=>?_)
  |refine N7 (fun _=>?_) (fun _=>?_)
  |refine FC ?_
  |refine CY (fun _=>?_) (fun _=>?_)
  |refine bF (by assumption) ?_
  |refine RX (by assumption) ?_
  |refine BI _ (AQ _ _) ?_
  |(refine PQ.of ?_ rfl;first|(simp_all[IB];done)|(simp_all[IB]<;>intros<;>omega))
theorem AE9(x:C9)(hf:JD x)(B:Base)(H:Heap):BM Tryz.prog 100 B 177 [K5 x] H (.returned (.bool (IB x))) H:=
 GL okp (knM _ (fun x hx=>by cases hx)) AZ rfl rfl (AE8 x hf) B H
theorem AE6(x:ES)(hf:JC x):Is (oK (real Tryz.prog) MI (MC BN GX) x.id (rowsOf BN x.code) (PQ (.bool (H9 x)))):=by
 refine⟨?_⟩
 rw[tZ]
 refine⟨rfl,rfl,QX (ns:=[x.id]) rfl (by simp[big]) ?_⟩
 repeat' first
  |refine bG (fun _=>?_) (fun _=>?_)
  |refine N7 (fun _=>?_) (fun _=>?_)
  |refine FC ?_
  |refine CY (fun _=>?_) (fun _=>?_)
  |refine bF (by assumption) ?_
  |refine RX (by assumption) ?_
  |refine BI _ (AQ _ _) ?_
  |(refine PQ.of ?_ rfl;first|(simp_all[H9];done)|(simp_all[H9]<;>intros<;>omega))
theorem AE7(x:ES)(hf:JC x)(B:Base)(H:Heap):BM Tryz.prog 100 B 188 [K4 x] H (.returned (.bool (H9 x))) H:=
 GL okp (knM _ (fun x hx=>by simp only[List.mem_singleton]at hx;subst hx;exact ASj ASk)) AZ rfl rfl (AE6 x hf) B H
theorem AFc(x:EI)(hf:JE x):Is (oN (real Tryz.prog) MI (MC BB FH) x.id (x.kind:Int) x.fld (rowsOf BB x.bks) (PQ (.bool (IC x)))):=by
 refine⟨?_⟩
 rw[uC]
 refine⟨rfl,rfl,QX (ns:=[x.id,x.fld]) rfl (by simp[big]) ?_⟩
 repeat' first
  |refine bG (fun _=>?_) (fun _=>?_)
  |refine N7 (fun _=>?_) (fun _=>?_)
  |refine FC ?_
  |refine CY (fun _=>?_) (fun _=>?_)
  |refine bF (by assumption) ?_
  |refine RX (by assumption) ?_
  |refine BI _ (AQ _ _) ?_
  |(refine PQ.of ?_ rfl;first|(simp_all[IC];done)|(simp_all[IC]<;>intros<;>omega))
theorem AFd(x:EI)(hf:JE x)(B:Base)(H:Heap):BM Tryz.prog 100 B 196 [K7 x] H (.returned (.bool (IC x))) H:=
 GL okp (knM _ (fun x hx=>by simp only[List.mem_singleton]at hx;subst hx;exact ASl ASm)) AZ rfl rfl (AFc x hf) B H
theorem AFe(x:FJ)(hf:NJ x):Is (oO (real Tryz.prog) MI (MC D7 MX) x.id x.rate x.burst (PQ (.bool (I6 x)))):=by
 refine⟨?_⟩
 rw[uD]
 refine⟨rfl,rfl,QX (ns:=[x.id]) rfl (by simp[big]) ?_⟩
 repeat' first
  |refine bG (fun _=>?_) (fun _=>?_)
  |refine N7 (fun _=>?_) (fun _=>?_)
  |refine FC ?_
  |refine CY (fun _=>?_) (fun _=>?_)
  |refine bF (by assumption) ?_
  |refine RX (by assumption) ?_
  |refine BI _ (AQ _ _) ?_
  |(refine PQ.of ?_ rfl;first|(simp_all[I6];done)|(simp_all[I6]<;>intros<;>omega))
theorem AFf(x:FJ)(hf:NJ x)(B:Base)(H:Heap):BM Tryz.prog 100 B 204 [K8 x] H (.returned (.bool (I6 x))) H:=
 GL okp (knM _ (fun x hx=>by cases hx)) AZ rfl rfl (AFe x hf) B H
theorem AHL(x:IJ)(hf:PL x):Is (xQ (real Tryz.prog) MI (MC D7 MX) x.id x.size (PQ (.bool (J9 x)))):=by
 refine⟨?_⟩
 rw[xR]
 refine⟨rfl,rfl,QX (ns:=[x.id,x.size]) rfl (by simp[big]) ?_⟩
 repeat' first
  |refine bG (fun _=>?_) (fun _=>?_)
  |refine N7 (fun _=>?_) (fun _=>?_)
  |refine FC ?_
  |refine CY (fun _=>?_) (fun _=>?_)
  |refine bF (by assumption) ?_
  |refine RX (by assumption) ?_
  |refine BI _ (AQ _ _) ?_
  |(refine PQ.of ?_ rfl;first|(simp_all[J9];done)|(simp_all[J9]<;>intros<;>omega))
theorem AHM(x:IJ)(hf:PL x)(B:Base)(H:Heap):BM Tryz.prog 100 B 208 [OJ x] H (.returned (.bool (J9 x))) H:=
 GL okp (knM _ (fun x hx=>by cases hx)) AZ rfl rfl (AHL x hf) B H
end
end Go.Proofs.Ob
