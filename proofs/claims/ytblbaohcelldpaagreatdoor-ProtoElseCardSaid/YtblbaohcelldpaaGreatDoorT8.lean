/- May it be said: what the code comes to, program and reference. -/
import Derived.Test.YtblbaohcelldpaaGreatDoorT5
set_option linter.all false
namespace Go.Proofs.YtblbaohcelldpaaGreatDoor.Ob
open Go Go.Abs Go.Tlv
set_option maxRecDepth 100000
noncomputable section
def MI:Mi where
 own:=fun vs K=>∃ns:List Int,vs=ns.map (fun n => .int .i64 n)/\ns.length<big/\K (ns.all okI)
 deep:=fun rs K=>∃ns:List Int,rs=rowsOf cInt ns/\ns.length<big/\K (ns.all okI)
theorem own_mk{ns:List Int}{vs:List Value}{K:Bool->Prop}(h:vs=ns.map (fun n => .int .i64 n))(hl:ns.length<big)(hk:K (ns.all okI)):MI.own vs K:=⟨ns,h,hl,hk⟩
theorem deep_mk{ns:List Int}{K:Bool->Prop}(hl:ns.length<big)(hk:K (ns.all okI)):MI.deep (rowsOf cInt ns) K:=⟨ns,rfl,hl,hk⟩
theorem mc_mk{α:Type}{c:α->List Value}{p:α->Bool}{l:List α}{K:Bool->Prop}(hl:l.length<big)(hk:K (l.any p)):MC c p (rowsOf c l) K:=⟨l,rfl,hl,hk⟩
theorem flatInt(l:List Int):flatRows 1 (rowsOf cInt l)=some (l.map fun n => .int .i64 n):=by
 induction l with
 |nil=>rfl
 |cons a l ih=>
  show flatRows 1 (.agg ⟨[.int .i64 a]⟩::rowsOf cInt l)=_
  simp only[flatRows,ih];rfl
theorem belowInt(l:List Int):belowL 0 (l.map fun n=>Value.int .i64 n)=true:=by
 induction l with
 |nil=>rfl
 |cons a l ih=>show(true&&belowL 0 (l.map fun n=>Value.int .i64 n))=true;rw[ih];rfl
theorem ints_ok{f:FuncId}(hd:∀(ns:List Int),ns.length<big->∀B H,CallH Tryz.prog 100 B f [dsl (rowsOf cInt ns)] H (.returned (.bool (ns.all okI))) H):SumOk Tryz.prog 100 f (sInts MI):=by
 intro args H K h
 unfold sInts at h
 split at h<;>try exact h.elim
 ·rename_i b k k'
  split at h<;>try exact h.elim
  rename_i vs e sz lo ow hg
  split at h<;>try exact h.elim
  rename_i hc
  simp only[Bool.and_eq_true]at hc
  obtain⟨hc1,rfl⟩:=hc
  obtain rfl:=Nat.eq_of_beq_eq_true hc1
  obtain⟨rfl,rfl,ns,rfl,hl,hK⟩:=h
  exact⟨_,H,fun B=>own_deep (pre:=[]) (post:=[]) (fun B H=>hd ns hl B H) hg (flatInt ns) (belowInt ns) (by omega) (by rw[List.length_map,rowsOf_len]) (Nat.le_refl _) rfl rfl rfl B,hK⟩
 ·rename_i t rs
  split at h<;>try exact h.elim
  rename_i e1
  obtain rfl:=Nat.eq_of_beq_eq_true e1
  obtain⟨ns,rfl,hl,hK⟩:=h
  exact⟨_,H,fun B=>hd ns hl B H,hK⟩
theorem intsC(ns:List Int)(hl:ns.length<big):Is (gInts (real Tryz.prog) (MC cInt pInt) (rowsOf cInt ns) (PQ (.bool (ns.all okI)))):=by
 refine⟨?_⟩
 rw[gInts_eq]
 refine mc_mk hl ?_
 exact branch_mk (fun h=>PQ.of (by rw[←okI_any,h];rfl) rfl) (fun h=>PQ.of (by rw[←okI_any,h];rfl) rfl)
theorem ok64:SumOk Tryz.prog 100 227 (sInts MI):=ints_ok fun ns hl B H=>
 pu_mk okp (kn_pu (fun x hx=>by simp only[List.mem_singleton]at hx;subst hx;exact pu116 pu117)) lp_none rfl rfl (intsC ns hl) B H
theorem kn64:KnOk Tryz.prog 100 (WIn 227 MI):=kn_ok (fun x hx=>by simp only[List.mem_singleton]at hx;subst hx;exact ok64) (fun x hx=>by cases hx)
theorem p86C(x:Arm):Is (gP86 (real Tryz.prog) MI (x.v:Int) x.nx (PQ (.bool (pArm x)))):=by
 refine⟨?_⟩
 rw[gP86_eq]
 exact⟨rfl,rfl,own_mk (ns:=[x.nx]) rfl (by simp[big]) (branch_mk (fun h=>PQ.of (by simp_all[pArm]) rfl) (fun h=>PQ.of (by simp_all[pArm]) rfl))⟩
theorem p88C(x:Instr):Is (gP88 (real Tryz.prog) MI (x.op:Int) x.to (x.ak:Int) (x.an:Int) (x.bk:Int) (x.bn:Int) x.n (PQ (.bool (pInstr x)))):=by
 refine⟨?_⟩
 rw[gP88_eq]
 exact⟨rfl,rfl,own_mk (ns:=[x.to,x.n]) rfl (by simp[big]) (branch_mk (fun h=>PQ.of (by cases h1:okI x.to<;>cases h2:okI x.n<;>simp_all[pInstr]) rfl) (fun h=>PQ.of (by cases h1:okI x.to<;>cases h2:okI x.n<;>simp_all[pInstr]) rfl))⟩
theorem p90C(x:Bucket):Is (gP90 (real Tryz.prog) MI (x.w:Int) x.b (PQ (.bool (pBucket x)))):=by
 refine⟨?_⟩
 rw[gP90_eq]
 exact⟨rfl,rfl,own_mk (ns:=[x.b]) rfl (by simp[big]) (branch_mk (fun h=>PQ.of (by simp_all[pBucket]) rfl) (fun h=>PQ.of (by simp_all[pBucket]) rfl))⟩
theorem pu86:PuOk Tryz.prog 100 229 (sP (PM (fun x:Arm => .agg ⟨cArm x⟩) pArm)):=by
 intro args K h
 unfold sP at h
 split at h<;>try exact h.elim
 obtain⟨x,rfl,hK⟩:=h
 exact⟨_,fun B H=>pu_mk okp kn64 lp_none rfl rfl (p86C x) B H,hK⟩
theorem pu88:PuOk Tryz.prog 100 234 (sP (PM (fun x:Instr => .agg ⟨cInstr x⟩) pInstr)):=by
 intro args K h
 unfold sP at h
 split at h<;>try exact h.elim
 obtain⟨x,rfl,hK⟩:=h
 exact⟨_,fun B H=>pu_mk okp kn64 lp_none rfl rfl (p88C x) B H,hK⟩
theorem pu90:PuOk Tryz.prog 100 237 (sP (PM (fun x:Bucket => .agg ⟨cBucket x⟩) pBucket)):=by
 intro args K h
 unfold sP at h
 split at h<;>try exact h.elim
 obtain⟨x,rfl,hK⟩:=h
 exact⟨_,fun B H=>pu_mk okp kn64 lp_none rfl rfl (p90C x) B H,hK⟩
theorem knM(l:PuL)(h:∀x∈l,PuOk Tryz.prog 100 x.1 x.2):KnOk Tryz.prog 100 (howOf S0 Sp0 [(227,sInts MI)] [] l []):=kn_ok (fun x hx=>by simp only[List.mem_singleton]at hx;subst hx;exact ok64) h
theorem mayNodeC(x:ONode)(hf:fitNode x):Is (gMayNode (real Tryz.prog) MI (MC cArm pArm) x.id x.size x.lo x.lw x.lu x.so x.sw (rowsOf cArm x.arms) x.ot (PQ (.bool (mayNode x)))):=by
 refine⟨?_⟩
 rw[gMayNode_eq]
 refine⟨rfl,rfl,own_mk (ns:=[x.id,x.size,x.lo,x.lw,x.lu,x.so,x.sw,x.ot]) rfl (by simp[big]) ?_⟩
 repeat' first
  |refine n_leq (fun _=>?_) (fun _=>?_)
  |refine n_geq (fun _=>?_) (fun _=>?_)
  |refine n_slen ?_
  |refine branch_mk (fun _=>?_) (fun _=>?_)
  |refine mc_mk (by assumption) ?_
  |refine deep_mk (by assumption) ?_
  |refine n_dlen _ (rowsOf_len _ _) ?_
  |(refine PQ.of ?_ rfl;first|(simp_all[mayNode];done)|(simp_all[mayNode]<;>intros<;>omega))
theorem mayNodeH(x:ONode)(hf:fitNode x)(B:Base)(H:Heap):CallH Tryz.prog 100 B 153 [vNode x] H (.returned (.bool (mayNode x))) H:=
 pu_mk okp (knM _ (fun x hx=>by simp only[List.mem_singleton]at hx;subst hx;exact pu85 pu86)) lp_none rfl rfl (mayNodeC x hf) B H
theorem mayFieldC(x:OField)(hf:fitField x):Is (gMayField (real Tryz.prog) MI (MC cArm pArm) x.id (x.base:Int) x.node x.off x.wid (PQ (.bool (mayField x)))):=by
 refine⟨?_⟩
 rw[gMayField_eq]
 refine⟨rfl,rfl,own_mk (ns:=[x.id,x.node,x.off,x.wid]) rfl (by simp[big]) ?_⟩
 repeat' first
  |refine n_leq (fun _=>?_) (fun _=>?_)
  |refine n_geq (fun _=>?_) (fun _=>?_)
  |refine n_slen ?_
  |refine branch_mk (fun _=>?_) (fun _=>?_)
  |refine mc_mk (by assumption) ?_
  |refine deep_mk (by assumption) ?_
  |refine n_dlen _ (rowsOf_len _ _) ?_
  |(refine PQ.of ?_ rfl;first|(simp_all[mayField];done)|(simp_all[mayField]<;>intros<;>omega))
theorem mayFieldH(x:OField)(hf:fitField x)(B:Base)(H:Heap):CallH Tryz.prog 100 B 165 [vField x] H (.returned (.bool (mayField x))) H:=
 pu_mk okp (knM _ (fun x hx=>by cases hx)) lp_none rfl rfl (mayFieldC x hf) B H
theorem mayTableC(x:OTable)(hf:fitTable x):Is (gMayTable (real Tryz.prog) MI (MC cArm pArm) x.id (x.kind:Int) (rowsOf cInt x.keys) x.cap x.miss (PQ (.bool (mayTable x)))):=by
 refine⟨?_⟩
 rw[gMayTable_eq]
 refine⟨rfl,rfl,own_mk (ns:=[x.id,x.cap,x.miss]) rfl (by simp[big]) ?_⟩
 repeat' first
  |refine n_leq (fun _=>?_) (fun _=>?_)
  |refine n_geq (fun _=>?_) (fun _=>?_)
  |refine n_slen ?_
  |refine branch_mk (fun _=>?_) (fun _=>?_)
  |refine mc_mk (by assumption) ?_
  |refine deep_mk (by assumption) ?_
  |refine n_dlen _ (rowsOf_len _ _) ?_
  |(refine PQ.of ?_ rfl;first|(simp_all[mayTable];done)|(simp_all[mayTable]<;>intros<;>omega))
theorem mayTableH(x:OTable)(hf:fitTable x)(B:Base)(H:Heap):CallH Tryz.prog 100 B 170 [vTable x] H (.returned (.bool (mayTable x))) H:=
 pu_mk okp (knM _ (fun x hx=>by cases hx)) lp_none rfl rfl (mayTableC x hf) B H
theorem mayEntryC(x:OEntry)(hf:fitEntry x):Is (gMayEntry (real Tryz.prog) MI (MC cArm pArm) x.tab x.key x.oth x.len x.prio x.blk (rowsOf cNat x.args) x.idle x.hard (x.cook:Int) x.tell (PQ (.bool (mayEntry x)))):=by
 refine⟨?_⟩
 rw[gMayEntry_eq]
 refine⟨rfl,rfl,own_mk (ns:=[x.tab,x.len,x.prio,x.blk]) rfl (by simp[big]) ?_⟩
 repeat' first
  |refine n_leq (fun _=>?_) (fun _=>?_)
  |refine n_geq (fun _=>?_) (fun _=>?_)
  |refine n_slen ?_
  |refine branch_mk (fun _=>?_) (fun _=>?_)
  |refine mc_mk (by assumption) ?_
  |refine deep_mk (by assumption) ?_
  |refine n_dlen _ (rowsOf_len _ _) ?_
  |(refine PQ.of ?_ rfl;first|(simp_all[mayEntry];done)|(simp_all[mayEntry]<;>intros<;>omega))
theorem mayEntryH(x:OEntry)(hf:fitEntry x)(B:Base)(H:Heap):CallH Tryz.prog 100 B 177 [vEntry x] H (.returned (.bool (mayEntry x))) H:=
 pu_mk okp (knM _ (fun x hx=>by cases hx)) lp_none rfl rfl (mayEntryC x hf) B H
theorem mayBlockC(x:OBlock)(hf:fitBlock x):Is (gMayBlock (real Tryz.prog) MI (MC cInstr pInstr) x.id (rowsOf cInstr x.code) (PQ (.bool (mayBlock x)))):=by
 refine⟨?_⟩
 rw[gMayBlock_eq]
 refine⟨rfl,rfl,own_mk (ns:=[x.id]) rfl (by simp[big]) ?_⟩
 repeat' first
  |refine n_leq (fun _=>?_) (fun _=>?_)
  |refine n_geq (fun _=>?_) (fun _=>?_)
  |refine n_slen ?_
  |refine branch_mk (fun _=>?_) (fun _=>?_)
  |refine mc_mk (by assumption) ?_
  |refine deep_mk (by assumption) ?_
  |refine n_dlen _ (rowsOf_len _ _) ?_
  |(refine PQ.of ?_ rfl;first|(simp_all[mayBlock];done)|(simp_all[mayBlock]<;>intros<;>omega))
theorem mayBlockH(x:OBlock)(hf:fitBlock x)(B:Base)(H:Heap):CallH Tryz.prog 100 B 188 [vBlock x] H (.returned (.bool (mayBlock x))) H:=
 pu_mk okp (knM _ (fun x hx=>by simp only[List.mem_singleton]at hx;subst hx;exact pu87 pu88)) lp_none rfl rfl (mayBlockC x hf) B H
theorem mayGroupC(x:OGroup)(hf:fitGroup x):Is (gMayGroup (real Tryz.prog) MI (MC cBucket pBucket) x.id (x.kind:Int) x.fld (rowsOf cBucket x.bks) (PQ (.bool (mayGroup x)))):=by
 refine⟨?_⟩
 rw[gMayGroup_eq]
 refine⟨rfl,rfl,own_mk (ns:=[x.id,x.fld]) rfl (by simp[big]) ?_⟩
 repeat' first
  |refine n_leq (fun _=>?_) (fun _=>?_)
  |refine n_geq (fun _=>?_) (fun _=>?_)
  |refine n_slen ?_
  |refine branch_mk (fun _=>?_) (fun _=>?_)
  |refine mc_mk (by assumption) ?_
  |refine deep_mk (by assumption) ?_
  |refine n_dlen _ (rowsOf_len _ _) ?_
  |(refine PQ.of ?_ rfl;first|(simp_all[mayGroup];done)|(simp_all[mayGroup]<;>intros<;>omega))
theorem mayGroupH(x:OGroup)(hf:fitGroup x)(B:Base)(H:Heap):CallH Tryz.prog 100 B 196 [vGroup x] H (.returned (.bool (mayGroup x))) H:=
 pu_mk okp (knM _ (fun x hx=>by simp only[List.mem_singleton]at hx;subst hx;exact pu89 pu90)) lp_none rfl rfl (mayGroupC x hf) B H
theorem mayMeterC(x:OMeter)(hf:fitMeter x):Is (gMayMeter (real Tryz.prog) MI (MC cArm pArm) x.id x.rate x.burst (PQ (.bool (mayMeter x)))):=by
 refine⟨?_⟩
 rw[gMayMeter_eq]
 refine⟨rfl,rfl,own_mk (ns:=[x.id]) rfl (by simp[big]) ?_⟩
 repeat' first
  |refine n_leq (fun _=>?_) (fun _=>?_)
  |refine n_geq (fun _=>?_) (fun _=>?_)
  |refine n_slen ?_
  |refine branch_mk (fun _=>?_) (fun _=>?_)
  |refine mc_mk (by assumption) ?_
  |refine deep_mk (by assumption) ?_
  |refine n_dlen _ (rowsOf_len _ _) ?_
  |(refine PQ.of ?_ rfl;first|(simp_all[mayMeter];done)|(simp_all[mayMeter]<;>intros<;>omega))
theorem mayMeterH(x:OMeter)(hf:fitMeter x)(B:Base)(H:Heap):CallH Tryz.prog 100 B 204 [vMeter x] H (.returned (.bool (mayMeter x))) H:=
 pu_mk okp (knM _ (fun x hx=>by cases hx)) lp_none rfl rfl (mayMeterC x hf) B H
theorem mayRegsC(x:ORegs)(hf:fitRegs x):Is (gMayRegs (real Tryz.prog) MI (MC cArm pArm) x.id x.size (PQ (.bool (mayRegs x)))):=by
 refine⟨?_⟩
 rw[gMayRegs_eq]
 refine⟨rfl,rfl,own_mk (ns:=[x.id,x.size]) rfl (by simp[big]) ?_⟩
 repeat' first
  |refine n_leq (fun _=>?_) (fun _=>?_)
  |refine n_geq (fun _=>?_) (fun _=>?_)
  |refine n_slen ?_
  |refine branch_mk (fun _=>?_) (fun _=>?_)
  |refine mc_mk (by assumption) ?_
  |refine deep_mk (by assumption) ?_
  |refine n_dlen _ (rowsOf_len _ _) ?_
  |(refine PQ.of ?_ rfl;first|(simp_all[mayRegs];done)|(simp_all[mayRegs]<;>intros<;>omega))
theorem mayRegsH(x:ORegs)(hf:fitRegs x)(B:Base)(H:Heap):CallH Tryz.prog 100 B 208 [vRegs x] H (.returned (.bool (mayRegs x))) H:=
 pu_mk okp (knM _ (fun x hx=>by cases hx)) lp_none rfl rfl (mayRegsC x hf) B H
end
end Go.Proofs.YtblbaohcelldpaaGreatDoor.Ob
namespace Go.Proofs.YtblbaohcelldpaaGreatDoor.Ob
open Go Go.Abs Go.Tlv
set_option maxRecDepth 100000
noncomputable section
end
end Go.Proofs.YtblbaohcelldpaaGreatDoor.Ob
