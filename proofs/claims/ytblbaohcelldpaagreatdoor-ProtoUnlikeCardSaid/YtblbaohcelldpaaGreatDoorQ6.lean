/- Are two objects, or two messages, the same: the program, and messages by the reference. -/
import Derived.Test.YtblbaohcelldpaaGreatDoorQ5
set_option linter.all false
namespace Go.Proofs.YtblbaohcelldpaaGreatDoor.Ob
open Go Go.Abs Go.Tlv
set_option maxRecDepth 100000
noncomputable section
def gPsNode(N:Nd)(ME:MEq)(x y:ONode)(K:Value->Prop):Prop:=wpe Tryz.prog N (howOf Z0 Zp [] [] [(131,sEq ME)] []) 300 (.call 64 [vNode x,vNode y] h0) (retV K)
theorem gPsNode_eq(N:Nd)(ME:MEq)(x y:ONode)(K:Value->Prop):gPsNode N ME x y K=N.cmp .eql .i64 x.id .i64 y.id (N.cmp .eql .i64 x.size .i64 y.size (N.cmp .eql .i64 x.lo .i64 y.lo (N.cmp .eql .i64 x.lw .i64 y.lw (N.cmp .eql .i64 x.lu .i64 y.lu (N.cmp .eql .i64 x.so .i64 y.so (N.cmp .eql .i64 x.sw .i64 y.sw (N.cmp .eql .i64 x.ot .i64 y.ot (ME (rowsOf cArm x.arms) (rowsOf cArm y.arms) (K (.bool true)) (K (.bool false))) (K (.bool false))) (K (.bool false))) (K (.bool false))) (K (.bool false))) (K (.bool false))) (K (.bool false))) (K (.bool false))) (K (.bool false)):=by kernel_rfl
theorem psNodeC(x y:ONode)(hx:fitNode x):Is (gPsNode (real Tryz.prog) (MEqr cArm) x y (fun v=>∃b:Bool,v = .bool b/\(b=true↔x=y))):=by
 refine⟨?_⟩
 rw[gPsNode_eq]
 exact n_eql (fun e_id=>n_eql (fun e_size=>n_eql (fun e_lo=>n_eql (fun e_lw=>n_eql (fun e_lu=>n_eql (fun e_so=>n_eql (fun e_sw=>n_eql (fun e_ot=>⟨x.arms,y.arms,rfl,rfl,hx,fun e_arms=>⟨true,rfl,fun _=>sm_ofNode (hl:=e_arms) (e_id:=e_id) (e_size:=e_size) (e_lo:=e_lo) (e_lw:=e_lw) (e_lu:=e_lu) (e_so:=e_so) (e_sw:=e_sw) (e_ot:=e_ot),fun _=>rfl⟩,fun h=>⟨false,rfl,no_eq (fun z:ONode=>z.arms) h⟩⟩) (fun h=>⟨false,rfl,no_eq (fun z:ONode=>z.ot) h⟩)) (fun h=>⟨false,rfl,no_eq (fun z:ONode=>z.sw) h⟩)) (fun h=>⟨false,rfl,no_eq (fun z:ONode=>z.so) h⟩)) (fun h=>⟨false,rfl,no_eq (fun z:ONode=>z.lu) h⟩)) (fun h=>⟨false,rfl,no_eq (fun z:ONode=>z.lw) h⟩)) (fun h=>⟨false,rfl,no_eq (fun z:ONode=>z.lo) h⟩)) (fun h=>⟨false,rfl,no_eq (fun z:ONode=>z.size) h⟩)) (fun h=>⟨false,rfl,no_eq (fun z:ONode=>z.id) h⟩)
theorem psNodeH(x y:ONode)(hx:fitNode x):∃b:Bool,(b=true↔x=y)/\∀B H,CallH Tryz.prog 100 B 64 [vNode x,vNode y] H (.returned (.bool b)) H:=pu_mkB2 (kn_pu (pu1 puEqArm)) lp_none rfl (psNodeC x y hx)
def gPsField(N:Nd)(x y:OField)(K:Value->Prop):Prop:=wpe Tryz.prog N (howOf Z0 Zp [] [] [] []) 300 (.call 65 [vField x,vField y] h0) (retV K)
theorem gPsField_eq(N:Nd)(x y:OField)(K:Value->Prop):gPsField N x y K=N.agEq .eql 34 [.int .i64 x.id,.int .u8 (x.base:Int),.int .i64 x.node,.int .i64 x.off,.int .i64 x.wid] [.int .i64 y.id,.int .u8 (y.base:Int),.int .i64 y.node,.int .i64 y.off,.int .i64 y.wid] (K (.bool true)) (K (.bool false)):=by kernel_rfl
theorem psFieldC(x y:OField):Is (gPsField (real Tryz.prog) x y (fun v=>∃b:Bool,v = .bool b/\(b=true↔x=y))):=by
 refine⟨?_⟩
 rw[gPsField_eq]
 exact n_agEql (ps:=[(x.id,y.id),((x.base:Int),(y.base:Int)),(x.node,y.node),(x.off,y.off),(x.wid,y.wid)]) (by kernel_rfl) (by kernel_rfl) rfl rfl (fun h=>⟨true,rfl,fun _=>(aeField x y).1 h,fun _=>rfl⟩) (fun h=>⟨false,rfl,fun e=>(by cases e),fun e=>(by rw[(aeField x y).2 e]at h;cases h)⟩)
theorem psFieldH(x y:OField)(hx:fitField x):∃b:Bool,(b=true↔x=y)/\∀B H,CallH Tryz.prog 100 B 65 [vField x,vField y] H (.returned (.bool b)) H:=pu_mkB2 kn_none lp_none rfl (psFieldC x y)
def gPsTable(N:Nd)(ME:MEq)(x y:OTable)(K:Value->Prop):Prop:=wpe Tryz.prog N (howOf Z0 Zp [] [] [(132,sEq ME)] []) 300 (.call 66 [vTable x,vTable y] h0) (retV K)
theorem gPsTable_eq(N:Nd)(ME:MEq)(x y:OTable)(K:Value->Prop):gPsTable N ME x y K=N.cmp .eql .i64 x.id .i64 y.id (N.cmp .eql .u8 (x.kind:Int) .u8 (y.kind:Int) (ME (rowsOf cInt x.keys) (rowsOf cInt y.keys) (N.cmp .eql .i64 x.cap .i64 y.cap (N.cmp .eql .i64 x.miss .i64 y.miss (K (.bool true)) (K (.bool false))) (K (.bool false))) (K (.bool false))) (K (.bool false))) (K (.bool false)):=by kernel_rfl
theorem psTableC(x y:OTable)(hx:fitTable x):Is (gPsTable (real Tryz.prog) (MEqr cInt) x y (fun v=>∃b:Bool,v = .bool b/\(b=true↔x=y))):=by
 refine⟨?_⟩
 rw[gPsTable_eq]
 exact n_eql (fun e_id=>n_eqN (fun e_kind=>⟨x.keys,y.keys,rfl,rfl,hx,fun e_keys=>n_eql (fun e_cap=>n_eql (fun e_miss=>⟨true,rfl,fun _=>sm_ofTable (hl:=e_keys) (e_id:=e_id) (e_kind:=e_kind) (e_cap:=e_cap) (e_miss:=e_miss),fun _=>rfl⟩) (fun h=>⟨false,rfl,no_eq (fun z:OTable=>z.miss) h⟩)) (fun h=>⟨false,rfl,no_eq (fun z:OTable=>z.cap) h⟩),fun h=>⟨false,rfl,no_eq (fun z:OTable=>z.keys) h⟩⟩) (fun h=>⟨false,rfl,no_eq (fun z:OTable=>z.kind) h⟩)) (fun h=>⟨false,rfl,no_eq (fun z:OTable=>z.id) h⟩)
theorem psTableH(x y:OTable)(hx:fitTable x):∃b:Bool,(b=true↔x=y)/\∀B H,CallH Tryz.prog 100 B 66 [vTable x,vTable y] H (.returned (.bool b)) H:=pu_mkB2 (kn_pu (pu1 puEqInt)) lp_none rfl (psTableC x y hx)
def gPsEntry(N:Nd)(ME:MEq)(x y:OEntry)(K:Value->Prop):Prop:=wpe Tryz.prog N (howOf Z0 Zp [] [] [(63,sEq ME)] []) 300 (.call 67 [vEntry x,vEntry y] h0) (retV K)
theorem gPsEntry_eq(N:Nd)(ME:MEq)(x y:OEntry)(K:Value->Prop):gPsEntry N ME x y K=N.cmp .eql .i64 x.tab .i64 y.tab (N.scmp .eql x.key y.key (N.scmp .eql x.oth y.oth (N.cmp .eql .i64 x.len .i64 y.len (N.cmp .eql .i64 x.prio .i64 y.prio (N.cmp .eql .i64 x.blk .i64 y.blk (ME (rowsOf cNat x.args) (rowsOf cNat y.args) (N.cmp .eql .i64 x.idle .i64 y.idle (N.cmp .eql .i64 x.hard .i64 y.hard (N.cmp .eql .u64 (x.cook:Int) .u64 (y.cook:Int) (N.bcmp .eql x.tell y.tell (K (.bool true)) (K (.bool false))) (K (.bool false))) (K (.bool false))) (K (.bool false))) (K (.bool false))) (K (.bool false))) (K (.bool false))) (K (.bool false))) (K (.bool false))) (K (.bool false))) (K (.bool false)):=by kernel_rfl
theorem psEntryC(x y:OEntry)(hx:fitEntry x):Is (gPsEntry (real Tryz.prog) (MEqr cNat) x y (fun v=>∃b:Bool,v = .bool b/\(b=true↔x=y))):=by
 refine⟨?_⟩
 rw[gPsEntry_eq]
 exact n_eql (fun e_tab=>n_scmp_eq (fun e_key=>n_scmp_eq (fun e_oth=>n_eql (fun e_len=>n_eql (fun e_prio=>n_eql (fun e_blk=>⟨x.args,y.args,rfl,rfl,hx,fun e_args=>n_eql (fun e_idle=>n_eql (fun e_hard=>n_eqN (fun e_cook => .inl ⟨rfl,fun e_tell=>⟨true,rfl,fun _=>sm_ofEntry (hl:=e_args) (e_tab:=e_tab) (e_key:=bytes_ext e_key) (e_oth:=bytes_ext e_oth) (e_len:=e_len) (e_prio:=e_prio) (e_blk:=e_blk) (e_idle:=e_idle) (e_hard:=e_hard) (e_cook:=e_cook) (e_tell:=by simpa using e_tell),fun _=>rfl⟩,fun h=>⟨false,rfl,no_eq (fun z:OEntry=>z.tell) (by simpa using h)⟩⟩) (fun h=>⟨false,rfl,no_eq (fun z:OEntry=>z.cook) h⟩)) (fun h=>⟨false,rfl,no_eq (fun z:OEntry=>z.hard) h⟩)) (fun h=>⟨false,rfl,no_eq (fun z:OEntry=>z.idle) h⟩),fun h=>⟨false,rfl,no_eq (fun z:OEntry=>z.args) h⟩⟩) (fun h=>⟨false,rfl,no_eq (fun z:OEntry=>z.blk) h⟩)) (fun h=>⟨false,rfl,no_eq (fun z:OEntry=>z.prio) h⟩)) (fun h=>⟨false,rfl,no_eq (fun z:OEntry=>z.len) h⟩)) (fun h=>⟨false,rfl,no_eq (fun z:OEntry=>z.oth) (fun e=>h (by rw[show x.oth=y.oth from e]))⟩)) (fun h=>⟨false,rfl,no_eq (fun z:OEntry=>z.key) (fun e=>h (by rw[show x.key=y.key from e]))⟩)) (fun h=>⟨false,rfl,no_eq (fun z:OEntry=>z.tab) h⟩)
theorem psEntryH(x y:OEntry)(hx:fitEntry x):∃b:Bool,(b=true↔x=y)/\∀B H,CallH Tryz.prog 100 B 67 [vEntry x,vEntry y] H (.returned (.bool b)) H:=pu_mkB2 (kn_pu (pu1 puEqNat)) lp_none rfl (psEntryC x y hx)
def gPsBlock(N:Nd)(ME:MEq)(x y:OBlock)(K:Value->Prop):Prop:=wpe Tryz.prog N (howOf Z0 Zp [] [] [(133,sEq ME)] []) 300 (.call 68 [vBlock x,vBlock y] h0) (retV K)
theorem gPsBlock_eq(N:Nd)(ME:MEq)(x y:OBlock)(K:Value->Prop):gPsBlock N ME x y K=N.cmp .eql .i64 x.id .i64 y.id (ME (rowsOf cInstr x.code) (rowsOf cInstr y.code) (K (.bool true)) (K (.bool false))) (K (.bool false)):=by kernel_rfl
theorem psBlockC(x y:OBlock)(hx:fitBlock x):Is (gPsBlock (real Tryz.prog) (MEqr cInstr) x y (fun v=>∃b:Bool,v = .bool b/\(b=true↔x=y))):=by
 refine⟨?_⟩
 rw[gPsBlock_eq]
 exact n_eql (fun e_id=>⟨x.code,y.code,rfl,rfl,hx,fun e_code=>⟨true,rfl,fun _=>sm_ofBlock (hl:=e_code) (e_id:=e_id),fun _=>rfl⟩,fun h=>⟨false,rfl,no_eq (fun z:OBlock=>z.code) h⟩⟩) (fun h=>⟨false,rfl,no_eq (fun z:OBlock=>z.id) h⟩)
theorem psBlockH(x y:OBlock)(hx:fitBlock x):∃b:Bool,(b=true↔x=y)/\∀B H,CallH Tryz.prog 100 B 68 [vBlock x,vBlock y] H (.returned (.bool b)) H:=pu_mkB2 (kn_pu (pu1 puEqInstr)) lp_none rfl (psBlockC x y hx)
def gPsGroup(N:Nd)(ME:MEq)(x y:OGroup)(K:Value->Prop):Prop:=wpe Tryz.prog N (howOf Z0 Zp [] [] [(134,sEq ME)] []) 300 (.call 69 [vGroup x,vGroup y] h0) (retV K)
theorem gPsGroup_eq(N:Nd)(ME:MEq)(x y:OGroup)(K:Value->Prop):gPsGroup N ME x y K=N.cmp .eql .i64 x.id .i64 y.id (N.cmp .eql .u8 (x.kind:Int) .u8 (y.kind:Int) (N.cmp .eql .i64 x.fld .i64 y.fld (ME (rowsOf cBucket x.bks) (rowsOf cBucket y.bks) (K (.bool true)) (K (.bool false))) (K (.bool false))) (K (.bool false))) (K (.bool false)):=by kernel_rfl
theorem psGroupC(x y:OGroup)(hx:fitGroup x):Is (gPsGroup (real Tryz.prog) (MEqr cBucket) x y (fun v=>∃b:Bool,v = .bool b/\(b=true↔x=y))):=by
 refine⟨?_⟩
 rw[gPsGroup_eq]
 exact n_eql (fun e_id=>n_eqN (fun e_kind=>n_eql (fun e_fld=>⟨x.bks,y.bks,rfl,rfl,hx,fun e_bks=>⟨true,rfl,fun _=>sm_ofGroup (hl:=e_bks) (e_id:=e_id) (e_kind:=e_kind) (e_fld:=e_fld),fun _=>rfl⟩,fun h=>⟨false,rfl,no_eq (fun z:OGroup=>z.bks) h⟩⟩) (fun h=>⟨false,rfl,no_eq (fun z:OGroup=>z.fld) h⟩)) (fun h=>⟨false,rfl,no_eq (fun z:OGroup=>z.kind) h⟩)) (fun h=>⟨false,rfl,no_eq (fun z:OGroup=>z.id) h⟩)
theorem psGroupH(x y:OGroup)(hx:fitGroup x):∃b:Bool,(b=true↔x=y)/\∀B H,CallH Tryz.prog 100 B 69 [vGroup x,vGroup y] H (.returned (.bool b)) H:=pu_mkB2 (kn_pu (pu1 puEqBucket)) lp_none rfl (psGroupC x y hx)
def gPsMeter(N:Nd)(x y:OMeter)(K:Value->Prop):Prop:=wpe Tryz.prog N (howOf Z0 Zp [] [] [] []) 300 (.call 70 [vMeter x,vMeter y] h0) (retV K)
theorem gPsMeter_eq(N:Nd)(x y:OMeter)(K:Value->Prop):gPsMeter N x y K=N.agEq .eql 47 [.int .i64 x.id,.int .i64 x.rate,.int .i64 x.burst] [.int .i64 y.id,.int .i64 y.rate,.int .i64 y.burst] (K (.bool true)) (K (.bool false)):=by kernel_rfl
theorem psMeterC(x y:OMeter):Is (gPsMeter (real Tryz.prog) x y (fun v=>∃b:Bool,v = .bool b/\(b=true↔x=y))):=by
 refine⟨?_⟩
 rw[gPsMeter_eq]
 exact n_agEql (ps:=[(x.id,y.id),(x.rate,y.rate),(x.burst,y.burst)]) (by kernel_rfl) (by kernel_rfl) rfl rfl (fun h=>⟨true,rfl,fun _=>(aeMeter x y).1 h,fun _=>rfl⟩) (fun h=>⟨false,rfl,fun e=>(by cases e),fun e=>(by rw[(aeMeter x y).2 e]at h;cases h)⟩)
theorem psMeterH(x y:OMeter)(hx:fitMeter x):∃b:Bool,(b=true↔x=y)/\∀B H,CallH Tryz.prog 100 B 70 [vMeter x,vMeter y] H (.returned (.bool b)) H:=pu_mkB2 kn_none lp_none rfl (psMeterC x y)
def gPsRegs(N:Nd)(x y:ORegs)(K:Value->Prop):Prop:=wpe Tryz.prog N (howOf Z0 Zp [] [] [] []) 300 (.call 71 [vRegs x,vRegs y] h0) (retV K)
theorem gPsRegs_eq(N:Nd)(x y:ORegs)(K:Value->Prop):gPsRegs N x y K=N.agEq .eql 49 [.int .i64 x.id,.int .i64 x.size] [.int .i64 y.id,.int .i64 y.size] (K (.bool true)) (K (.bool false)):=by kernel_rfl
theorem psRegsC(x y:ORegs):Is (gPsRegs (real Tryz.prog) x y (fun v=>∃b:Bool,v = .bool b/\(b=true↔x=y))):=by
 refine⟨?_⟩
 rw[gPsRegs_eq]
 exact n_agEql (ps:=[(x.id,y.id),(x.size,y.size)]) (by kernel_rfl) (by kernel_rfl) rfl rfl (fun h=>⟨true,rfl,fun _=>(aeRegs x y).1 h,fun _=>rfl⟩) (fun h=>⟨false,rfl,fun e=>(by cases e),fun e=>(by rw[(aeRegs x y).2 e]at h;cases h)⟩)
theorem psRegsH(x y:ORegs)(hx:fitRegs x):∃b:Bool,(b=true↔x=y)/\∀B H,CallH Tryz.prog 100 B 71 [vRegs x,vRegs y] H (.returned (.bool b)) H:=pu_mkB2 kn_none lp_none rfl (psRegsC x y)
structure MSs where
 s0:MSm
 s1:MSm
 s2:MSm
 s3:MSm
 s4:MSm
 s5:MSm
 s6:MSm
 s7:MSm
def puS(M:MSs)(ME:MEq):PuL:=[(63,sEq ME),(64,sSm M.s0),(65,sSm M.s1),(66,sSm M.s2),(67,sSm M.s3),(68,sSm M.s4),(69,sSm M.s5),(70,sSm M.s6),(71,sSm M.s7)]
def gPSame(N:Nd)(M:MSs)(ME:MEq)(x y:OMsg)(K:Value->Prop):Prop:=wpe Tryz.prog N (howOf Z0 Zp [] [] (puS M ME) []) 300 (.call 30 [vMsg x,vMsg y] h0) (retV K)
theorem gPSame_eq(N:Nd)(M:MSs)(ME:MEq)(x y:OMsg)(K:Value->Prop):gPSame N M ME x y K=N.cmp .neq .u8 (x.a0:Int) .u8 (y.a0:Int) (K (.bool false)) (N.cmp .neq .u32 (x.a1:Int) .u32 (y.a1:Int) (K (.bool false)) (N.cmp .neq .i64 x.a2 .i64 y.a2 (K (.bool false)) (N.cmp .neq .i64 x.a3 .i64 y.a3 (K (.bool false)) (N.cmp .neq .i64 x.a4 .i64 y.a4 (K (.bool false)) (N.cmp .neq .i64 x.a5 .i64 y.a5 (K (.bool false)) (N.cmp .neq .i64 x.a6 .i64 y.a6 (K (.bool false)) (N.cmp .neq .u64 (x.a7:Int) .u64 (y.a7:Int) (K (.bool false)) (N.cmp .neq .u64 (x.a8:Int) .u64 (y.a8:Int) (K (.bool false)) (N.scmp .neq x.a9 y.a9 (K (.bool false)) (ME (rowsOf cNat x.a10) (rowsOf cNat y.a10) (M.s0 (vNode x.n) (vNode y.n) (M.s1 (vField x.f) (vField y.f) (M.s2 (vTable x.t) (vTable y.t) (M.s3 (vEntry x.e) (vEntry y.e) (M.s4 (vBlock x.b) (vBlock y.b) (M.s5 (vGroup x.g) (vGroup y.g) (M.s6 (vMeter x.m) (vMeter y.m) (M.s7 (vRegs x.r) (vRegs y.r) (K (.bool true)) (K (.bool false))) (K (.bool false))) (K (.bool false))) (K (.bool false))) (K (.bool false))) (K (.bool false))) (K (.bool false))) (K (.bool false))) (K (.bool false)))))))))))):=by kernel_rfl
theorem msg_eq{x y:OMsg}(ha0:x.a0=y.a0)(ha1:x.a1=y.a1)(ha2:x.a2=y.a2)(ha3:x.a3=y.a3)(ha4:x.a4=y.a4)(ha5:x.a5=y.a5)(ha6:x.a6=y.a6)(ha7:x.a7=y.a7)(ha8:x.a8=y.a8)(ha9:x.a9=y.a9)(h10:x.a10=y.a10)(hn:x.n=y.n)(hf:x.f=y.f)(ht:x.t=y.t)(he:x.e=y.e)(hb:x.b=y.b)(hg:x.g=y.g)(hm:x.m=y.m)(hr:x.r=y.r):x=y:=by
 cases x;cases y
 simp_all
def MS1{α:Type}(v:α->Value)(fit:α->Prop):MSm:=fun a b A E=>∃x y:α,a=v x/\b=v y/\fit x/\True/\(x=y->A)/\(¬x=y->E)
theorem pu_s1{α:Type}{v:α->Value}{fit:α->Prop}{f:FuncId}(h:∀x y,fit x->∃b:Bool,(b=true↔x=y)/\∀B H,CallH Tryz.prog 100 B f [v x,v y] H (.returned (.bool b)) H):PuOk Tryz.prog 100 f (sSm (MS1 v fit)):=by
 intro args K hs
 unfold sSm at hs
 split at hs<;>try exact hs.elim
 rename_i a b
 obtain⟨x,y,ha,hb,hx,_,hA,hE⟩:=hs
 obtain⟨t,ht,hc⟩:=h x y hx
 refine⟨.bool t,fun B H=>callh_weak (.cons (weak_nrmV a) (.cons (weak_nrmV b) .nil)) (by rw[ha,hb];exact hc B H),?_⟩
 cases t with
 |true=>exact hA (ht.1 rfl)
 |false=>exact hE (fun h=>by have:=ht.2 h;cases this)
def MSr1:MSs:=⟨MS1 vNode fitNode,MS1 vField fitField,MS1 vTable fitTable,MS1 vEntry fitEntry,MS1 vBlock fitBlock,MS1 vGroup fitGroup,MS1 vMeter fitMeter,MS1 vRegs fitRegs⟩
theorem pSameC(x y:OMsg)(hx:okP x):Is (gPSame (real Tryz.prog) MSr1 (MEqr cNat) x y (fun v=>∃b:Bool,v = .bool b/\(b=true↔x=y))):=by
 refine⟨?_⟩
 rw[gPSame_eq]
 exact n_neN (fun h=>⟨false,rfl,no_eq (fun z:OMsg=>z.a0) h⟩) (fun e_a0=>n_neN (fun h=>⟨false,rfl,no_eq (fun z:OMsg=>z.a1) h⟩) (fun e_a1=>n_neq (fun h=>⟨false,rfl,no_eq (fun z:OMsg=>z.a2) h⟩) (fun e_a2=>n_neq (fun h=>⟨false,rfl,no_eq (fun z:OMsg=>z.a3) h⟩) (fun e_a3=>n_neq (fun h=>⟨false,rfl,no_eq (fun z:OMsg=>z.a4) h⟩) (fun e_a4=>n_neq (fun h=>⟨false,rfl,no_eq (fun z:OMsg=>z.a5) h⟩) (fun e_a5=>n_neq (fun h=>⟨false,rfl,no_eq (fun z:OMsg=>z.a6) h⟩) (fun e_a6=>n_neN (fun h=>⟨false,rfl,no_eq (fun z:OMsg=>z.a7) h⟩) (fun e_a7=>n_neN (fun h=>⟨false,rfl,no_eq (fun z:OMsg=>z.a8) h⟩) (fun e_a8=>n_scmp_ne (fun h=>⟨false,rfl,no_eq (fun z:OMsg=>z.a9) (fun e=>h (by rw[show x.a9=y.a9 from e]))⟩) (fun e_a9=>⟨x.a10,y.a10,rfl,rfl,by have:=hx.w;omega,fun e_a10=>⟨x.n,y.n,rfl,rfl,hx.n.1,trivial,fun e_n=>⟨x.f,y.f,rfl,rfl,hx.f.1,trivial,fun e_f=>⟨x.t,y.t,rfl,rfl,hx.t.1,trivial,fun e_t=>⟨x.e,y.e,rfl,rfl,hx.e.1,trivial,fun e_e=>⟨x.b,y.b,rfl,rfl,hx.b.1,trivial,fun e_b=>⟨x.g,y.g,rfl,rfl,hx.g.1,trivial,fun e_g=>⟨x.m,y.m,rfl,rfl,hx.m.1,trivial,fun e_m=>⟨x.r,y.r,rfl,rfl,hx.r.1,trivial,fun e_r=>⟨true,rfl,fun _=>msg_eq e_a0 e_a1 e_a2 e_a3 e_a4 e_a5 e_a6 e_a7 e_a8 (bytes_ext e_a9) e_a10 e_n e_f e_t e_e e_b e_g e_m e_r,fun _=>rfl⟩,fun h=>⟨false,rfl,no_eq (fun z:OMsg=>z.r) h⟩⟩,fun h=>⟨false,rfl,no_eq (fun z:OMsg=>z.m) h⟩⟩,fun h=>⟨false,rfl,no_eq (fun z:OMsg=>z.g) h⟩⟩,fun h=>⟨false,rfl,no_eq (fun z:OMsg=>z.b) h⟩⟩,fun h=>⟨false,rfl,no_eq (fun z:OMsg=>z.e) h⟩⟩,fun h=>⟨false,rfl,no_eq (fun z:OMsg=>z.t) h⟩⟩,fun h=>⟨false,rfl,no_eq (fun z:OMsg=>z.f) h⟩⟩,fun h=>⟨false,rfl,no_eq (fun z:OMsg=>z.n) h⟩⟩,fun h=>⟨false,rfl,no_eq (fun z:OMsg=>z.a10) h⟩⟩))))))))))
theorem knPs:∀x∈puS MSr1 (MEqr cNat),PuOk Tryz.prog 100 x.1 x.2:=fun x hx=>by
 simp only[puS,List.mem_cons,List.not_mem_nil,or_false]at hx
 rcases hx with rfl|rfl|rfl|rfl|rfl|rfl|rfl|rfl|rfl
 ·exact puEqNat
 ·exact pu_s1 psNodeH
 ·exact pu_s1 psFieldH
 ·exact pu_s1 psTableH
 ·exact pu_s1 psEntryH
 ·exact pu_s1 psBlockH
 ·exact pu_s1 psGroupH
 ·exact pu_s1 psMeterH
 ·exact pu_s1 psRegsH
theorem pSameH(x y:OMsg)(hx:okP x):∃b:Bool,(b=true↔x=y)/\∀B H,CallH Tryz.prog 100 B 30 [vMsg x,vMsg y] H (.returned (.bool b)) H:=pu_mkB2 (kn_pu knPs) lp_none rfl (pSameC x y hx)
end
end Go.Proofs.YtblbaohcelldpaaGreatDoor.Ob
