/- . -/
import Derived.Test.YtblbaohcelldpaaGreatDoorQ5
set_option linter.all false
set_option maxRecDepth 100000
namespace Go.Proofs.Ob
open Go Go.Abs Go.Tlv
noncomputable section
def ANB(N:Nd)(ME:MEq)(x y:EP)(K:Value->Prop):Prop:=wpe Tryz.prog N (AP Z0 Zp [] [] [(131,sEq ME)] []) 300 (.call 64 [OI x,OI y] h0) (J6 K)
theorem AMe(N:Nd)(ME:MEq)(x y:EP)(K:Value->Prop):ANB N ME x y K=N.cmp .eql .i64 x.id .i64 y.id (N.cmp .eql .i64 x.size .i64 y.size (N.cmp .eql .i64 x.lo .i64 y.lo (N.cmp .eql .i64 x.lw .i64 y.lw (N.cmp .eql .i64 x.lu .i64 y.lu (N.cmp .eql .i64 x.so .i64 y.so (N.cmp .eql .i64 x.sw .i64 y.sw (N.cmp .eql .i64 x.ot .i64 y.ot (ME (rowsOf D7 x.arms) (rowsOf D7 y.arms) (K (.bool true)) (K (.bool false))) (K (.bool false))) (K (.bool false))) (K (.bool false))) (K (.bool false))) (K (.bool false))) (K (.bool false))) (K (.bool false))) (K (.bool false)):=by kernel_rfl
theorem AQL(x y:EP)(hx:KQ x):Is (ANB (real Tryz.prog) (rM D7) x y (fun v=>∃b:Bool,v = .bool b/\(b=true↔x=y))):=by
 refine⟨?_⟩
 rw[AMe]
 exact H5 (fun e_id=>H5 (fun e_size=>H5 (fun e_lo=>H5 (fun e_lw=>H5 (fun e_lu=>H5 (fun e_so=>H5 (fun e_sw=>H5 (fun e_ot=>⟨x.arms,y.arms,rfl,rfl,hx,fun e_arms=>⟨true,rfl,fun _=>AAR (hl:=e_arms) (e_id:=e_id) (e_size:=e_size) (e_lo:=e_lo) (e_lw:=e_lw) (e_lu:=e_lu) (e_so:=e_so) (e_sw:=e_sw) (e_ot:=e_ot),fun _=>rfl⟩,fun h=>⟨false,rfl,CS (fun z:EP=>z.arms) h⟩⟩) (fun h=>⟨false,rfl,CS (fun z:EP=>z.ot) h⟩)) (fun h=>⟨false,rfl,CS (fun z:EP=>z.sw) h⟩)) (fun h=>⟨false,rfl,CS (fun z:EP=>z.so) h⟩)) (fun h=>⟨false,rfl,CS (fun z:EP=>z.lu) h⟩)) (fun h=>⟨false,rfl,CS (fun z:EP=>z.lw) h⟩)) (fun h=>⟨false,rfl,CS (fun z:EP=>z.lo) h⟩)) (fun h=>⟨false,rfl,CS (fun z:EP=>z.size) h⟩)) (fun h=>⟨false,rfl,CS (fun z:EP=>z.id) h⟩)
theorem AQM(x y:EP)(hx:KQ x):∃b:Bool,(b=true↔x=y)/\∀B H,BM Tryz.prog 100 B 64 [OI x,OI y] H (.returned (.bool b)) H:=IZ (EY (pu1 AQQ)) AZ rfl (AQL x y hx)
def ALs(N:Nd)(x y:E9)(K:Value->Prop):Prop:=wpe Tryz.prog N (AP Z0 Zp [] [] [] []) 300 (.call 65 [K6 x,K6 y] h0) (J6 K)
theorem ALt(N:Nd)(x y:E9)(K:Value->Prop):ALs N x y K=N.agEq .eql 34 [.int .i64 x.id,.int .u8 (x.base:Int),.int .i64 x.node,.int .i64 x.off,.int .i64 x.wid] [.int .i64 y.id,.int .u8 (y.base:Int),.int .i64 y.node,.int .i64 y.off,.int .i64 y.wid] (K (.bool true)) (K (.bool false)):=by kernel_rfl
theorem APC(x y:E9):Is (ALs (real Tryz.prog) x y (fun v=>∃b:Bool,v = .bool b/\(b=true↔x=y))):=by
 refine⟨?_⟩
 rw[ALt]
 exact eD (ps:=[(x.id,y.id),((x.base:Int),(y.base:Int)),(x.node,y.node),(x.off,y.off),(x.wid,y.wid)]) (by kernel_rfl) (by kernel_rfl) rfl rfl (fun h=>⟨true,rfl,fun _=>(r9 x y).1 h,fun _=>rfl⟩) (fun h=>⟨false,rfl,fun e=>(by cases e),fun e=>(by rw[(r9 x y).2 e]at h;cases h)⟩)
theorem APD(x y:E9)(hx:NI x):∃b:Bool,(b=true↔x=y)/\∀B H,BM Tryz.prog 100 B 65 [K6 x,K6 y] H (.returned (.bool b)) H:=IZ DC AZ rfl (APC x y)
def ALy(N:Nd)(ME:MEq)(x y:EB)(K:Value->Prop):Prop:=wpe Tryz.prog N (AP Z0 Zp [] [] [(132,sEq ME)] []) 300 (.call 66 [K9 x,K9 y] h0) (J6 K)
theorem ALz(N:Nd)(ME:MEq)(x y:EB)(K:Value->Prop):ALy N ME x y K=N.cmp .eql .i64 x.id .i64 y.id (N.cmp .eql .u8 (x.kind:Int) .u8 (y.kind:Int) (ME (rowsOf EM x.keys) (rowsOf EM y.keys) (N.cmp .eql .i64 x.cap .i64 y.cap (N.cmp .eql .i64 x.miss .i64 y.miss (K (.bool true)) (K (.bool false))) (K (.bool false))) (K (.bool false))) (K (.bool false))) (K (.bool false)):=by kernel_rfl
theorem API(x y:EB)(hx:JF x):Is (ALy (real Tryz.prog) (rM EM) x y (fun v=>∃b:Bool,v = .bool b/\(b=true↔x=y))):=by
 refine⟨?_⟩
 rw[ALz]
 exact H5 (fun e_id=>DZ (fun e_kind=>⟨x.keys,y.keys,rfl,rfl,hx,fun e_keys=>H5 (fun e_cap=>H5 (fun e_miss=>⟨true,rfl,fun _=>vY (hl:=e_keys) (e_id:=e_id) (e_kind:=e_kind) (e_cap:=e_cap) (e_miss:=e_miss),fun _=>rfl⟩) (fun h=>⟨false,rfl,CS (fun z:EB=>z.miss) h⟩)) (fun h=>⟨false,rfl,CS (fun z:EB=>z.cap) h⟩),fun h=>⟨false,rfl,CS (fun z:EB=>z.keys) h⟩⟩) (fun h=>⟨false,rfl,CS (fun z:EB=>z.kind) h⟩)) (fun h=>⟨false,rfl,CS (fun z:EB=>z.id) h⟩)
theorem APJ(x y:EB)(hx:JF x):∃b:Bool,(b=true↔x=y)/\∀B H,BM Tryz.prog 100 B 66 [K9 x,K9 y] H (.returned (.bool b)) H:=IZ (EY (pu1 AQR)) AZ rfl (API x y hx)
def ALq(N:Nd)(ME:MEq)(x y:C9)(K:Value->Prop):Prop:=wpe Tryz.prog N (AP Z0 Zp [] [] [(63,sEq ME)] []) 300 (.call 67 [K5 x,K5 y] h0) (J6 K)
theorem ALr(N:Nd)(ME:MEq)(x y:C9)(K:Value->Prop):ALq N ME x y K=N.cmp .eql .i64 x.tab .i64 y.tab (N.scmp .eql x.key y.key (N.scmp .eql x.oth y.oth (N.cmp .eql .i64 x.len .i64 y.len (N.cmp .eql .i64 x.prio .i64 y.prio (N.cmp .eql .i64 x.blk .i64 y.blk (ME (rowsOf DJ x.args) (rowsOf DJ y.args) (N.cmp .eql .i64 x.idle .i64 y.idle (N.cmp .eql .i64 x.hard .i64 y.hard (N.cmp .eql .u64 (x.cook:Int) .u64 (y.cook:Int) (N.bcmp .eql x.tell y.tell (K (.bool true)) (K (.bool false))) (K (.bool false))) (K (.bool false))) (K (.bool false))) (K (.bool false))) (K (.bool false))) (K (.bool false))) (K (.bool false))) (K (.bool false))) (K (.bool false))) (K (.bool false)):=by kernel_rfl
theorem APA(x y:C9)(hx:JD x):Is (ALq (real Tryz.prog) (rM DJ) x y (fun v=>∃b:Bool,v = .bool b/\(b=true↔x=y))):=by
 refine⟨?_⟩
 rw[ALr]
 exact H5 (fun e_tab=>OE (fun e_key=>OE (fun e_oth=>H5 (fun e_len=>H5 (fun e_prio=>H5 (fun e_blk=>⟨x.args,y.args,rfl,rfl,hx,fun e_args=>H5 (fun e_idle=>H5 (fun e_hard=>DZ (fun e_cook => .inl ⟨rfl,fun e_tell=>⟨true,rfl,fun _=>vW (hl:=e_args) (e_tab:=e_tab) (e_key:=OC e_key) (e_oth:=OC e_oth) (e_len:=e_len) (e_prio:=e_prio) (e_blk:=e_blk) (e_idle:=e_idle) (e_hard:=e_hard) (e_cook:=e_cook) (e_tell:=by simpa using e_tell),fun _=>rfl⟩,fun h=>⟨false,rfl,CS (fun z:C9=>z.tell) (by simpa using h)⟩⟩) (fun h=>⟨false,rfl,CS (fun z:C9=>z.cook) h⟩)) (fun h=>⟨false,rfl,CS (fun z:C9=>z.hard) h⟩)) (fun h=>⟨false,rfl,CS (fun z:C9=>z.idle) h⟩),fun h=>⟨false,rfl,CS (fun z:C9=>z.args) h⟩⟩) (fun h=>⟨false,rfl,CS (fun z:C9=>z.blk) h⟩)) (fun h=>⟨false,rfl,CS (fun z:C9=>z.prio) h⟩)) (fun h=>⟨false,rfl,CS (fun z:C9=>z.len) h⟩)) (fun h=>⟨false,rfl,CS (fun z:C9=>z.oth) (fun e=>h (by rw[show x.oth=y.oth from e]))⟩)) (fun h=>⟨false,rfl,CS (fun z:C9=>z.key) (fun e=>h (by rw[show x.key=y.key from e]))⟩)) (fun h=>⟨false,rfl,CS (fun z:C9=>z.tab) h⟩)
theorem APB(x y:C9)(hx:JD x):∃b:Bool,(b=true↔x=y)/\∀B H,BM Tryz.prog 100 B 67 [K5 x,K5 y] H (.returned (.bool b)) H:=IZ (EY (pu1 ANH)) AZ rfl (APA x y hx)
def ALo(N:Nd)(ME:MEq)(x y:ES)(K:Value->Prop):Prop:=wpe Tryz.prog N (AP Z0 Zp [] [] [(133,sEq ME)] []) 300 (.call 68 [K4 x,K4 y] h0) (J6 K)
theorem ALp(N:Nd)(ME:MEq)(x y:ES)(K:Value->Prop):ALo N ME x y K=N.cmp .eql .i64 x.id .i64 y.id (ME (rowsOf BN x.code) (rowsOf BN y.code) (K (.bool true)) (K (.bool false))) (K (.bool false)):=by kernel_rfl
theorem APy(x y:ES)(hx:JC x):Is (ALo (real Tryz.prog) (rM BN) x y (fun v=>∃b:Bool,v = .bool b/\(b=true↔x=y))):=by
 refine⟨?_⟩
 rw[ALp]
 exact H5 (fun e_id=>⟨x.code,y.code,rfl,rfl,hx,fun e_code=>⟨true,rfl,fun _=>vV (hl:=e_code) (e_id:=e_id),fun _=>rfl⟩,fun h=>⟨false,rfl,CS (fun z:ES=>z.code) h⟩⟩) (fun h=>⟨false,rfl,CS (fun z:ES=>z.id) h⟩)
theorem APz(x y:ES)(hx:JC x):∃b:Bool,(b=true↔x=y)/\∀B H,BM Tryz.prog 100 B 68 [K4 x,K4 y] H (.returned (.bool b)) H:=IZ (EY (pu1 ANZ)) AZ rfl (APy x y hx)
def ALu(N:Nd)(ME:MEq)(x y:EI)(K:Value->Prop):Prop:=wpe Tryz.prog N (AP Z0 Zp [] [] [(134,sEq ME)] []) 300 (.call 69 [K7 x,K7 y] h0) (J6 K)
theorem ALv(N:Nd)(ME:MEq)(x y:EI)(K:Value->Prop):ALu N ME x y K=N.cmp .eql .i64 x.id .i64 y.id (N.cmp .eql .u8 (x.kind:Int) .u8 (y.kind:Int) (N.cmp .eql .i64 x.fld .i64 y.fld (ME (rowsOf BB x.bks) (rowsOf BB y.bks) (K (.bool true)) (K (.bool false))) (K (.bool false))) (K (.bool false))) (K (.bool false)):=by kernel_rfl
theorem APE(x y:EI)(hx:JE x):Is (ALu (real Tryz.prog) (rM BB) x y (fun v=>∃b:Bool,v = .bool b/\(b=true↔x=y))):=by
 refine⟨?_⟩
 rw[ALv]
 exact H5 (fun e_id=>DZ (fun e_kind=>H5 (fun e_fld=>⟨x.bks,y.bks,rfl,rfl,hx,fun e_bks=>⟨true,rfl,fun _=>vX (hl:=e_bks) (e_id:=e_id) (e_kind:=e_kind) (e_fld:=e_fld),fun _=>rfl⟩,fun h=>⟨false,rfl,CS (fun z:EI=>z.bks) h⟩⟩) (fun h=>⟨false,rfl,CS (fun z:EI=>z.fld) h⟩)) (fun h=>⟨false,rfl,CS (fun z:EI=>z.kind) h⟩)) (fun h=>⟨false,rfl,CS (fun z:EI=>z.id) h⟩)
theorem APF(x y:EI)(hx:JE x):∃b:Bool,(b=true↔x=y)/\∀B H,BM Tryz.prog 100 B 69 [K7 x,K7 y] H (.returned (.bool b)) H:=IZ (EY (pu1 AMP)) AZ rfl (APE x y hx)
def ALw(N:Nd)(x y:FJ)(K:Value->Prop):Prop:=wpe Tryz.prog N (AP Z0 Zp [] [] [] []) 300 (.call 70 [K8 x,K8 y] h0) (J6 K)
theorem ALx(N:Nd)(x y:FJ)(K:Value->Prop):ALw N x y K=N.agEq .eql 47 [.int .i64 x.id,.int .i64 x.rate,.int .i64 x.burst] [.int .i64 y.id,.int .i64 y.rate,.int .i64 y.burst] (K (.bool true)) (K (.bool false)):=by kernel_rfl
theorem APG(x y:FJ):Is (ALw (real Tryz.prog) x y (fun v=>∃b:Bool,v = .bool b/\(b=true↔x=y))):=by
 refine⟨?_⟩
 rw[ALx]
 exact eD (ps:=[(x.id,y.id),(x.rate,y.rate),(x.burst,y.burst)]) (by kernel_rfl) (by kernel_rfl) rfl rfl (fun h=>⟨true,rfl,fun _=>(sG x y).1 h,fun _=>rfl⟩) (fun h=>⟨false,rfl,fun e=>(by cases e),fun e=>(by rw[(sG x y).2 e]at h;cases h)⟩)
theorem APH(x y:FJ)(hx:NJ x):∃b:Bool,(b=true↔x=y)/\∀B H,BM Tryz.prog 100 B 70 [K8 x,K8 y] H (.returned (.bool b)) H:=IZ DC AZ rfl (APG x y)
def ANC(N:Nd)(x y:IJ)(K:Value->Prop):Prop:=wpe Tryz.prog N (AP Z0 Zp [] [] [] []) 300 (.call 71 [OJ x,OJ y] h0) (J6 K)
theorem AMf(N:Nd)(x y:IJ)(K:Value->Prop):ANC N x y K=N.agEq .eql 49 [.int .i64 x.id,.int .i64 x.size] [.int .i64 y.id,.int .i64 y.size] (K (.bool true)) (K (.bool false)):=by kernel_rfl
theorem AQN(x y:IJ):Is (ANC (real Tryz.prog) x y (fun v=>∃b:Bool,v = .bool b/\(b=true↔x=y))):=by
 refine⟨?_⟩
 rw[AMf]
 exact eD (ps:=[(x.id,y.id),(x.size,y.size)]) (by kernel_rfl) (by kernel_rfl) rfl rfl (fun h=>⟨true,rfl,fun _=>(AA0 x y).1 h,fun _=>rfl⟩) (fun h=>⟨false,rfl,fun e=>(by cases e),fun e=>(by rw[(AA0 x y).2 e]at h;cases h)⟩)
theorem AQO(x y:IJ)(hx:PL x):∃b:Bool,(b=true↔x=y)/\∀B H,BM Tryz.prog 100 B 71 [OJ x,OJ y] H (.returned (.bool b)) H:=IZ DC AZ rfl (AQN x y)
structure MSs where
 s0:MSm
 s1:MSm
 s2:MSm
 s3:MSm
 s4:MSm
 s5:MSm
 s6:MSm
 s7:MSm
def puS(M:MSs)(ME:MEq):PuL:=[(63,sEq ME),(64,sSm M.s0),(65,sSm M.s1),(66,sSm M.s2),(67,sSm M.s3),(68,sSm M.s4),(69,sSm M.s5),(70,sSm M.s6),(71,sSm M.s7)]
def puR(M:MSs)(ME:MEq):PuL:=[(41,sEq ME),(42,sSm M.s0),(43,sSm M.s1),(44,sSm M.s2),(45,sSm M.s3),(46,sSm M.s4),(47,sSm M.s5),(48,sSm M.s6),(49,sSm M.s7)]
def AOY(N:Nd)(M:MSs)(ME:MEq)(x y:A9)(K:Value->Prop):Prop:=wpe Tryz.prog N (AP Z0 Zp [] [] (puS M ME) []) 300 (.call 30 [F8 x,F8 y] h0) (J6 K)
theorem ANU(N:Nd)(M:MSs)(ME:MEq)(x y:A9)(K:Value->Prop):AOY N M ME x y K=N.cmp .neq .u8 (x.a0:Int) .u8 (y.a0:Int) (K (.bool false)) (N.cmp .neq .u32 (x.a1:Int) .u32 (y.a1:Int) (K (.bool false)) (N.cmp .neq .i64 x.a2 .i64 y.a2 (K (.bool false)) (N.cmp .neq .i64 x.a3 .i64 y.a3 (K (.bool false)) (N.cmp .neq .i64 x.a4 .i64 y.a4 (K (.bool false)) (N.cmp .neq .i64 x.a5 .i64 y.a5 (K (.bool false)) (N.cmp .neq .i64 x.a6 .i64 y.a6 (K (.bool false)) (N.cmp .neq .u64 (x.a7:Int) .u64 (y.a7:Int) (K (.bool false)) (N.cmp .neq .u64 (x.a8:Int) .u64 (y.a8:Int) (K (.bool false)) (N.scmp .neq x.a9 y.a9 (K (.bool false)) (ME (rowsOf DJ x.a10) (rowsOf DJ y.a10) (M.s0 (OI x.n) (OI y.n) (M.s1 (K6 x.f) (K6 y.f) (M.s2 (K9 x.t) (K9 y.t) (M.s3 (K5 x.e) (K5 y.e) (M.s4 (K4 x.b) (K4 y.b) (M.s5 (K7 x.g) (K7 y.g) (M.s6 (K8 x.m) (K8 y.m) (M.s7 (OJ x.r) (OJ y.r) (K (.bool true)) (K (.bool false))) (K (.bool false))) (K (.bool false))) (K (.bool false))) (K (.bool false))) (K (.bool false))) (K (.bool false))) (K (.bool false))) (K (.bool false)))))))))))):=by kernel_rfl
def AG6(N:Nd)(M:MSs)(ME:MEq)(x y:A9)(K:Value->Prop):Prop:=wpe Tryz.prog N (AP Z0 Zp [] [] (puR M ME) []) 300 (.call 22 [F8 x,F8 y] h0) (J6 K)
theorem AEI(N:Nd)(M:MSs)(ME:MEq)(x y:A9)(K:Value->Prop):AG6 N M ME x y K=N.cmp .eql .u8 (x.a0:Int) .u8 (y.a0:Int) (N.cmp .eql .u32 (x.a1:Int) .u32 (y.a1:Int) (N.cmp .eql .i64 x.a2 .i64 y.a2 (N.cmp .eql .i64 x.a3 .i64 y.a3 (N.cmp .eql .i64 x.a4 .i64 y.a4 (N.cmp .eql .i64 x.a5 .i64 y.a5 (N.cmp .eql .i64 x.a6 .i64 y.a6 (N.cmp .eql .u64 (x.a7:Int) .u64 (y.a7:Int) (N.cmp .eql .u64 (x.a8:Int) .u64 (y.a8:Int) (N.scmp .eql x.a9 y.a9 (ME (rowsOf DJ x.a10) (rowsOf DJ y.a10) (M.s0 (OI x.n) (OI y.n) (M.s1 (K6 x.f) (K6 y.f) (M.s2 (K9 x.t) (K9 y.t) (M.s3 (K5 x.e) (K5 y.e) (M.s4 (K4 x.b) (K4 y.b) (M.s5 (K7 x.g) (K7 y.g) (M.s6 (K8 x.m) (K8 y.m) (M.s7 (OJ x.r) (OJ y.r) (K (.bool true)) (K (.bool false))) (K (.bool false))) (K (.bool false))) (K (.bool false))) (K (.bool false))) (K (.bool false))) (K (.bool false))) (K (.bool false))) (K (.bool false))) (K (.bool false))) (K (.bool false))) (K (.bool false))) (K (.bool false))) (K (.bool false))) (K (.bool false))) (K (.bool false))) (K (.bool false))) (K (.bool false))) (K (.bool false)):=by kernel_rfl
theorem AKp{x y:A9}(ha0:x.a0=y.a0)(ha1:x.a1=y.a1)(ha2:x.a2=y.a2)(ha3:x.a3=y.a3)(ha4:x.a4=y.a4)(ha5:x.a5=y.a5)(ha6:x.a6=y.a6)(ha7:x.a7=y.a7)(ha8:x.a8=y.a8)(ha9:x.a9=y.a9)(h10:x.a10=y.a10)(hn:x.n=y.n)(hf:x.f=y.f)(ht:x.t=y.t)(he:x.e=y.e)(hb:x.b=y.b)(hg:x.g=y.g)(hm:x.m=y.m)(hr:x.r=y.r):x=y:=by
 cases x;cases y
 simp_all
def MS1{α:Type}(v:α->Value)(fit:α->Prop):MSm:=fun a b A E=>∃x y:α,a=v x/\b=v y/\fit x/\True/\(x=y->A)/\(¬x=y->E)
theorem VB{α:Type}{v:α->Value}{fit:α->Prop}{f:FuncId}(h:∀x y,fit x->∃b:Bool,(b=true↔x=y)/\∀B H,BM Tryz.prog 100 B f [v x,v y] H (.returned (.bool b)) H):FY Tryz.prog 100 f (sSm (MS1 v fit)):=by
 intro args K hs
 unfold sSm at hs
 split at hs<;>try exact hs.elim
 rename_i a b
 obtain⟨x,y,ha,hb,hx,_,hA,hE⟩:=hs
 obtain⟨t,ht,hc⟩:=h x y hx
 refine⟨.bool t,fun B H=>PS (.cons (TU a) (.cons (TU b) .nil)) (by rw[ha,hb];exact hc B H),?_⟩
 cases t with
 |true=>exact hA (ht.1 rfl)
 |false=>exact hE (fun h=>by have:=ht.2 h;cases this)
def ALU:MSs:=⟨MS1 OI KQ,MS1 K6 NI,MS1 K9 JF,MS1 K5 JD,MS1 K4 JC,MS1 K7 JE,MS1 K8 NJ,MS1 OJ PL⟩
theorem ASc(x y:A9)(hx:okP x):Is (AOY (real Tryz.prog) ALU (rM DJ) x y (fun v=>∃b:Bool,v = .bool b/\(b=true↔x=y))):=by
 refine⟨?_⟩
 rw[ANU]
 exact MH (fun h=>⟨false,rfl,CS (fun z:A9=>z.a0) h⟩) (fun e_a0=>MH (fun h=>⟨false,rfl,CS (fun z:A9=>z.a1) h⟩) (fun e_a1=>YO (fun h=>⟨false,rfl,CS (fun z:A9=>z.a2) h⟩) (fun e_a2=>YO (fun h=>⟨false,rfl,CS (fun z:A9=>z.a3) h⟩) (fun e_a3=>YO (fun h=>⟨false,rfl,CS (fun z:A9=>z.a4) h⟩) (fun e_a4=>YO (fun h=>⟨false,rfl,CS (fun z:A9=>z.a5) h⟩) (fun e_a5=>YO (fun h=>⟨false,rfl,CS (fun z:A9=>z.a6) h⟩) (fun e_a6=>MH (fun h=>⟨false,rfl,CS (fun z:A9=>z.a7) h⟩) (fun e_a7=>MH (fun h=>⟨false,rfl,CS (fun z:A9=>z.a8) h⟩) (fun e_a8=>FM (fun h=>⟨false,rfl,CS (fun z:A9=>z.a9) (fun e=>h (by rw[show x.a9=y.a9 from e]))⟩) (fun e_a9=>⟨x.a10,y.a10,rfl,rfl,by have:=hx.w;omega,fun e_a10=>⟨x.n,y.n,rfl,rfl,hx.n.1,trivial,fun e_n=>⟨x.f,y.f,rfl,rfl,hx.f.1,trivial,fun e_f=>⟨x.t,y.t,rfl,rfl,hx.t.1,trivial,fun e_t=>⟨x.e,y.e,rfl,rfl,hx.e.1,trivial,fun e_e=>⟨x.b,y.b,rfl,rfl,hx.b.1,trivial,fun e_b=>⟨x.g,y.g,rfl,rfl,hx.g.1,trivial,fun e_g=>⟨x.m,y.m,rfl,rfl,hx.m.1,trivial,fun e_m=>⟨x.r,y.r,rfl,rfl,hx.r.1,trivial,fun e_r=>⟨true,rfl,fun _=>AKp e_a0 e_a1 e_a2 e_a3 e_a4 e_a5 e_a6 e_a7 e_a8 (OC e_a9) e_a10 e_n e_f e_t e_e e_b e_g e_m e_r,fun _=>rfl⟩,fun h=>⟨false,rfl,CS (fun z:A9=>z.r) h⟩⟩,fun h=>⟨false,rfl,CS (fun z:A9=>z.m) h⟩⟩,fun h=>⟨false,rfl,CS (fun z:A9=>z.g) h⟩⟩,fun h=>⟨false,rfl,CS (fun z:A9=>z.b) h⟩⟩,fun h=>⟨false,rfl,CS (fun z:A9=>z.e) h⟩⟩,fun h=>⟨false,rfl,CS (fun z:A9=>z.t) h⟩⟩,fun h=>⟨false,rfl,CS (fun z:A9=>z.f) h⟩⟩,fun h=>⟨false,rfl,CS (fun z:A9=>z.n) h⟩⟩,fun h=>⟨false,rfl,CS (fun z:A9=>z.a10) h⟩⟩))))))))))
theorem ATi:∀x∈puS ALU (rM DJ),FY Tryz.prog 100 x.1 x.2:=fun x hx=>by
 simp only[puS,List.mem_cons,List.not_mem_nil,or_false]at hx
 rcases hx with rfl|rfl|rfl|rfl|rfl|rfl|rfl|rfl|rfl
 ·exact ANH
 ·exact VB AQM
 ·exact VB APD
 ·exact VB APJ
 ·exact VB APB
 ·exact VB APz
 ·exact VB APF
 ·exact VB APH
 ·exact VB AQO
theorem ASd(x y:A9)(hx:okP x):∃b:Bool,(b=true↔x=y)/\∀B H,BM Tryz.prog 100 B 30 [F8 x,F8 y] H (.returned (.bool b)) H:=IZ (EY ATi) AZ rfl (ASc x y hx)
theorem AMS(x y:A9)(hx:okP x):Is (AG6 (real Tryz.prog) ALU (rM DJ) x y (fun v=>∃b:Bool,v = .bool b/\(b=true↔x=y))):=by
 refine⟨?_⟩
 rw[AEI]
 exact DZ (fun e_a0=>DZ (fun e_a1=>H5 (fun e_a2=>H5 (fun e_a3=>H5 (fun e_a4=>H5 (fun e_a5=>H5 (fun e_a6=>DZ (fun e_a7=>DZ (fun e_a8=>OE (fun e_a9=>⟨x.a10,y.a10,rfl,rfl,by have:=hx.w;omega,fun e_a10=>⟨x.n,y.n,rfl,rfl,hx.n.1,trivial,fun e_n=>⟨x.f,y.f,rfl,rfl,hx.f.1,trivial,fun e_f=>⟨x.t,y.t,rfl,rfl,hx.t.1,trivial,fun e_t=>⟨x.e,y.e,rfl,rfl,hx.e.1,trivial,fun e_e=>⟨x.b,y.b,rfl,rfl,hx.b.1,trivial,fun e_b=>⟨x.g,y.g,rfl,rfl,hx.g.1,trivial,fun e_g=>⟨x.m,y.m,rfl,rfl,hx.m.1,trivial,fun e_m=>⟨x.r,y.r,rfl,rfl,hx.r.1,trivial,fun e_r=>⟨true,rfl,fun _=>AKp e_a0 e_a1 e_a2 e_a3 e_a4 e_a5 e_a6 e_a7 e_a8 (OC e_a9) e_a10 e_n e_f e_t e_e e_b e_g e_m e_r,fun _=>rfl⟩,fun h=>⟨false,rfl,CS (fun z:A9=>z.r) h⟩⟩,fun h=>⟨false,rfl,CS (fun z:A9=>z.m) h⟩⟩,fun h=>⟨false,rfl,CS (fun z:A9=>z.g) h⟩⟩,fun h=>⟨false,rfl,CS (fun z:A9=>z.b) h⟩⟩,fun h=>⟨false,rfl,CS (fun z:A9=>z.e) h⟩⟩,fun h=>⟨false,rfl,CS (fun z:A9=>z.t) h⟩⟩,fun h=>⟨false,rfl,CS (fun z:A9=>z.f) h⟩⟩,fun h=>⟨false,rfl,CS (fun z:A9=>z.n) h⟩⟩,fun h=>⟨false,rfl,CS (fun z:A9=>z.a10) h⟩⟩) (fun h=>⟨false,rfl,CS (fun z:A9=>z.a9) (fun e=>h (by rw[show x.a9=y.a9 from e]))⟩)) (fun h=>⟨false,rfl,CS (fun z:A9=>z.a8) h⟩)) (fun h=>⟨false,rfl,CS (fun z:A9=>z.a7) h⟩)) (fun h=>⟨false,rfl,CS (fun z:A9=>z.a6) h⟩)) (fun h=>⟨false,rfl,CS (fun z:A9=>z.a5) h⟩)) (fun h=>⟨false,rfl,CS (fun z:A9=>z.a4) h⟩)) (fun h=>⟨false,rfl,CS (fun z:A9=>z.a3) h⟩)) (fun h=>⟨false,rfl,CS (fun z:A9=>z.a2) h⟩)) (fun h=>⟨false,rfl,CS (fun z:A9=>z.a1) h⟩)) (fun h=>⟨false,rfl,CS (fun z:A9=>z.a0) h⟩)
end
end Go.Proofs.Ob
