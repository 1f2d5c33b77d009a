/- . -/
import Derived.Test.YtblbaohcelldpaaGreatDoorQ5
import Derived.Test.YtblbaohcelldpaaGreatDoorQ2
set_option linter.all false
set_option maxRecDepth 100000
namespace Go.Proofs.Ob
open Go Go.Abs Go.Tlv
noncomputable section
def ANB(N:Nd)(ME:MEq)(x y:EP)(K:Value->Prop):Prop:=wpe Tryz.prog N (AP Z0 Zp [] [] [(131,sEq ME)] []) 300 (.call 64 [OI x,OI y] h0) (J6 K)
theorem AMe(N:Nd)(ME:MEq)(x y:EP)(K:Value->Prop):ANB N ME x y K=N.cmp .eql .i64 x.id .i64 y.id (N.cmp .eql .i64 x.size .i64 y.size (N.cmp .eql .i64 x.lo .i64 y.lo (N.cmp .eql .i64 x.lw .i64 y.lw (N.cmp .eql .i64 x.lu .i64 y.lu (N.cmp .eql .i64 x.so .i64 y.so (N.cmp .eql .i64 x.sw .i64 y.sw (N.cmp .eql .i64 x.ot .i64 y.ot (ME (rowsOf D7 x.arms) (rowsOf D7 y.arms) (K (.bool true)) (K (.bool false))) (K (.bool false))) (K (.bool false))) (K (.bool false))) (K (.bool false))) (K (.bool false))) (K (.bool false))) (K (.bool false))) (K (.bool false)):=by kernel_rfl
theorem AQL(x y:EP)(hx:KQ x):Is (ANB (real Tryz.prog) (ATJ D7) x y (fun v=>∃b:Bool,v = .bool b/\(b=true↔x=y))):=by
 refine⟨?_⟩
 rw[AMe]
 exact H5 (fun e_id=>H5 (fun e_size=>H5 (fun e_lo=>H5 (fun e_lw=>H5 (fun e_lu=>H5 (fun e_so=>H5 (fun e_sw=>H5 (fun e_ot=>⟨x.arms,y.arms,rfl,rfl,hx,fun e_arms=>⟨true,rfl,fun _=>AAR (hl:=e_arms) (e_id:=e_id) (e_size:=e_size) (e_lo:=e_lo) (e_lw:=e_lw) (e_lu:=e_lu) (e_so:=e_so) (e_sw:=e_sw) (e_ot:=e_ot),fun _=>rfl⟩,fun h=>⟨false,rfl,CS (fun z:EP=>z.arms) h⟩⟩) (fun h=>⟨false,rfl,CS (fun z:EP=>z.ot) h⟩)) (fun h=>⟨false,rfl,CS (fun z:EP=>z.sw) h⟩)) (fun h=>⟨false,rfl,CS (fun z:EP=>z.so) h⟩)) (fun h=>⟨false,rfl,CS (fun z:EP=>z.lu) h⟩)) (fun h=>⟨false,rfl,CS (fun z:EP=>z.lw) h⟩)) (fun h=>⟨false,rfl,CS (fun z:EP=>z.lo) h⟩)) (fun h=>⟨false,rfl,CS (fun z:EP=>z.size) h⟩)) (fun h=>⟨false,rfl,CS (fun z:EP=>z.id) h⟩)
theorem AQM(x y:EP)(hx:KQ x):∃b:Bool,(b=true↔x=y)/\∀B H,BM Tryz.prog 100 B 64 [OI x,OI y] H (.returned (.bool b)) H:=IZ (EY (pu1 AQQ)) AZ rfl (AQL x y hx)
def ALs(N:Nd)(x y:E9)(K:Value->Prop):Prop:=wpe Tryz.prog N (AP Z0 Zp [] [] [] []) 300 (.call 65 [K6 x,K6 y] h0) (J6 K)
theorem ALt(N:Nd)(x y:E9)(K:Value->Prop):ALs N x y K=N.agEq .eql 34 [.int .i64 x.id,.int .u8 (x.base:Int),.int .i64 x.node,.int .i64 x.off,.int .i64 x.wid] [.int .i64 y.id,.int .u8 (y.base:Int),.int .i64 y.node,.int .i64 y.off,.int .i64 y.wid] (K (.bool true)) (K (.bool false)):=by kernel_rfl
theorem APC(x y:E9):Is (ALs (real Tryz.prog) x y (fun v=>∃b:Bool,v = .bool b/\(b=true↔x=y))):=by
 refine⟨?_⟩
 rw[ALt]
 exact eD (ps:=[(x.id,y.id),((x.base:Int),(y.base:Int)),(x.node,y.node),(x.off,y.off),(x.wid,y.wid)]) (by kernel_rfl) (by kernel_rfl) rfl rfl (fun h=>⟨true,rfl,fun _=>(r9 x y).1 h,fun _=>rfl⟩) (fun h=>⟨false,rfl,fun e=>(by cases e),fun e=>(by rw[(r9 x y).2 e]at h;cases h)⟩)
theorem APD(x y:E9)(hx:NI x):∃b:Bool,(b=true↔x=y)/\∀B H,BM Tryz.prog 100 B 65 [K6 x,K6 y] H (.returned (.bool b)) H:=IZ DC AZ rfl (APC x y)
def ALy(N:Nd)(ME:MEq)(x y:EB)(K:Value->Prop):Prop:=wpe Tryz.prog N (AP Z0 Zp [] [] [(132,sEq ME)] []) 300 (.call 66 [K9 x,K9 y] h0) (J6 K)
theorem ALz(N:Nd)(ME:MEq)(x y:EB)(K:Value->Prop):ALy N ME x y K=N.cmp .eql .i64 x.id .i64 y.id (N.cmp .eql .u8 (x.kind:Int) .u8 (y.kind:Int) (ME (rowsOf EM x.keys) (rowsOf EM y.keys) (N.cmp .eql .i64 x.cap .i64 y.cap (N.cmp .eql .i64 x.miss .i64 y.miss (K (.bool true)) (K (.bool false))) (K (.bool false))) (K (.bool false))) (K (.bool false))) (K (.bool false)):=by kernel_rfl
theorem API(x y:EB)(hx:JF x):Is (ALy (real Tryz.prog) (ATJ EM) x y (fun v=>∃b:Bool,v = .bool b/\(b=true↔x=y))):=by
 refine⟨?_⟩
 rw[ALz]
 exact H5 (fun e_id=>DZ (fun e_kind=>⟨x.keys,y.keys,rfl,rfl,hx,fun e_keys=>H5 (fun e_cap=>H5 (fun e_miss=>⟨true,rfl,fun _=>vY (hl:=e_keys) (e_id:=e_id) (e_kind:=e_kind) (e_cap:=e_cap) (e_miss:=e_miss),fun _=>rfl⟩) (fun h=>⟨false,rfl,CS (fun z:EB=>z.miss) h⟩)) (fun h=>⟨false,rfl,CS (fun z:EB=>z.cap) h⟩),fun h=>⟨false,rfl,CS (fun z:EB=>z.keys) h⟩⟩) (fun h=>⟨false,rfl,CS (fun z:EB=>z.kind) h⟩)) (fun h=>⟨false,rfl,CS (fun z:EB=>z.id) h⟩)
theorem APJ(x y:EB)(hx:JF x):∃b:Bool,(b=true↔x=y)/\∀B H,BM Tryz.prog 100 B 66 [K9 x,K9 y] H (.returned (.bool b)) H:=IZ (EY (pu1 AQR)) AZ rfl (API x y hx)
def ALq(N:Nd)(ME:MEq)(x y:C9)(K:Value->Prop):Prop:=wpe Tryz.prog N (AP Z0 Zp [] [] [(63,sEq ME)] []) 300 (.call 67 [K5 x,K5 y] h0) (J6 K)
theorem ALr(N:Nd)(ME:MEq)(x y:C9)(K:Value->Prop):ALq N ME x y K=N.cmp .eql .i64 x.tab .i64 y.tab (N.scmp .eql x.key y.key (N.scmp .eql x.oth y.oth (N.cmp .eql .i64 x.len .i64 y.len (N.cmp .eql .i64 x.prio .i64 y.prio (N.cmp .eql .i64 x.blk .i64 y.blk (ME (rowsOf DJ x.args) (rowsOf DJ y.args) (N.cmp .eql .i64 x.idle .i64 y.idle (N.cmp .eql .i64 x.hard .i64 y.hard (N.cmp .eql .u64 (x.cook:Int) .u64 (y.cook:Int) (N.bcmp .eql x.tell y.tell (K (.bool true)) (K (.bool false))) (K (.bool false))) (K (.bool false))) (K (.bool false))) (K (.bool false))) (K (.bool false))) (K (.bool false))) (K (.bool false))) (K (.bool false))) (K (.bool false))) (K (.bool false)):=by kernel_rfl
theorem APA(x y:C9)(hx:JD x):Is (ALq (real Tryz.prog) (ATJ DJ) x y (fun v=>∃b:Bool,v = .bool b/\(b=true↔x=y))):=by
 refine⟨?_⟩
 rw[ALr]
 exact H5 (fun e_tab=>OE (fun e_key=>OE (fun e_oth=>H5 (fun e_len=>H5 (fun e_prio=>H5 (fun e_blk=>⟨x.args,y.args,rfl,rfl,hx,fun e_args=>H5 (fun e_idle=>H5 (fun e_hard=>DZ (fun e_cook => .inl ⟨rfl,fun e_tell=>⟨true,rfl,fun _=>vW (hl:=e_args) (e_tab:=e_tab) (e_key:=OC e_key) (e_oth:=OC e_oth) (e_len:=e_len) (e_prio:=e_prio) (e_blk:=e_blk) (e_idle:=e_idle) (e_hard:=e_hard) (e_cook:=e_cook) (e_tell:=by simpa using e_tell),fun _=>rfl⟩,fun h=>⟨false,rfl,CS (fun z:C9=>z.tell) (by simpa using h)⟩⟩) (fun h=>⟨false,rfl,CS (fun z:C9=>z.cook) h⟩)) (fun h=>⟨false,rfl,CS (fun z:C9=>z.hard) h⟩)) (fun h=>⟨false,rfl,CS (fun z:C9=>z.idle) h⟩),fun h=>⟨false,rfl,CS (fun z:C9=>z.args) h⟩⟩) (fun h=>⟨false,rfl,CS (fun z:C9=>z.blk) h⟩)) (fun h=>⟨false,rfl,CS (fun z:C9=>z.prio) h⟩)) (fun h=>⟨false,rfl,CS (fun z:C9=>z.len) h⟩)) (fun h=>⟨false,rfl,CS (fun z:C9=>z.oth) (fun e=>h (by rw[show x.oth=y.oth from e]))⟩)) (fun h=>⟨false,rfl,CS (fun z:C9=>z.key) (fun e=>h (by rw[show x.key=y.key from e]))⟩)) (fun h=>⟨false,rfl,CS (fun z:C9=>z.tab) h⟩)
theorem APB(x y:C9)(hx:JD x):∃b:Bool,(b=true↔x=y)/\∀B H,BM Tryz.prog 100 B 67 [K5 x,K5 y] H (.returned (.bool b)) H:=IZ (EY (pu1 ANH)) AZ rfl (APA x y hx)
def ALo(N:Nd)(ME:MEq)(x y:ES)(K:Value->Prop):Prop:=wpe Tryz.prog N (AP Z0 Zp [] [] [(133,sEq ME)] []) 300 (.call 68 [K4 x,K4 y] h0) (J6 K)
theorem ALp(N:Nd)(ME:MEq)(x y:ES)(K:Value->Prop):ALo N ME x y K=N.cmp .eql .i64 x.id .i64 y.id (ME (rowsOf BN x.code) (rowsOf BN y.code) (K (.bool true)) (K (.bool false))) (K (.bool false)):=by kernel_rfl
theorem APy(x y:ES)(hx:JC x):Is (ALo (real Tryz.prog) (ATJ BN) x y (fun v=>∃b:Bool,v = .bool b/\(b=true↔x=y))):=by
 refine⟨?_⟩
 rw[ALp]
 exact H5 (fun e_id=>⟨x.code,y.code,rfl,rfl,hx,fun e_code=>⟨true,rfl,fun _=>vV (hl:=e_code) (e_id:=e_id),fun _=>rfl⟩,fun h=>⟨false,rfl,CS (fun z:ES=>z.code) h⟩⟩) (fun h=>⟨false,rfl,CS (fun z:ES=>z.id) h⟩)
theorem APz(x y:ES)(hx:JC x):∃b:Bool,(b=true↔x=y)/\∀B H,BM Tryz.prog 100 B 68 [K4 x,K4 y] H (.returned (.bool b)) H:=IZ (EY (pu1 ANZ)) AZ rfl (APy x y hx)
def ALu(N:Nd)(ME:MEq)(x y:EI)(K:Value->Prop):Prop:=wpe Tryz.prog N (AP Z0 Zp [] [] [(134,sEq ME)] []) 300 (.call 69 [K7 x,K7 y] h0) (J6 K)
theorem ALv(N:Nd)(ME:MEq)(x y:EI)(K:Value->Prop):ALu N ME x y K=N.cmp .eql .i64 x.id .i64 y.id (N.cmp .eql .u8 (x.kind:Int) .u8 (y.kind:Int) (N.cmp .eql .i64 x.fld .i64 y.fld (ME (rowsOf BB x.bks) (rowsOf BB y.bks) (K (.bool true)) (K (.bool false))) (K (.bool false))) (K (.bool false))) (K (.bool false)):=by kernel_rfl
theorem APE(x y:EI)(hx:JE x):Is (ALu (real Tryz.prog) (ATJ BB) x y (fun v=>∃b:Bool,v = .bool b/\(b=true↔x=y))):=by
 refine⟨?_⟩
 rw[ALv]
 exact H5 (fun e_id=>DZ (fun e_kind=>H5 (fun e_fld=>⟨x.bks,y.bks,rfl,rfl,hx,fun e_bks=>⟨true,rfl,fun _=>vX (hl:=e_bks) (e_id:=e_id) (e_kind:=e_kind) (e_fld:=e_fld),fun _=>rfl⟩,fun h=>⟨false,rfl,CS (fun z:EI=>z.bks) h⟩⟩) (fun h=>⟨false,rfl,CS (fun z:EI=>z.fld) h⟩)) (fun h=>⟨false,rfl,CS (fun z:EI=>z.kind) h⟩)) (fun h=>⟨false,rfl,CS (fun z:EI=>z.id) h⟩)
theorem APF(x y:EI)(hx:JE x):∃b:Bool,(b=true↔x=y)/\∀B H,BM Tryz.prog 100 B 69 [K7 x,K7 y] H (.returned (.bool b)) H:=IZ (EY (pu1 AMP)) AZ rfl (APE x y hx)
def ALw(N:Nd)(x y:FJ)(K:Value->Prop):Prop:=wpe Tryz.prog N (AP Z0 Zp [] [] [] []) 300 (.call 70 [K8 x,K8 y] h0) (J6 K)
theorem ALx(N:Nd)(x y:FJ)(K:Value->Prop):ALw N x y K=N.agEq .eql 47 [.int .i64 x.id,.int .i64 x.rate,.int .i64 x.burst] [.int .i64 y.id,.int .i64 y.rate,.int .i64 y.burst] (K (.bool true)) (K (.bool false)):=by kernel_rfl
theorem APG(x y:FJ):Is (ALw (real Tryz.prog) x y (fun v=>∃b:Bool,v = .bool b/\(b=true↔x=y))):=by
 refine⟨?_⟩
 rw[ALx]
 exact eD (ps:=[(x.id,y.id),(x.rate,y.rate),(x.burst,y.burst)]) (by kernel_rfl) (by kernel_rfl) rfl rfl (fun h=>⟨true,rfl,fun _=>(sG x y).1 h,fun _=>rfl⟩) (fun h=>⟨false,rfl,fun e=>(by cases e),fun e=>(by rw[(sG x y).2 e]at h;cases h)⟩)
theorem APH(x y:FJ)(hx:NJ x):∃b:Bool,(b=true↔x=y)/\∀B H,BM Tryz.prog 100 B 70 [K8 x,K8 y] H (.returned (.bool b)) H:=IZ DC AZ rfl (APG x y)
def ANC(N:Nd)(x y:IJ)(K:Value->Prop):Prop:=wpe Tryz.prog N (AP Z0 Zp [] [] [] []) 300 (.call 71 [OJ x,OJ y] h0) (J6 K)
theorem AMf(N:Nd)(x y:IJ)(K:Value->Prop):ANC N x y K=N.agEq .eql 49 [.int .i64 x.id,.int .i64 x.size] [.int .i64 y.id,.int .i64 y.size] (K (.bool true)) (K (.bool false)):=by kernel_rfl
theorem AQN(x y:IJ):Is (ANC (real Tryz.prog) x y (fun v=>∃b:Bool,v = .bool b/\(b=true↔x=y))):=by
 refine⟨?_⟩
 rw[AMf]
 exact eD (ps:=[(x.id,y.id),(x.size,y.size)]) (by kernel_rfl) (by kernel_rfl) rfl rfl (fun h=>⟨true,rfl,fun _=>(AA0 x y).1 h,fun _=>rfl⟩) (fun h=>⟨false,rfl,fun e=>(by cases e),fun e=>(by rw[(AA0 x y).2 e]at h;cases h)⟩)
theorem AQO(x y:IJ)(hx:PL x):∃b:Bool,(b=true↔x=y)/\∀B H,BM Tryz.prog 100 B 71 [OJ x,OJ y] H (.returned (.bool b)) H:=IZ DC AZ rfl (AQN x y)
structure MSs where
 s0:MSm
 s1:MSm
 s2:MSm
 s3:MSm
 s4:MSm
 s5:MSm
 s6:MSm
 s7:MSm
def puS(M:MSs)(ME:MEq):PuL:=[(63,sEq ME),(64,sSm M.s0),(65,sSm M.s1),(66,sSm M.s2),(67,sSm M.s3),(68,sSm M.s4),(69,sSm M.s5),(70,sSm M.s6),(71,sSm M.s7)]
def puR(M:MSs)(ME:MEq):PuL:=[(41,sEq ME),(42,sSm M.s0),(43,sSm M.s1),(44,sSm M.s2),(45,sSm M.s3),(46,sSm M.s4),(47,sSm M.s5),(48,sSm M.s6),(49,sSm M.s7)]
def AOY(N:Nd)(M:MSs)(ME:MEq)(x y:A9)(K:Value->Prop):Prop:=wpe Tryz.prog N (AP Z0 Zp [] [] (puS M ME) []) 300 (.call 30 [F8 x,F8 y] h0) (J6 K)
theorem ANU(N:Nd)(M:MSs)(ME:MEq)(x y:A9)(K:Value->Prop):AOY N M ME x y K=N.cmp .neq .u8 (x.a0:Int) .u8 (y.a0:Int) (K (.bool false)) (N.cmp .neq .u32 (x.a1:Int) .u32 (y.a1:Int) (K (.bool false)) (N.cmp .neq .i64 x.a2 .i64 y.a2 (K (.bool false)) (N.cmp .neq .i64 x.a3 .i64 y.a3 (K (.bool false)) (N.cmp .neq .i64 x.a4 .i64 y.a4 (K (.bool false)) (N.cmp .neq .i64 x.a5 .i64 y.a5 (K (.bool false)) (N.cmp .neq .i64 x.a6 .i64 y.a6 (K (.bool false)) (N.cmp .neq .u64 (x.a7:Int) .u64 (y.a7:Int) (K (.bool false)) (N.cmp .neq .u64 (x.a8:Int) .u64 (y.a8:Int) (K (.bool false)) (N.scmp .neq x.a9 y.a9 (K (.bool false)) (ME (rowsOf DJ x.a10) (rowsOf DJ y.a10) (M.s0 (OI x.n) (OI y.n) (M.s1 (K6 x.f) (K6 y.f) (M.s2 (K9 x.t) (K9 y.t) (M.s3 (K5 x.e) (K5 y.e) (M.s4 (K4 x.b) (K4 y.b) (M.s5 (K7 x.g) (K7 y.g) (M.s6 (K8 x.m) (K8 y.m) (M.s7 (OJ x.r) (OJ y.r) (K (.bool true)) (K (.bool false))) (K (.bool false))) (K (.bool false))) (K (.bool false))) (K (.bool false))) (K (.bool false))) (K (.bool false))) (K (.bool false))) (K (.bool false)))))))))))):=by kernel_rfl
def AG6(N:Nd)(M:MSs)(ME:MEq)(x y:A9)(K:Value->Prop):Prop:=wpe Tryz.prog N (AP Z0 Zp [] [] (puR M ME) []) 300 (.call 22 [F8 x,F8 y] h0) (J6 K)
theorem AEI(N:Nd)(M:MSs)(ME:MEq)(x y:A9)(K:Value->Prop):AG6 N M ME x y K=N.cmp .eql .u8 (x.a0:Int) .u8 (y.a0:Int) (N.cmp .eql .u32 (x.a1:Int) .u32 (y.a1:Int) (N.cmp .eql .i64 x.a2 .i64 y.a2 (N.cmp .eql .i64 x.a3 .i64 y.a3 (N.cmp .eql .i64 x.a4 .i64 y.a4 (N.cmp .eql .i64 x.a5 .i64 y.a5 (N.cmp .eql .i64 x.a6 .i64 y.a6 (N.cmp .eql .u64 (x.a7:Int) .u64 (y.a7:Int) (N.cmp .eql .u64 (x.a8:Int) .u64 (y.a8:Int) (N.scmp .eql x.a9 y.a9 (ME (rowsOf DJ x.a10) (rowsOf DJ y.a10) (M.s0 (OI x.n) (OI y.n) (M.s1 (K6 x.f) (K6 y.f) (M.s2 (K9 x.t) (K9 y.t) (M.s3 (K5 x.e) (K5 y.e) (M.s4 (K4 x.b) (K4 y.b) (M.s5 (K7 x.g) (K7 y.g) (M.s6 (K8 x.m) (K8 y.m) (M.s7 (OJ x.r) (OJ y.r) (K (.bool true)) (K (.bool false))) (K (.bool false))) (K (.bool false))) (K (.bool false))) (K (.bool false))) (K (.bool false))) (K (.bool false))) (K (.bool false))) (K (.bool false))) (K (.bool false))) (K (.bool false))) (K (.bool false))) (K (.bool false))) (K (.bool false))) (K (.bool false))) (K (.bool false))) (K (.bool false))) (K (.bool false))) (K (.bool false)):=by kernel_rfl
theorem AKp{x y:A9}(ha0:x.a0=y.a0)(ha1:x.a1=y.a1)(ha2:x.a2=y.a2)(ha3:x.a3=y.a3)(ha4:x.a4=y.a4)(ha5:x.a5=y.a5)(ha6:x.a6=y.a6)(ha7:x.a7=y.a7)(ha8:x.a8=y.a8)(ha9:x.a9=y.a9)(h10:x.a10=y.a10)(hn:x.n=y.n)(hf:x.f=y.f)(ht:x.t=y.t)(he:x.e=y.e)(hb:x.b=y.b)(hg:x.g=y.g)(hm:x.m=y.m)(hr:x.r=y.r):x=y:=by
 cases x;cases y
 simp_all
def MS1{α:Type}(v:α->Value)(fit:α->Prop):MSm:=fun a b A E=>∃x y:α,a=v x/\b=v y/\fit x/\True/\(x=y->A)/\(¬x=y->E)
theorem VB{α:Type}{v:α->Value}{fit:α->Prop}{f:FuncId}(h:∀x y,fit x->∃b:Bool,(b=true↔x=y)/\∀B H,BM Tryz.prog 100 B f [v x,v y] H (.returned (.bool b)) H):FY Tryz.prog 100 f (sSm (MS1 v fit)):=by
 intro args K hs
 unfold sSm at hs
 split at hs<;>try exact hs.elim
 rename_i a b
 obtain⟨x,y,ha,hb,hx,_,hA,hE⟩:=hs
 obtain⟨t,ht,hc⟩:=h x y hx
 refine⟨.bool t,fun B H=>PS (.cons (TU a) (.cons (TU b) .nil)) (by rw[ha,hb];exact hc B H),?_⟩
 cases t with
 |true=>exact hA (ht.1 rfl)
 |false=>exact hE (fun h=>by have:=ht.2 h;cases this)
def ALU:MSs:=⟨MS1 OI KQ,MS1 K6 NI,MS1 K9 JF,MS1 K5 JD,MS1 K4 JC,MS1 K7 JE,MS1 K8 NJ,MS1 OJ PL⟩
theorem ASc(x y:A9)(hx:okP x):Is (AOY (real Tryz.prog) ALU (ATJ DJ) x y (fun v=>∃b:Bool,v = .bool b/\(b=true↔x=y))):=by
 refine⟨?_⟩
 rw[ANU]
 exact MP (fun h=>⟨false,rfl,CS (fun z:A9=>z.a0) h⟩) (fun e_a0=>MP (fun h=>⟨false,rfl,CS (fun z:A9=>z.a1) h⟩) (fun e_a1=>YO (fun h=>⟨false,rfl,CS (fun z:A9=>z.a2) h⟩) (fun e_a2=>YO (fun h=>⟨false,rfl,CS (fun z:A9=>z.a3) h⟩) (fun e_a3=>YO (fun h=>⟨false,rfl,CS (fun z:A9=>z.a4) h⟩) (fun e_a4=>YO (fun h=>⟨false,rfl,CS (fun z:A9=>z.a5) h⟩) (fun e_a5=>YO (fun h=>⟨false,rfl,CS (fun z:A9=>z.a6) h⟩) (fun e_a6=>MP (fun h=>⟨false,rfl,CS (fun z:A9=>z.a7) h⟩) (fun e_a7=>MP (fun h=>⟨false,rfl,CS (fun z:A9=>z.a8) h⟩) (fun e_a8=>FM (fun h=>⟨false,rfl,CS (fun z:A9=>z.a9) (fun e=>h (by rw[show x.a9=y.a9 from e]))⟩) (fun e_a9=>⟨x.a10,y.a10,rfl,rfl,by have:=hx.w;omega,fun e_a10=>⟨x.n,y.n,rfl,rfl,hx.n.1,trivial,fun e_n=>⟨x.f,y.f,rfl,rfl,hx.f.1,trivial,fun e_f=>⟨x.t,y.t,rfl,rfl,hx.t.1,trivial,fun e_t=>⟨x.e,y.e,rfl,rfl,hx.e.1,trivial,fun e_e=>⟨x.b,y.b,rfl,rfl,hx.b.1,trivial,fun e_b=>⟨x.g,y.g,rfl,rfl,hx.g.1,trivial,fun e_g=>⟨x.m,y.m,rfl,rfl,hx.m.1,trivial,fun e_m=>⟨x.r,y.r,rfl,rfl,hx.r.1,trivial,fun e_r=>⟨true,rfl,fun _=>AKp e_a0 e_a1 e_a2 e_a3 e_a4 e_a5 e_a6 e_a7 e_a8 (OC e_a9) e_a10 e_n e_f e_t e_e e_b e_g e_m e_r,fun _=>rfl⟩,fun h=>⟨false,rfl,CS (fun z:A9=>z.r) h⟩⟩,fun h=>⟨false,rfl,CS (fun z:A9=>z.m) h⟩⟩,fun h=>⟨false,rfl,CS (fun z:A9=>z.g) h⟩⟩,fun h=>⟨false,rfl,CS (fun z:A9=>z.b) h⟩⟩,fun h=>⟨false,rfl,CS (fun z:A9=>z.e) h⟩⟩,fun h=>⟨false,rfl,CS (fun z:A9=>z.t) h⟩⟩,fun h=>⟨false,rfl,CS (fun z:A9=>z.f) h⟩⟩,fun h=>⟨false,rfl,CS (fun z:A9=>z.n) h⟩⟩,fun h=>⟨false,rfl,CS (fun z:A9=>z.a10) h⟩⟩))))))))))
theorem ATi:∀x∈puS ALU (ATJ DJ),FY Tryz.prog 100 x.1 x.2:=fun x hx=>by
 simp only[puS,List.mem_cons,List.not_mem_nil,or_false]at hx
 rcases hx with rfl|rfl|rfl|rfl|rfl|rfl|rfl|rfl|rfl
 ·exact ANH
 ·exact VB AQM
 ·exact VB APD
 ·exact VB APJ
 ·exact VB APB
 ·exact VB APz
 ·exact VB APF
 ·exact VB APH
 ·exact VB AQO
theorem ASd(x y:A9)(hx:okP x):∃b:Bool,(b=true↔x=y)/\∀B H,BM Tryz.prog 100 B 30 [F8 x,F8 y] H (.returned (.bool b)) H:=IZ (EY ATi) AZ rfl (ASc x y hx)
theorem AMS(x y:A9)(hx:okP x):Is (AG6 (real Tryz.prog) ALU (ATJ DJ) x y (fun v=>∃b:Bool,v = .bool b/\(b=true↔x=y))):=by
 refine⟨?_⟩
 rw[AEI]
 exact DZ (fun e_a0=>DZ (fun e_a1=>H5 (fun e_a2=>H5 (fun e_a3=>H5 (fun e_a4=>H5 (fun e_a5=>H5 (fun e_a6=>DZ (fun e_a7=>DZ (fun e_a8=>OE (fun e_a9=>⟨x.a10,y.a10,rfl,rfl,by have:=hx.w;omega,fun e_a10=>⟨x.n,y.n,rfl,rfl,hx.n.1,trivial,fun e_n=>⟨x.f,y.f,rfl,rfl,hx.f.1,trivial,fun e_f=>⟨x.t,y.t,rfl,rfl,hx.t.1,trivial,fun e_t=>⟨x.e,y.e,rfl,rfl,hx.e.1,trivial,fun e_e=>⟨x.b,y.b,rfl,rfl,hx.b.1,trivial,fun e_b=>⟨x.g,y.g,rfl,rfl,hx.g.1,trivial,fun e_g=>⟨x.m,y.m,rfl,rfl,hx.m.1,trivial,fun e_m=>⟨x.r,y.r,rfl,rfl,hx.r.1,trivial,fun e_r=>⟨true,rfl,fun _=>AKp e_a0 e_a1 e_a2 e_a3 e_a4 e_a5 e_a6 e_a7 e_a8 (OC e_a9) e_a10 e_n e_f e_t e_e e_b e_g e_m e_r,fun _=>rfl⟩,fun h=>⟨false,rfl,CS (fun z:A9=>z.r) h⟩⟩,fun h=>⟨false,rfl,CS (fun z:A9=>z.m) h⟩⟩,fun h=>⟨false,rfl,CS (fun z:A9=>z.g) h⟩⟩,fun h=>⟨false,rfl,CS (fun z:A9=>z.b) h⟩⟩,fun h=>⟨false,rfl,CS (fun z:A9=>z.e) h⟩⟩,fun h=>⟨false,rfl,CS (fun z:A9=>z.t) h⟩⟩,fun h=>⟨false,rfl,CS (fun z:A9=>z.f) h⟩⟩,fun h=>⟨false,rfl,CS (fun z:A9=>z.n) h⟩⟩,fun h=>⟨false,rfl,CS (fun z:A9=>z.a10) h⟩⟩) (fun h=>⟨false,rfl,CS (fun z:A9=>z.a9) (fun e=>h (by rw[show x.a9=y.a9 from e]))⟩)) (fun h=>⟨false,rfl,CS (fun z:A9=>z.a8) h⟩)) (fun h=>⟨false,rfl,CS (fun z:A9=>z.a7) h⟩)) (fun h=>⟨false,rfl,CS (fun z:A9=>z.a6) h⟩)) (fun h=>⟨false,rfl,CS (fun z:A9=>z.a5) h⟩)) (fun h=>⟨false,rfl,CS (fun z:A9=>z.a4) h⟩)) (fun h=>⟨false,rfl,CS (fun z:A9=>z.a3) h⟩)) (fun h=>⟨false,rfl,CS (fun z:A9=>z.a2) h⟩)) (fun h=>⟨false,rfl,CS (fun z:A9=>z.a1) h⟩)) (fun h=>⟨false,rfl,CS (fun z:A9=>z.a0) h⟩)
end
end Go.Proofs.Ob
namespace Go.Tlv
open Go Go.Abs
structure Cd{β:Type}(get:List UInt8->Option β)(put:β->List UInt8)(good:β->Prop):Prop where
 back:∀a,good a->get (put a)=some a
 ok:∀s a,get s=some a->good a/\put a=s
theorem Cd.inj{β:Type}{get:List UInt8->Option β}{put:β->List UInt8}{good:β->Prop}(C:Cd get put good){a b:β}(ha:good a)(hb:good b)(h:put a=put b):a=b:=by
 have h1:=C.back a ha
 rw[h,C.back b hb]at h1
 exact(Option.some.inj h1).symm
theorem cdI:Cd (BD 2147483647) FN (gdI 2147483647):=⟨(BP 2147483647 (by decide)).back,(BP 2147483647 (by decide)).ok⟩
theorem cdN:Cd (ET 18446744073709551615) nA (gdN 18446744073709551615):=⟨(OU 18446744073709551615 (by decide)).back,(OU 18446744073709551615 (by decide)).ok⟩
def getD(s:List UInt8):Option ByteArray:=some (bytesOf s)
theorem cdD:Cd getD AAh (fun _=>True):=⟨fun a _=>by unfold getD AAh;rw[bytes_eta],fun s a h=>by
 simp only[getD,Option.some.injEq]at h;subst h;exact⟨trivial,rfl⟩⟩
theorem cdW:Cd (F9 JQ 128) (GM BU) (gdL XZ 128) where
  back:=fun l ⟨h1,h2⟩=>by
    have hs:∀s∈l.map BU,s.data.toList.length<=65535:=fun s hs=>by
      obtain⟨a,ha,rfl⟩:=List.mem_map.1 hs
      exact Nat.le_trans (YM.len a (h2 a ha)) (by omega)
    unfold F9 GM EJ
    rw[if_pos (WA hs),show GV (l.map BU)=mQ (l.map BU)from rfl,dM _ 128 0 hs (by simp;exact h1),if_pos rfl]
    exact kJ fun b hb=>YM.back b (h2 b hb)
  ok := fun s l hs=>by
    unfold F9 at hs
    split at hs
    · rename_i h0
      have hd:HY 128 0 s=(0,(HY 128 0 s).2):=Prod.ext h0 rfl
      obtain⟨k1,k2,k3⟩:=bA s.length s 128 0 _ (Nat.le_refl _) hd
      obtain⟨g1,g2⟩:=vI hs
      have g3:=g2 BU fun a b hab=>OC (YM.ok _ _ hab).2
      refine⟨⟨?_,kH (fun a b hab=>(YM.ok _ _ hab).1) hs⟩,?_⟩
      · rw[g1]
        rcases k2 with k2|k2
        · omega
        · rw[k2];simp
      · unfold GM EJ
        rw[g3,if_pos (WA k3)];exact k1
    · cases hs
theorem cdO{α:Type}{step:α->At->Option α}{zero:α}{may:α->Bool}{atts:α->List At}{good:α->Prop}(hm:∀x,good x->may x=true)(hb:∀x,good x->rdE step zero (encS (atts x))=(0,x))(ho:∀s x,rdE step zero s=(0,x)->good x/\encS (atts x)=s):
  Cd (rdO step zero) (fun x=>if may x=true then encS (atts x)else[]) good where
 back:=fun a ha=>by unfold rdO;rw[if_pos (hm a ha),hb a ha];rfl
 ok:=fun s a h=>by
  unfold rdO at h
  split at h
  ·rename_i h0
   simp only[Option.some.injEq]at h
   obtain⟨h1,h2⟩:=ho s a (Prod.ext h0 h)
   exact⟨h1,by rw[if_pos (hm a h1)];exact h2⟩
  ·cases h
theorem AA6:Cd (rdO BQ L8) (fun x=>if JX x=true then encS (GD x)else[]) PD:=cdO (fun _ h=>X0 h) (fun _ h=>vO h) (fun _ _ h=>AFB h)
theorem sV:Cd (rdO CE JK) (fun x=>if I5 x=true then encS (GQ x)else[]) NM:=cdO (fun _ h=>VE h) (fun _ h=>mX h) (fun _ _ h=>ACa h)
theorem tC:Cd (rdO CF JN) (fun x=>if IG x=true then encS (GR x)else[]) NQ:=cdO (fun _ h=>VH h) (fun _ h=>nC h) (fun _ _ h=>ACd h)
theorem sU:Cd (rdO BA JJ) (fun x=>if IB x=true then encS (DL x)else[]) NL:=cdO (fun _ h=>VD h) (fun _ h=>mW h) (fun _ _ h=>AB9 h)
theorem sS:Cd (rdO stepBlock JI) (fun x=>if H9 x=true then encS (I9 x)else[]) NK:=cdO (fun _ h=>VC h) (fun _ h=>mV h) (fun _ _ h=>AB8 h)
theorem sW:Cd (rdO CO JL) (fun x=>if IC x=true then encS (G9 x)else[]) NN:=cdO (fun _ h=>VF h) (fun _ h=>mY h) (fun _ _ h=>ACb h)
theorem sZ:Cd (rdO DF JM) (fun x=>if I6 x=true then encS (IK x)else[]) NP:=cdO (fun _ h=>VG h) (fun _ h=>mZ h) (fun _ _ h=>ACc h)
theorem AA7:Cd (rdO ED L9) (fun x=>if J9 x=true then encS (KF x)else[]) PE:=cdO (fun _ h=>X3 h) (fun _ h=>vP h) (fun _ _ h=>AFC h)
def fld(x:A9)(t:Nat)(s:List UInt8):Option A9:=match t with
 | 1=>(BD 2147483647 s).map fun v=>{x with a2:=v}
 | 2=>(BD 2147483647 s).map fun v=>{x with a3:=v}
 | 3=>(BD 2147483647 s).map fun v=>{x with a4:=v}
 | 4=>(BD 2147483647 s).map fun v=>{x with a5:=v}
 | 5=>(BD 2147483647 s).map fun v=>{x with a6:=v}
 | 6=>(ET 18446744073709551615 s).map fun v=>{x with a7:=v}
 | 7=>(ET 18446744073709551615 s).map fun v=>{x with a8:=v}
 | 8=>(getD s).map fun v=>{x with a9:=v}
 | 9=>(F9 JQ 128 s).map fun v=>{x with a10:=v}
 | 10=>(rdO BQ L8 s).map fun v=>{x with n:=v}
 | 11=>(rdO CE JK s).map fun v=>{x with f:=v}
 | 12=>(rdO CF JN s).map fun v=>{x with t:=v}
 | 13=>(rdO BA JJ s).map fun v=>{x with e:=v}
 | 14=>(rdO stepBlock JI s).map fun v=>{x with b:=v}
 | 15=>(rdO CO JL s).map fun v=>{x with g:=v}
 | 16=>(rdO DF JM s).map fun v=>{x with m:=v}
 | 17=>(rdO ED L9 s).map fun v=>{x with r:=v}
 |_=>none
structure eU(x:A9):Prop where
 a2:(gdI 2147483647) x.a2
 a3:(gdI 2147483647) x.a3
 a4:(gdI 2147483647) x.a4
 a5:(gdI 2147483647) x.a5
 a6:(gdI 2147483647) x.a6
 a7:(gdN 18446744073709551615) x.a7
 a8:(gdN 18446744073709551615) x.a8
 a9:(fun _=>True) x.a9
 a10:(gdL XZ 128) x.a10
 n:(PD) x.n
 f:(NM) x.f
 t:(NQ) x.t
 e:(NL) x.e
 b:(NK) x.b
 g:(NN) x.g
 m:(NP) x.m
 r:(PE) x.r
theorem AL5{x y:A9}{t:Nat}{s:List UInt8}(hx:eU x)(h:fld x t s=some y):eU y/\y.a0=x.a0/\y.a1=x.a1/\(1<=t/\t<=17)/\J5 y t=s/\∀j,j≠t->J5 y j=J5 x j:=by
 unfold fld at h
 split at h
 ·obtain⟨v,hv,rfl⟩:=Option.map_eq_some_iff.1 h
  obtain⟨g1,g2⟩:=cdI.ok _ _ hv
  refine⟨⟨g1,hx.a3,hx.a4,hx.a5,hx.a6,hx.a7,hx.a8,hx.a9,hx.a10,hx.n,hx.f,hx.t,hx.e,hx.b,hx.g,hx.m,hx.r⟩,rfl,rfl,by omega,g2,fun j hj=>?_⟩
  unfold J5;split<;>first|rfl|exact absurd rfl hj
 ·obtain⟨v,hv,rfl⟩:=Option.map_eq_some_iff.1 h
  obtain⟨g1,g2⟩:=cdI.ok _ _ hv
  refine⟨⟨hx.a2,g1,hx.a4,hx.a5,hx.a6,hx.a7,hx.a8,hx.a9,hx.a10,hx.n,hx.f,hx.t,hx.e,hx.b,hx.g,hx.m,hx.r⟩,rfl,rfl,by omega,g2,fun j hj=>?_⟩
  unfold J5;split<;>first|rfl|exact absurd rfl hj
 ·obtain⟨v,hv,rfl⟩:=Option.map_eq_some_iff.1 h
  obtain⟨g1,g2⟩:=cdI.ok _ _ hv
  refine⟨⟨hx.a2,hx.a3,g1,hx.a5,hx.a6,hx.a7,hx.a8,hx.a9,hx.a10,hx.n,hx.f,hx.t,hx.e,hx.b,hx.g,hx.m,hx.r⟩,rfl,rfl,by omega,g2,fun j hj=>?_⟩
  unfold J5;split<;>first|rfl|exact absurd rfl hj
 ·obtain⟨v,hv,rfl⟩:=Option.map_eq_some_iff.1 h
  obtain⟨g1,g2⟩:=cdI.ok _ _ hv
  refine⟨⟨hx.a2,hx.a3,hx.a4,g1,hx.a6,hx.a7,hx.a8,hx.a9,hx.a10,hx.n,hx.f,hx.t,hx.e,hx.b,hx.g,hx.m,hx.r⟩,rfl,rfl,by omega,g2,fun j hj=>?_⟩
  unfold J5;split<;>first|rfl|exact absurd rfl hj
 ·obtain⟨v,hv,rfl⟩:=Option.map_eq_some_iff.1 h
  obtain⟨g1,g2⟩:=cdI.ok _ _ hv
  refine⟨⟨hx.a2,hx.a3,hx.a4,hx.a5,g1,hx.a7,hx.a8,hx.a9,hx.a10,hx.n,hx.f,hx.t,hx.e,hx.b,hx.g,hx.m,hx.r⟩,rfl,rfl,by omega,g2,fun j hj=>?_⟩
  unfold J5;split<;>first|rfl|exact absurd rfl hj
 ·obtain⟨v,hv,rfl⟩:=Option.map_eq_some_iff.1 h
  obtain⟨g1,g2⟩:=cdN.ok _ _ hv
  refine⟨⟨hx.a2,hx.a3,hx.a4,hx.a5,hx.a6,g1,hx.a8,hx.a9,hx.a10,hx.n,hx.f,hx.t,hx.e,hx.b,hx.g,hx.m,hx.r⟩,rfl,rfl,by omega,g2,fun j hj=>?_⟩
  unfold J5;split<;>first|rfl|exact absurd rfl hj
 ·obtain⟨v,hv,rfl⟩:=Option.map_eq_some_iff.1 h
  obtain⟨g1,g2⟩:=cdN.ok _ _ hv
  refine⟨⟨hx.a2,hx.a3,hx.a4,hx.a5,hx.a6,hx.a7,g1,hx.a9,hx.a10,hx.n,hx.f,hx.t,hx.e,hx.b,hx.g,hx.m,hx.r⟩,rfl,rfl,by omega,g2,fun j hj=>?_⟩
  unfold J5;split<;>first|rfl|exact absurd rfl hj
 ·obtain⟨v,hv,rfl⟩:=Option.map_eq_some_iff.1 h
  obtain⟨g1,g2⟩:=cdD.ok _ _ hv
  refine⟨⟨hx.a2,hx.a3,hx.a4,hx.a5,hx.a6,hx.a7,hx.a8,g1,hx.a10,hx.n,hx.f,hx.t,hx.e,hx.b,hx.g,hx.m,hx.r⟩,rfl,rfl,by omega,g2,fun j hj=>?_⟩
  unfold J5;split<;>first|rfl|exact absurd rfl hj
 ·obtain⟨v,hv,rfl⟩:=Option.map_eq_some_iff.1 h
  obtain⟨g1,g2⟩:=cdW.ok _ _ hv
  refine⟨⟨hx.a2,hx.a3,hx.a4,hx.a5,hx.a6,hx.a7,hx.a8,hx.a9,g1,hx.n,hx.f,hx.t,hx.e,hx.b,hx.g,hx.m,hx.r⟩,rfl,rfl,by omega,g2,fun j hj=>?_⟩
  unfold J5;split<;>first|rfl|exact absurd rfl hj
 ·obtain⟨v,hv,rfl⟩:=Option.map_eq_some_iff.1 h
  obtain⟨g1,g2⟩:=AA6.ok _ _ hv
  refine⟨⟨hx.a2,hx.a3,hx.a4,hx.a5,hx.a6,hx.a7,hx.a8,hx.a9,hx.a10,g1,hx.f,hx.t,hx.e,hx.b,hx.g,hx.m,hx.r⟩,rfl,rfl,by omega,g2,fun j hj=>?_⟩
  unfold J5;split<;>first|rfl|exact absurd rfl hj
 ·obtain⟨v,hv,rfl⟩:=Option.map_eq_some_iff.1 h
  obtain⟨g1,g2⟩:=sV.ok _ _ hv
  refine⟨⟨hx.a2,hx.a3,hx.a4,hx.a5,hx.a6,hx.a7,hx.a8,hx.a9,hx.a10,hx.n,g1,hx.t,hx.e,hx.b,hx.g,hx.m,hx.r⟩,rfl,rfl,by omega,g2,fun j hj=>?_⟩
  unfold J5;split<;>first|rfl|exact absurd rfl hj
 ·obtain⟨v,hv,rfl⟩:=Option.map_eq_some_iff.1 h
  obtain⟨g1,g2⟩:=tC.ok _ _ hv
  refine⟨⟨hx.a2,hx.a3,hx.a4,hx.a5,hx.a6,hx.a7,hx.a8,hx.a9,hx.a10,hx.n,hx.f,g1,hx.e,hx.b,hx.g,hx.m,hx.r⟩,rfl,rfl,by omega,g2,fun j hj=>?_⟩
  unfold J5;split<;>first|rfl|exact absurd rfl hj
 ·obtain⟨v,hv,rfl⟩:=Option.map_eq_some_iff.1 h
  obtain⟨g1,g2⟩:=sU.ok _ _ hv
  refine⟨⟨hx.a2,hx.a3,hx.a4,hx.a5,hx.a6,hx.a7,hx.a8,hx.a9,hx.a10,hx.n,hx.f,hx.t,g1,hx.b,hx.g,hx.m,hx.r⟩,rfl,rfl,by omega,g2,fun j hj=>?_⟩
  unfold J5;split<;>first|rfl|exact absurd rfl hj
 ·obtain⟨v,hv,rfl⟩:=Option.map_eq_some_iff.1 h
  obtain⟨g1,g2⟩:=sS.ok _ _ hv
  refine⟨⟨hx.a2,hx.a3,hx.a4,hx.a5,hx.a6,hx.a7,hx.a8,hx.a9,hx.a10,hx.n,hx.f,hx.t,hx.e,g1,hx.g,hx.m,hx.r⟩,rfl,rfl,by omega,g2,fun j hj=>?_⟩
  unfold J5;split<;>first|rfl|exact absurd rfl hj
 ·obtain⟨v,hv,rfl⟩:=Option.map_eq_some_iff.1 h
  obtain⟨g1,g2⟩:=sW.ok _ _ hv
  refine⟨⟨hx.a2,hx.a3,hx.a4,hx.a5,hx.a6,hx.a7,hx.a8,hx.a9,hx.a10,hx.n,hx.f,hx.t,hx.e,hx.b,g1,hx.m,hx.r⟩,rfl,rfl,by omega,g2,fun j hj=>?_⟩
  unfold J5;split<;>first|rfl|exact absurd rfl hj
 ·obtain⟨v,hv,rfl⟩:=Option.map_eq_some_iff.1 h
  obtain⟨g1,g2⟩:=sZ.ok _ _ hv
  refine⟨⟨hx.a2,hx.a3,hx.a4,hx.a5,hx.a6,hx.a7,hx.a8,hx.a9,hx.a10,hx.n,hx.f,hx.t,hx.e,hx.b,hx.g,g1,hx.r⟩,rfl,rfl,by omega,g2,fun j hj=>?_⟩
  unfold J5;split<;>first|rfl|exact absurd rfl hj
 ·obtain⟨v,hv,rfl⟩:=Option.map_eq_some_iff.1 h
  obtain⟨g1,g2⟩:=AA7.ok _ _ hv
  refine⟨⟨hx.a2,hx.a3,hx.a4,hx.a5,hx.a6,hx.a7,hx.a8,hx.a9,hx.a10,hx.n,hx.f,hx.t,hx.e,hx.b,hx.g,hx.m,g1⟩,rfl,rfl,by omega,g2,fun j hj=>?_⟩
  unfold J5;split<;>first|rfl|exact absurd rfl hj
 ·cases h
theorem AGM{x y:A9}(hx:eU x){t:Nat}(h1:1<=t)(h2:t<=17):∃y',fld y t (J5 x t)=some y':=by
 rcases t with _|_|_|_|_|_|_|_|_|_|_|_|_|_|_|_|_|_|t
 ·omega
 ·exact⟨_,congrArg (Option.map _) (cdI.back x.a2 hx.a2)⟩
 ·exact⟨_,congrArg (Option.map _) (cdI.back x.a3 hx.a3)⟩
 ·exact⟨_,congrArg (Option.map _) (cdI.back x.a4 hx.a4)⟩
 ·exact⟨_,congrArg (Option.map _) (cdI.back x.a5 hx.a5)⟩
 ·exact⟨_,congrArg (Option.map _) (cdI.back x.a6 hx.a6)⟩
 ·exact⟨_,congrArg (Option.map _) (cdN.back x.a7 hx.a7)⟩
 ·exact⟨_,congrArg (Option.map _) (cdN.back x.a8 hx.a8)⟩
 ·exact⟨_,rfl⟩
 ·exact⟨_,congrArg (Option.map _) (cdW.back x.a10 hx.a10)⟩
 ·exact⟨_,congrArg (Option.map _) (AA6.back x.n hx.n)⟩
 ·exact⟨_,congrArg (Option.map _) (sV.back x.f hx.f)⟩
 ·exact⟨_,congrArg (Option.map _) (tC.back x.t hx.t)⟩
 ·exact⟨_,congrArg (Option.map _) (sU.back x.e hx.e)⟩
 ·exact⟨_,congrArg (Option.map _) (sS.back x.b hx.b)⟩
 ·exact⟨_,congrArg (Option.map _) (sW.back x.g hx.g)⟩
 ·exact⟨_,congrArg (Option.map _) (sZ.back x.m hx.m)⟩
 ·exact⟨_,congrArg (Option.map _) (AA7.back x.r hx.r)⟩
 ·omega
theorem AKE{x y:A9}(hx:eU x)(hy:eU y)(h0:x.a0=y.a0)(h1:x.a1=y.a1)(h:∀k,1<=k->k<=17->J5 x k=J5 y k):x=y:=by
 have e1:x.a2=y.a2:=cdI.inj hx.a2 hy.a2 (h 1 (by omega) (by omega))
 have e2:x.a3=y.a3:=cdI.inj hx.a3 hy.a3 (h 2 (by omega) (by omega))
 have e3:x.a4=y.a4:=cdI.inj hx.a4 hy.a4 (h 3 (by omega) (by omega))
 have e4:x.a5=y.a5:=cdI.inj hx.a5 hy.a5 (h 4 (by omega) (by omega))
 have e5:x.a6=y.a6:=cdI.inj hx.a6 hy.a6 (h 5 (by omega) (by omega))
 have e6:x.a7=y.a7:=cdN.inj hx.a7 hy.a7 (h 6 (by omega) (by omega))
 have e7:x.a8=y.a8:=cdN.inj hx.a8 hy.a8 (h 7 (by omega) (by omega))
 have e8:x.a9=y.a9:=cdD.inj hx.a9 hy.a9 (h 8 (by omega) (by omega))
 have e9:x.a10=y.a10:=cdW.inj hx.a10 hy.a10 (h 9 (by omega) (by omega))
 have e10:x.n=y.n:=AA6.inj hx.n hy.n (h 10 (by omega) (by omega))
 have e11:x.f=y.f:=sV.inj hx.f hy.f (h 11 (by omega) (by omega))
 have e12:x.t=y.t:=tC.inj hx.t hy.t (h 12 (by omega) (by omega))
 have e13:x.e=y.e:=sU.inj hx.e hy.e (h 13 (by omega) (by omega))
 have e14:x.b=y.b:=sS.inj hx.b hy.b (h 14 (by omega) (by omega))
 have e15:x.g=y.g:=sW.inj hx.g hy.g (h 15 (by omega) (by omega))
 have e16:x.m=y.m:=sZ.inj hx.m hy.m (h 16 (by omega) (by omega))
 have e17:x.r=y.r:=AA7.inj hx.r hy.r (h 17 (by omega) (by omega))
 cases x;cases y
 simp_all
def LC(kd xid:Nat):A9:={PZ with a0:=kd,a1:=xid}
theorem dQ(kd xid:Nat)(k:Nat):J5 (LC kd xid) k=[]:=by
 unfold J5
 split
 ·exact DR
 ·exact DR
 ·exact DR
 ·exact DR
 ·exact DR
 ·exact DR
 ·exact DR
 ·exact rfl
 ·exact rfl
 ·show(if JX L8=true then encS (GD L8)else[])=[]
  rw[if_pos (X0 bQ.z),VY];exact bQ.put_zero
 ·show(if I5 JK=true then encS (GQ JK)else[])=[]
  rw[if_pos (VE XD.z),UC];exact XD.put_zero
 ·show(if IG JN=true then encS (GR JN)else[])=[]
  rw[if_pos (VH XG.z),UF];exact XG.put_zero
 ·show(if IB JJ=true then encS (DL JJ)else[])=[]
  rw[if_pos (VD XC.z),UB];exact XC.put_zero
 ·show(if H9 JI=true then encS (I9 JI)else[])=[]
  rw[if_pos (VC XB.z),UA];exact XB.put_zero
 ·show(if IC JL=true then encS (G9 JL)else[])=[]
  rw[if_pos (VF XE.z),UD];exact XE.put_zero
 ·show(if I6 JM=true then encS (IK JM)else[])=[]
  rw[if_pos (VG XF.z),UE];exact XF.put_zero
 ·show(if J9 L9=true then encS (KF L9)else[])=[]
  rw[if_pos (X3 bR.z),VZ];exact bR.put_zero
 ·rfl
theorem ABL(kd xid:Nat):eU (LC kd xid) where
 a2:=⟨Int.le_refl 0,by show(0:Int)<=2147483647;omega⟩
 a3:=⟨Int.le_refl 0,by show(0:Int)<=2147483647;omega⟩
 a4:=⟨Int.le_refl 0,by show(0:Int)<=2147483647;omega⟩
 a5:=⟨Int.le_refl 0,by show(0:Int)<=2147483647;omega⟩
 a6:=⟨Int.le_refl 0,by show(0:Int)<=2147483647;omega⟩
 a7:=Nat.zero_le _
 a8:=Nat.zero_le _
 a9:=trivial
 a10:=⟨Nat.zero_le _,fun a h=>by cases h⟩
 n:=bQ.z
 f:=XD.z
 t:=XG.z
 e:=XC.z
 b:=XB.z
 g:=XE.z
 m:=XF.z
 r:=bR.z
def JR(kd:Nat)(x:A9)(a:At):Option A9:=
 if a.v.data.toList.length<=65535 then(if hasB kd a.t=true then fld x a.t a.v.data.toList else if a.v.data.toList=[]/\1<=a.t/\a.t<=17 then some x else none)else none
structure zF(kd xid:Nat)(x:A9):Prop where
 k:x.a0=kd
 q:x.a1=xid
 f:eU x
 no:∀t,hasB kd t=false->J5 x t=[]
 len:∀t,(J5 x t).length<=65535
theorem AKS (kd xid:Nat):Sch 17 (JR kd) J5 (zF kd xid) (LC kd xid) where
  no := fun y a h=>by
    unfold JR
    split
    · split
      · cases hf:fld y a.t a.v.data.toList with
        |none=>rfl
        |some z=>
          unfold fld at hf
          split at hf<;>first|omega|cases hf
      · rw[if_neg (by omega)]
    · rfl
  is := fun y a y' hy h=>by
    unfold JR at h
    split at h
    · rename_i hl
      split at h
      · rename_i hh
        obtain⟨g1,g2,g3,_,g4,g5⟩:=AL5 hy.f h
        refine⟨⟨g2.trans hy.k,g3.trans hy.q,g1,fun t ht=>?_,fun t=>?_⟩,g4,g5⟩
        · by_cases e:t=a.t
          · rw[e,hh]at ht;cases ht
          · rw[g5 t e];exact hy.no t ht
        · by_cases e:t=a.t
          · rw[e,g4];exact hl
          · rw[g5 t e];exact hy.len t
      · rename_i hh
        split at h
        · rename_i h0
          simp only[Option.some.injEq]at h;subst h
          have hb:hasB kd a.t=false:=by
            cases hb:hasB kd a.t with
            |false=>rfl
            |true=>exact absurd hb hh
          exact⟨hy,(hy.no _ hb).trans h0.1.symm,fun _ _=>rfl⟩
        · cases h
    · cases h
  back:=fun x y k hx h1 h2=>by
    unfold JR
    rw[if_pos (show(bytesOf (J5 x k)).data.toList.length<=65535 from hx.len k)]
    cases hb:hasB kd k with
    |true=>
      rw[if_pos rfl]
      exact AGM hx.f h1 h2
    |false=>
      rw[if_neg (by simp),if_pos ⟨hx.no k hb,h1,h2⟩]
      exact⟨y,rfl⟩
  inj:=fun x y hx hy h=>AKE hx.f hy.f (hx.k.trans hy.k.symm) (hx.q.trans hy.q.symm) h
  z:=⟨rfl,rfl,ABL kd xid,fun t _=>dQ kd xid t,fun t=>by rw[dQ];exact Nat.zero_le _⟩
  z0:=fun k=>dQ kd xid k
  len:=fun x k hx=>hx.len k
  m:=by omega
structure rgP(x:A9):Prop where
 a0:x.a0<256
 a1:x.a1<4294967296
 a7:x.a7<18446744073709551616
 a8:x.a8<18446744073709551616
 i2 : -9223372036854775808<=x.a2/\x.a2<=9223372036854775807
 i3 : -9223372036854775808<=x.a3/\x.a3<=9223372036854775807
 i4 : -9223372036854775808<=x.a4/\x.a4<=9223372036854775807
 i5 : -9223372036854775808<=x.a5/\x.a5<=9223372036854775807
 i6 : -9223372036854775808<=x.a6/\x.a6<=9223372036854775807
 w:∀y∈x.a10,L6 y
 m:APW x
theorem bV{n:Int}(h1 : -9223372036854775808<=n/\n<=9223372036854775807)(h:A8 n<=2147483647):gdI 2147483647 n:=by
 unfold A8 at h
 unfold gdI
 omega
theorem AAf{x:A9}{t:Nat}(h:t=0∨17<t):J5 x t=[]:=by
 unfold J5
 split<;>first|rfl|omega
theorem APt{x:A9}(h:allM x=true)(t:Nat)(hb:hasB x.a0 t=false):J5 x t=[]:=by
 by_cases ht:1<=t/\t<=17
 ·have:=U6.1 h t ht.1 ht.2
  unfold goM at this
  rw[hb,Bool.or_false,Bool.and_eq_true]at this
  simpa using this.2
 ·exact AAf (by omega)
def AJo(x:A9):List UInt8:=[UInt8.ofNat x.a0,UInt8.ofNat (x.a1 / 16777216 % 256),UInt8.ofNat (x.a1 / 65536 % 256),UInt8.ofNat (x.a1 / 256 % 256),UInt8.ofNat (x.a1 % 256)]
def P9(x:A9):Nat:=if QF x=true then(if JB 0 (JV x)=0 then(if 16379<(encS (JV x)).length then 5 else 0)else 5)else 3
def J7(x:A9):List UInt8:=if P9 x=0 then AJo x++encS (JV x)else[]
theorem AL4{x:A9}:P9 x=3↔QF x=false:=by
 unfold P9
 cases h:QF x with
 |false=>simp
 |true=>
  rw[if_pos rfl]
  split
  ·split<;>simp
  ·simp
theorem AHI{x:A9}(h:QF x=true):allM x=true:=by
 unfold QF at h;simp only[Bool.and_eq_true]at h;exact h.2
structure lnP(x:A9):Prop where
 w:x.a10.length<=140737488355328
 n:x.n.arms.length<=140737488355328
 t:x.t.keys.length<=140737488355328
 e:x.e.args.length<=140737488355328
 b:x.b.code.length<=140737488355328
 g:x.g.bks.length<=140737488355328
end Go.Tlv
