/- Objects and items read by the reference: what the code asks, for any kind. -/
import Derived.Test.YtblbaohcelldpaaT2
set_option linter.all false
namespace Go.Proofs.Ytblbaohcelldpaa.Ob
open Go Go.Abs Go.Tlv
set_option maxRecDepth 100000
noncomputable section
structure RK1(α:Type) where
 f:FuncId
 n:Nat
 ty:TypeId
 cw:α->Value->List Value
 rws:α->List Value
 z:α
 er:Int->Value
 no:Value
 ok:Value
variable {α:Type}
abbrev RK1.zs(κ:RK1 α):List Value:=κ.cw κ.z nilV
def RK1.o(κ:RK1 α)(cs:List Value):Option AObj:=some (.cells cs κ.ty κ.zs.length false true)
abbrev RK1.c(κ:RK1 α)(x:α):List Value:=κ.cw x (dsl (κ.rws x))
abbrev LG(α:Type):=Code->Nat->List Value->List (Option AObj)->(α->Prop)->Prop->Prop
def sLpG(κ:RK1 α)(L:LG α):LpS:=lpS [2,3,4] fun c n vals obs K=>L c n vals obs (fun x=>K (.exit 0) [pA 100,top,pA 101] [κ.o κ.zs,κ.o (κ.c x)]) (K .ret [pA 100,κ.no,top] [κ.o κ.zs,none])
abbrev MDe2:=ByteArray->(List Value->Int->Prop)->Prop
def gG(κ:RK1 α)(N:Nd)(M:MDe2)(L:LG α)(s:ByteArray)(K:Value->Prop):Prop:=wpe Try.prog N (howOf Z0 Zp [] [(6,(κ.n,([2,4,5,7],sLpG κ L)))] [(63,sDe2 M)] []) 300 (.call κ.f [.string s] h0) (retV K)
def bG(κ:RK1 α)(N:Nd)(M:MDe2)(L:LG α)(s:ByteArray)(K:Value->Prop):Prop:=
 M s fun rs e=>N.cmp .neq .i64 e .i64 0 (K (.tuple ⟨[.agg ⟨κ.zs⟩,κ.er e]⟩)) (L (loopIn Try.prog κ.f 6) κ.n [pA 100,pA 101,dsl rs,.int .i64 0] [κ.o κ.zs,κ.o κ.zs] (fun x=>K (.tuple ⟨[.agg ⟨κ.c x⟩,κ.ok]⟩)) (K (.tuple ⟨[.agg ⟨κ.zs⟩,κ.no]⟩)))
abbrev NoK:=Option AObj->List (Option AObj)->Prop
abbrev Ask:=(List Value->Option AObj)->Nd->List Value->Int->List Value->(List Value->List (Option AObj)->Prop)->NoK->Prop
def atR(N:Nd)(rs:List Value)(i:Int)(K:Int->ByteArray->Prop):Prop:=N.dget rs i 2 fun l=>N.rdI .u8 l 0 fun z=>N.rdS l 1 fun s=>K z s
abbrev Cv:=Option TypeId×IntKind
abbrev cU:Cv:=(none,.u64)
abbrev cB:Cv:=(some 5,.u8)
abbrev cW4:Cv:=(some 22,.u32)
abbrev cI:Cv:=(some 3,.i64)
abbrev cG:Cv:=(some 2,.i64)
def cvA(N:Nd)(c:Cv)(z:Int)(K:Int->Prop):Prop:=match c.1 with
 |none=>K z
 |some t=>N.conv 23 t .u64 z c.2 K
def askN(M:MNt)(most:Int)(k:Cv)(j:Nat):Ask:=fun O N rs i cs nx no=>atR N rs i fun _ s=>M s most (fun n=>cvA N k n fun v=>nx (cs.set j (.int k.2 v)) []) (cvA N k 0 fun v=>no (O (cs.set j (.int k.2 v))) [])
def askS(j:Nat):Ask:=fun O N rs i cs nx no=>atR N rs i fun _ s=>atR N rs i fun _ s2=>N.slen s2 fun n=>N.cmp .leq .i64 n .i64 32 (nx (cs.set j (.string s)) []) (no (O (cs.set j (.string s))) [])
def askB(M:MNt)(j:Nat):Ask:=fun O N rs i cs nx no=>atR N rs i fun _ s=>M s 1 (fun n=>N.cmp .eql .u64 n .u64 1 (nx (cs.set j (.bool true)) []) (nx (cs.set j (.bool false)) [])) (N.cmp .eql .u64 0 .u64 1 (no (O (cs.set j (.bool true))) []) (no (O (cs.set j (.bool false))) []))
def chA(O:List Value->Option AObj)(N:Nd)(rs:List Value)(i:Int)(cs:List Value)(nx:List Value->List (Option AObj)->Prop)(no:NoK)(z:Int):List (Int×Ask)->Prop
 | []=>no (O cs) []
 |(t,A)::r=>N.cmp .eql .u8 z .u8 t (A O N rs i cs nx no) (chA O N rs i cs nx no z r)
abbrev BK:=List Value->List (Option AObj)->Prop
abbrev OT:=Exit->List Value->List (Option AObj)->Prop
def nxG(κ:RK1 α)(N:Nd)(rs:List Value)(i:Int)(back:BK)(cs:List Value)(ex:List (Option AObj)):Prop:=N.ari .add .i64 i .i64 1 fun j=>([]:List Deferred)=[]/\back [pA 100,pA 101,dsl rs,.int .i64 j] (κ.o κ.zs::κ.o cs::ex)
def noG(κ:RK1 α)(out:OT)(ob:Option AObj)(ex:List (Option AObj)):Prop:=([]:List Deferred)=[]/\out .ret [pA 100,κ.no,pA 101] (κ.o κ.zs::ob::ex)
def bGR(κ:RK1 α)(fs:List (Int×Ask))(N:Nd)(x:α)(w:Value)(rs:List Value)(i:Int)(back:BK)(out:OT):Prop:=
 N.dlen rs fun n=>N.cmp .lss .i64 i .i64 (n:Int) (atR N rs i fun z _=>chA κ.o N rs i (κ.cw x w) (nxG κ N rs i back) (noG κ out) z fs) (([]:List Deferred)=[]/\out (.exit 0) [pA 100,top,pA 101] [κ.o κ.zs,κ.o (κ.cw x w)])
def gGR(κ:RK1 α)(W:How)(N:Nd)(x:α)(w:Value)(rs:List Value)(i:Int)(back:BK)(out:OT):Prop:=
 wpe Try.prog N W 300 (.code false (loopIn Try.prog κ.f 6) (stOf 100 κ.n [2,4,5,7] [] ([pA 100,pA 101,dsl rs,.int .i64 i],[κ.o κ.zs,κ.o (κ.cw x w)]))) (roundQ 100 [2,4,5,7] [2,3,4] κ.n [] back out)
abbrev wG(M:MNt):How:=howOf Z0 Zp [] [] [(64,sRb M)] []
abbrev LJ:=Code->Nat->List Value->List (Option AObj)->(Value->Prop)->Prop->Prop
def sLpJ(p:Nat)(L:LJ):LpS:=lpS [2,4,5,7,9] fun c n vals obs K=>match vals,obs with
 | [a,b,l,i,_,_,_],[z,some (.cells cs e sz lo ow)]=>L c n vals obs (fun v=>K (.exit 3) [a,b,l,i,.bool true] [z,some (.cells (cs.set p v) e sz lo ow)]) (K (.exit 3) [a,b,l,i,.bool false] [z,none])
 |_,_=>False
abbrev MIt2:=ByteArray->Int->(List Value->Bool->Prop)->Prop
def askL(f n key p:Nat)(zo:Option AObj)(MI:MIt2)(L:LJ)(m:Int):Ask:=fun O N rs i cs nx no=>atR N rs i fun _ s=>MI s m fun rs2 b=>
 L (loopIn Try.prog f key) n [pA 100,pA 101,dsl rs,.int .i64 i,.bool b,dsl rs2,.int .i64 0] [zo,O cs] (fun v=>nx (cs.set p v) []) (no none [])
abbrev El:=Nd->ByteArray->(List Value->Bool->Prop)->Prop
def elN(M:MNt)(most:Int)(k:Cv):El:=fun N s K=>M s most (fun n=>cvA N k n fun v=>K [.int k.2 v] true) (cvA N k 0 fun v=>K [.int k.2 v] false)
abbrev M1(β:Type):=ByteArray->(β->Bool->Prop)->Prop
def s1K{β:Type}(c:β->List Value)(M:M1 β):List Value->(Value->Prop)->Prop
 | [.string s],K=>M s fun x b=>K (.tuple ⟨[.agg ⟨c x⟩,.bool b]⟩)
 |_,_=>False
def el1{β:Type}(c:β->List Value)(M:M1 β):El:=fun _ s K=>M s fun x b=>K (c x) b
structure LK1 where
 key:Nat
 ty:TypeId
 sz:Nat
 by_:Nat
 d:Nat
def outJ(κ:RK1 α)(x:α)(rs:List Value)(i:Int)(b:Bool)(k:Nat)(ob:Option AObj)(out:OT):Prop:=([]:List Deferred)=[]/\out (.exit 3) [pA 100,pA 101,dsl rs,.int .i64 i,.bool b] [κ.o κ.zs,κ.o (κ.cw x (mkS 102 k)),ob]
def bJ(κ:RK1 α)(y:LK1)(el:El)(N:Nd)(x:α)(rs:List Value)(i:Int)(b:Bool)(rs2:List Value)(k:Nat)(ob:Option AObj)(j:Int)(back:BK)(out:OT):Prop:=
 N.dlen rs2 fun n=>N.cmp .lss .i64 j .i64 (n:Int) (branch b (N.dget rs2 j 1 fun l=>N.rdS l 0 fun s=>el N s fun cs b'=>N.base true k k ob y.ty y.sz fun vs=>N.appX k vs 1 cs y.sz y.by_ fun vs' k'=>N.ari .add .i64 j .i64 1 fun j'=>
   ([]:List Deferred)=[]/\back [pA 100,pA 101,dsl rs,.int .i64 i,.bool b',dsl rs2,.int .i64 j'] (κ.o κ.zs::κ.o (κ.cw x (.slice (some ⟨103+y.d,0,none⟩) k' k'))::none::(List.replicate y.d (some (.cells cs y.ty y.sz false true))++[some (.cells vs' y.ty y.sz true true)])))
  (outJ κ x rs i b k ob out)) (outJ κ x rs i b k ob out)
def gJ(κ:RK1 α)(y:LK1)(W:How)(N:Nd)(x:α)(rs:List Value)(i:Int)(b:Bool)(rs2:List Value)(k:Nat)(ob:Option AObj)(j:Int)(back:BK)(out:OT):Prop:=
 wpe Try.prog N W 300 (.code false (loopIn Try.prog κ.f y.key) (stOf 100 κ.n [2,4,5,7,9,10,12] [] ([pA 100,pA 101,dsl rs,.int .i64 i,.bool b,dsl rs2,.int .i64 j],[κ.o κ.zs,κ.o (κ.cw x (mkS 102 k)),ob]))) (roundQ 100 [2,4,5,7,9,10,12] [2,4,5,7,9] κ.n [] back out)
abbrev wL(n key p:Nat)(M:MNt)(MI:MIt2)(L:LJ):How:=howOf Z0 Zp [] [(key,(n,([2,4,5,7,9,10,12],sLpJ p L)))] [(64,sRb M),(65,sIb MI)] []
abbrev w1{β:Type}(f:FuncId)(c:β->List Value)(M:M1 β):How:=howOf (syB 102) Zp [] [] [(f,s1K c M)] []
abbrev wN(M:MNt):How:=howOf (syB 102) Zp [] [] [(64,sRb M)] []
def erB(_:Int):Value := .bool false
def erI(e:Int):Value := .int .i64 e
def kAr:RK1 Arm:=⟨66,61,76,fun x _=>cArm x,fun _=>[],zArm,erB,.bool false,.bool true⟩
def fAr(M:MNt):List (Int×Ask):=[(1,askN M 4294967295 cW4 0),(2,askN M 2147483647 cI 1)]
theorem gAr_eq(N:Nd)(M:MDe2)(L:LG Arm)(s:ByteArray)(K:Value->Prop):gG kAr N M L s K=bG kAr N M L s K:=by kernel_rfl
theorem gArR_eq(M:MNt)(N:Nd)(x:Arm)(w:Value)(rs:List Value)(i:Int)(back:BK)(out:OT):gGR kAr (wG M) N x w rs i back out=bGR kAr (fAr M) N x w rs i back out:=by kernel_rfl
def kIn:RK1 Instr:=⟨67,133,70,fun x _=>cInstr x,fun _=>[],zInstr,erB,.bool false,.bool true⟩
def fIn(M:MNt):List (Int×Ask):=[(1,askN M 255 cB 0),(2,askN M 2147483647 cI 1),(3,askN M 255 cB 2),(4,askN M 18446744073709551615 cU 3),(5,askN M 255 cB 4),(6,askN M 18446744073709551615 cU 5),(7,askN M 2147483647 cI 6)]
theorem gIn_eq(N:Nd)(M:MDe2)(L:LG Instr)(s:ByteArray)(K:Value->Prop):gG kIn N M L s K=bG kIn N M L s K:=by kernel_rfl
theorem gInR_eq(M:MNt)(N:Nd)(x:Instr)(w:Value)(rs:List Value)(i:Int)(back:BK)(out:OT):gGR kIn (wG M) N x w rs i back out=bGR kIn (fIn M) N x w rs i back out:=by kernel_rfl
def kBu:RK1 Bucket:=⟨68,60,82,fun x _=>cBucket x,fun _=>[],zBucket,erB,.bool false,.bool true⟩
def fBu(M:MNt):List (Int×Ask):=[(1,askN M 18446744073709551615 cU 0),(2,askN M 2147483647 cI 1)]
theorem gBu_eq(N:Nd)(M:MDe2)(L:LG Bucket)(s:ByteArray)(K:Value->Prop):gG kBu N M L s K=bG kBu N M L s K:=by kernel_rfl
theorem gBuR_eq(M:MNt)(N:Nd)(x:Bucket)(w:Value)(rs:List Value)(i:Int)(back:BK)(out:OT):gGR kBu (wG M) N x w rs i back out=bGR kBu (fBu M) N x w rs i back out:=by kernel_rfl
def kFi:RK1 OField:=⟨38,104,29,fun x _=>[.int .i64 x.id,.int .u8 (x.base:Int),.int .i64 x.node,.int .i64 x.off,.int .i64 x.wid],fun _=>[],zField,erI,.int .i64 3,.int .i64 0⟩
def fFi(M:MNt):List (Int×Ask):=[(1,askN M 2147483647 cI 0),(2,askN M 255 cB 1),(3,askN M 2147483647 cI 2),(4,askN M 2147483647 cI 3),(5,askN M 2147483647 cI 4)]
theorem gFi_eq(N:Nd)(M:MDe2)(L:LG OField)(s:ByteArray)(K:Value->Prop):gG kFi N M L s K=bG kFi N M L s K:=by kernel_rfl
theorem gFiR_eq(M:MNt)(N:Nd)(x:OField)(w:Value)(rs:List Value)(i:Int)(back:BK)(out:OT):gGR kFi (wG M) N x w rs i back out=bGR kFi (fFi M) N x w rs i back out:=by kernel_rfl
def kMe:RK1 OMeter:=⟨43,76,42,fun x _=>[.int .i64 x.id,.int .i64 x.rate,.int .i64 x.burst],fun _=>[],zMeter,erI,.int .i64 3,.int .i64 0⟩
def fMe(M:MNt):List (Int×Ask):=[(1,askN M 2147483647 cI 0),(2,askN M 9223372036854775807 cG 1),(3,askN M 9223372036854775807 cG 2)]
theorem gMe_eq(N:Nd)(M:MDe2)(L:LG OMeter)(s:ByteArray)(K:Value->Prop):gG kMe N M L s K=bG kMe N M L s K:=by kernel_rfl
theorem gMeR_eq(M:MNt)(N:Nd)(x:OMeter)(w:Value)(rs:List Value)(i:Int)(back:BK)(out:OT):gGR kMe (wG M) N x w rs i back out=bGR kMe (fMe M) N x w rs i back out:=by kernel_rfl
def kRg:RK1 ORegs:=⟨44,62,44,fun x _=>[.int .i64 x.id,.int .i64 x.size],fun _=>[],zRegs,erI,.int .i64 3,.int .i64 0⟩
def fRg(M:MNt):List (Int×Ask):=[(1,askN M 2147483647 cI 0),(2,askN M 2147483647 cI 1)]
theorem gRg_eq(N:Nd)(M:MDe2)(L:LG ORegs)(s:ByteArray)(K:Value->Prop):gG kRg N M L s K=bG kRg N M L s K:=by kernel_rfl
theorem gRgR_eq(M:MNt)(N:Nd)(x:ORegs)(w:Value)(rs:List Value)(i:Int)(back:BK)(out:OT):gGR kRg (wG M) N x w rs i back out=bGR kRg (fRg M) N x w rs i back out:=by kernel_rfl
def kNo:RK1 ONode:=⟨37,187,27,fun x w=>[.int .i64 x.id,.int .i64 x.size,.int .i64 x.lo,.int .i64 x.lw,.int .i64 x.lu,.int .i64 x.so,.int .i64 x.sw,w,.int .i64 x.ot],fun x=>rowsOf cArm x.arms,zNode,erI,.int .i64 3,.int .i64 0⟩
def iI(M:MNt)(j:Nat):Ask:=askN M 2147483647 cI j
def fNo(M:MNt)(MI:MIt2)(L:LJ):List (Int×Ask):=[(1,iI M 0),(2,iI M 1),(3,iI M 2),(4,iI M 3),(5,iI M 4),(6,iI M 5),(7,iI M 6),(8,iI M 8),(9,askL 37 187 39 7 (kNo.o kNo.zs) MI L 32)]
def lNo:LK1:=⟨39,76,2,16,2⟩
theorem gNo_eq(N:Nd)(M:MDe2)(L:LG ONode)(s:ByteArray)(K:Value->Prop):gG kNo N M L s K=bG kNo N M L s K:=by kernel_rfl
theorem gNoR_eq(M:MNt)(MI:MIt2)(L:LJ)(N:Nd)(x:ONode)(w:Value)(rs:List Value)(i:Int)(back:BK)(out:OT):gGR kNo (wL 187 39 7 M MI L) N x w rs i back out=bGR kNo (fNo M MI L) N x w rs i back out:=by kernel_rfl
theorem gNoJ_eq(M:M1 Arm)(N:Nd)(x:ONode)(rs:List Value)(i:Int)(b:Bool)(rs2:List Value)(k:Nat)(ob:Option AObj)(j:Int)(back:BK)(out:OT):gJ kNo lNo (w1 66 cArm M) N x rs i b rs2 k ob j back out=bJ kNo lNo (el1 cArm M) N x rs i b rs2 k ob j back out:=by kernel_rfl
def kTa:RK1 OTable:=⟨39,129,32,fun x w=>[.int .i64 x.id,.int .u8 (x.kind:Int),w,.int .i64 x.cap,.int .i64 x.miss],fun x=>rowsOf cInt x.keys,zTable,erI,.int .i64 3,.int .i64 0⟩
def fTa(M:MNt)(MI:MIt2)(L:LJ):List (Int×Ask):=[(1,iI M 0),(2,askN M 255 cB 1),(3,askL 39 129 21 2 (kTa.o kTa.zs) MI L 4),(4,iI M 3),(5,iI M 4)]
def lTa:LK1:=⟨21,3,1,8,1⟩
theorem gTa_eq(N:Nd)(M:MDe2)(L:LG OTable)(s:ByteArray)(K:Value->Prop):gG kTa N M L s K=bG kTa N M L s K:=by kernel_rfl
theorem gTaR_eq(M:MNt)(MI:MIt2)(L:LJ)(N:Nd)(x:OTable)(w:Value)(rs:List Value)(i:Int)(back:BK)(out:OT):gGR kTa (wL 129 21 2 M MI L) N x w rs i back out=bGR kTa (fTa M MI L) N x w rs i back out:=by kernel_rfl
theorem gTaJ_eq(M:MNt)(N:Nd)(x:OTable)(rs:List Value)(i:Int)(b:Bool)(rs2:List Value)(k:Nat)(ob:Option AObj)(j:Int)(back:BK)(out:OT):gJ kTa lTa (wN M) N x rs i b rs2 k ob j back out=bJ kTa lTa (elN M 2147483647 cI) N x rs i b rs2 k ob j back out:=by kernel_rfl
def kBl:RK1 OBlock:=⟨41,89,37,fun x w=>[.int .i64 x.id,w],fun x=>rowsOf cInstr x.code,zBlock,erI,.int .i64 3,.int .i64 0⟩
def fBl(M:MNt)(MI:MIt2)(L:LJ):List (Int×Ask):=[(1,iI M 0),(2,askL 41 89 18 1 (kBl.o kBl.zs) MI L 32)]
def lBl:LK1:=⟨18,70,7,56,2⟩
theorem gBl_eq(N:Nd)(M:MDe2)(L:LG OBlock)(s:ByteArray)(K:Value->Prop):gG kBl N M L s K=bG kBl N M L s K:=by kernel_rfl
theorem gBlR_eq(M:MNt)(MI:MIt2)(L:LJ)(N:Nd)(x:OBlock)(w:Value)(rs:List Value)(i:Int)(back:BK)(out:OT):gGR kBl (wL 89 18 1 M MI L) N x w rs i back out=bGR kBl (fBl M MI L) N x w rs i back out:=by kernel_rfl
theorem gBlJ_eq(M:M1 Instr)(N:Nd)(x:OBlock)(rs:List Value)(i:Int)(b:Bool)(rs2:List Value)(k:Nat)(ob:Option AObj)(j:Int)(back:BK)(out:OT):gJ kBl lBl (w1 67 cInstr M) N x rs i b rs2 k ob j back out=bJ kBl lBl (el1 cInstr M) N x rs i b rs2 k ob j back out:=by kernel_rfl
def kGr:RK1 OGroup:=⟨42,117,40,fun x w=>[.int .i64 x.id,.int .u8 (x.kind:Int),.int .i64 x.fld,w],fun x=>rowsOf cBucket x.bks,zGroup,erI,.int .i64 3,.int .i64 0⟩
def fGr(M:MNt)(MI:MIt2)(L:LJ):List (Int×Ask):=[(1,iI M 0),(2,askN M 255 cB 1),(3,iI M 2),(4,askL 42 117 24 3 (kGr.o kGr.zs) MI L 16)]
def lGr:LK1:=⟨24,82,2,16,2⟩
theorem gGr_eq(N:Nd)(M:MDe2)(L:LG OGroup)(s:ByteArray)(K:Value->Prop):gG kGr N M L s K=bG kGr N M L s K:=by kernel_rfl
theorem gGrR_eq(M:MNt)(MI:MIt2)(L:LJ)(N:Nd)(x:OGroup)(w:Value)(rs:List Value)(i:Int)(back:BK)(out:OT):gGR kGr (wL 117 24 3 M MI L) N x w rs i back out=bGR kGr (fGr M MI L) N x w rs i back out:=by kernel_rfl
theorem gGrJ_eq(M:M1 Bucket)(N:Nd)(x:OGroup)(rs:List Value)(i:Int)(b:Bool)(rs2:List Value)(k:Nat)(ob:Option AObj)(j:Int)(back:BK)(out:OT):gJ kGr lGr (w1 68 cBucket M) N x rs i b rs2 k ob j back out=bJ kGr lGr (el1 cBucket M) N x rs i b rs2 k ob j back out:=by kernel_rfl
def kEn:RK1 OEntry:=⟨40,213,34,fun x w=>[.int .i64 x.tab,.string x.key,.string x.oth,.int .i64 x.len,.int .i64 x.prio,.int .i64 x.blk,w,.int .i64 x.idle,.int .i64 x.hard,.int .u64 (x.cook:Int),.bool x.tell],fun x=>rowsOf cNat x.args,zEntry,erI,.int .i64 3,.int .i64 0⟩
def fEn(M:MNt)(MI:MIt2)(L:LJ):List (Int×Ask):=[(1,iI M 0),(2,askS 1),(3,askS 2),(4,iI M 3),(5,iI M 4),(6,iI M 5),(7,askL 40 213 33 6 (kEn.o kEn.zs) MI L 4),(8,askN M 9223372036854775807 cG 7),(9,askN M 9223372036854775807 cG 8),(10,askN M 18446744073709551615 cU 9),(11,askB M 10)]
def lEn:LK1:=⟨33,23,1,8,1⟩
theorem gEn_eq(N:Nd)(M:MDe2)(L:LG OEntry)(s:ByteArray)(K:Value->Prop):gG kEn N M L s K=bG kEn N M L s K:=by kernel_rfl
theorem gEnR_eq(M:MNt)(MI:MIt2)(L:LJ)(N:Nd)(x:OEntry)(w:Value)(rs:List Value)(i:Int)(back:BK)(out:OT):gGR kEn (wL 213 33 6 M MI L) N x w rs i back out=bGR kEn (fEn M MI L) N x w rs i back out:=by kernel_rfl
theorem gEnJ_eq(M:MNt)(N:Nd)(x:OEntry)(rs:List Value)(i:Int)(b:Bool)(rs2:List Value)(k:Nat)(ob:Option AObj)(j:Int)(back:BK)(out:OT):gJ kEn lEn (wN M) N x rs i b rs2 k ob j back out=bJ kEn lEn (elN M 18446744073709551615 cU) N x rs i b rs2 k ob j back out:=by kernel_rfl
end
end Go.Proofs.Ytblbaohcelldpaa.Ob
namespace Go.Proofs.Ytblbaohcelldpaa.Ob
open Go Go.Abs Go.Tlv
set_option maxRecDepth 100000
noncomputable section
variable {α:Type} {κ:RK1 α} {step:α->At->Option α}
def WOk(κ:RK1 α)(lt:Nat)(l:List At)(i:Nat)(x:α)(w:Value):Prop:=(w=nilV/\κ.rws x=[])∨(w=dsl (κ.rws x)/\∃(j:Nat) (b:At),j<i/\l[j]?=some b/\b.t=lt)
theorem WOk.up{lt i:Nat}{l:List At}{x y:α}{w:Value}(h:WOk κ lt l i x w)(hr:κ.rws y=κ.rws x):WOk κ lt l (i+1) y w:=
 h.elim (fun g => .inl ⟨g.1,hr.trans g.2⟩) (fun⟨g,j,b,g1,g2,g3⟩ => .inr ⟨by rw[hr];exact g,j,b,by omega,g2,g3⟩)
def AskOk(κ:RK1 α)(step:α->At->Option α)(lt:Nat)(t:Int)(A:Ask):Prop:=
 ∀(l:List At),encE 0 l=0->∀(x:α) (w:Value) (i:Nat) (a:At),l[i]?=some a->(a.t:Int)=t->WOk κ lt l i x w->∀(nx:List Value->List (Option AObj)->Prop) (no:NoK),
  (∀y w' ex,step x a=some y->WOk κ lt l (i+1) y w'->nx (κ.cw y w') ex)->(step x a=none->∀cs ex,no cs ex)->A κ.o (real Try.prog) (rowsT l) (i:Int) (κ.cw x w) nx no
theorem atR_ok{l:List At}{i:Nat}{a:At}{K:Int->ByteArray->Prop}(ha:l[i]?=some a)(h:K (a.t:Int) a.v):atR (real Try.prog) (rowsT l) (i:Int) K:=
 n_dget i rfl (rowsT_get ha) rfl (n_rdI (z:=(a.t:Int)) rfl (n_rdS (z:=a.v) rfl h))
def fitK(most:Nat)(c:Cv):Prop:=c.1=none∨c=cB/\most<256∨c=cW4/\most<4294967296∨(c=cI∨c=cG)/\most<9223372036854775808
theorem cvA_ok{most n:Nat}{k:Cv}{K:Int->Prop}(hf:fitK most k)(hn:n<=most)(h:K (n:Int)):cvA (real Try.prog) k (n:Int) K:=by
 rcases hf with hf|⟨rfl,hf⟩ | ⟨rfl,hf⟩ | ⟨rfl|rfl,hf⟩
 ·unfold cvA;rw[hf];exact h
 ·exact n_fit uU64 uU8 (fit_u8 (by omega)) h
 ·exact n_fit uU64 uU32 (fit_u32 (by omega)) h
 ·exact n_fit uU64 uI64 (fit_i64 (by omega)) h
 ·exact n_fit uU64 uLong (fit_i64 (by omega)) h
theorem opI{β:Type}{m:Nat}{s:List UInt8}{g:Int->β}:(getI m s).map g=(rnum s m).map fun n:Nat=>g (n:Int):=by
 unfold getI;cases rnum s m<;>rfl
theorem askN_ok{lt most t:Nat}{k:Cv}{j:Nat}(set:α->Nat->α)(hf:fitK most k)(hc:∀x w n,(κ.cw x w).set j (.int k.2 ((n:Nat):Int))=κ.cw (set x n) w)(hr:∀x n,κ.rws (set x n)=κ.rws x)
  (hs:∀x a,a.t=t->step x a=(rnum a.v.data.toList most).map (set x)):AskOk κ step lt (t:Int) (askN MRN (most:Int) k j):=by
 intro l hen x w i a ha ht hw nx no h1 h2
 have hst:=hs x a (by omega)
 refine atR_ok ha ⟨most,rfl,fun n hn=>?_,fun hn=>?_⟩
 ·exact cvA_ok hf (rnum_ok hn).2.1 (by rw[hc];exact h1 _ w _ (by rw[hst,hn];rfl) (hw.up (hr x n)))
 ·exact cvA_ok (n:=0) hf (Nat.zero_le _) (h2 (by rw[hst,hn];rfl) _ _)
theorem chA_ok{lt:Nat}{l:List At}(hen:encE 0 l=0){x:α}{w:Value}{i:Nat}{a:At}(ha:l[i]?=some a)(hw:WOk κ lt l i x w){nx:List Value->List (Option AObj)->Prop}{no:NoK}
  (h1:∀y w' ex,step x a=some y->WOk κ lt l (i+1) y w'->nx (κ.cw y w') ex) (h2:step x a=none->∀cs ex,no cs ex):
  ∀(fs:List (Int×Ask)),(∀f∈fs,AskOk κ step lt f.1 f.2)->((∀f∈fs,f.1≠(a.t:Int))->step x a=none)->chA κ.o (real Try.prog) (rowsT l) (i:Int) (κ.cw x w) nx no (a.t:Int) fs
 | [],_,h4=>h2 (h4 fun f h=>by cases h) _ _
 |(t,A)::r,h3,h4=>n_eql (fun h=>h3 (t,A) (List.mem_cons_self ..) l hen x w i a ha h hw nx no h1 h2)
   (fun h=>chA_ok hen ha hw h1 h2 r (fun f hf=>h3 f (List.mem_cons_of_mem _ hf)) fun h5=>h4 fun f hf=>by
    rcases List.mem_cons.1 hf with rfl|hf
    ·exact fun e=>h e.symm
    ·exact h5 f hf)
structure RkOk(κ:RK1 α)(step:α->At->Option α)(lt:Nat)(fs:List (Int×Ask)):Prop where
 asks:∀f∈fs,AskOk κ step lt f.1 f.2
 else_:∀x a,(∀f∈fs,f.1≠((a.t:Nat):Int))->step x a=none
 bel:∀n x w,below n w=true->belowL n (κ.cw x w)=true
 weak:∀x w w',Weak w w'->WeakL (κ.cw x w) (κ.cw x w')
 z:κ.rws κ.z=[]
 no:κ.no=κ.er 3
 nn:below 102 κ.no=true
 er:∀e,below 100 (κ.er e)=true
 ok:below 100 κ.ok=true
structure StG(κ:RK1 α)(step:α->At->Option α)(lt:Nat)(l:List At) where
 x:α
 w:Value
 i:Nat
 inv:InvX step κ.z l x i
 wd:WOk κ lt l i x w
theorem WOk.form{lt i:Nat}{l:List At}{x:α}{w:Value}(h:WOk κ lt l i x w):below 102 w=true:=by
 rcases h with⟨rfl,_⟩ | ⟨rfl,_⟩<;>rfl
theorem WOk.weak{lt i:Nat}{l:List At}{x:α}{w:Value}(h:WOk κ lt l i x w):Weak w (dsl (κ.rws x)):=by
 rcases h with⟨rfl,h⟩ | ⟨rfl,_⟩
 ·rw[h];exact .nilD
 ·exact .refl _
def IG(κ:RK1 α){lt:Nat}(l:List At)(p:StG κ step lt l):List Value×List (Option AObj):=([pA 100,pA 101,dsl (rowsT l),.int .i64 (p.i:Int)],[κ.o κ.zs,κ.o (κ.cw p.x p.w)])
def RG(κ:RK1 α)(step:α->At->Option α)(l:List At)(e:Exit)(v:List Value)(o:List (Option AObj)):Prop:=
 (∃x,run step κ.z l=some x/\e = .exit 0/\v=[pA 100,top,pA 101]/\o=[κ.o κ.zs,κ.o (κ.c x)])∨(run step κ.z l=none/\e = .ret/\v=[pA 100,κ.no,top]/\o=[κ.o κ.zs,none])
section
variable {lt:Nat} {fs:List (Int×Ask)}
theorem RkOk.bO(hk:RkOk κ step lt fs)(x:α){w:Value}(h:below 102 w=true):belowO 102 (κ.o (κ.cw x w))=true:=hk.bel 102 x w h
theorem rndG(hk:RkOk κ step lt fs){W:How}(heq:∀N x w rs i back out,gGR κ W N x w rs i back out=bGR κ fs N x w rs i back out)(l:List At)(hl:l.length<=255)(hen:encE 0 l=0)(p:StG κ step lt l):
  Is (wpe Try.prog (real Try.prog) W 300 (.code false (loopIn Try.prog κ.f 6) (stOf 100 κ.n [2,4,5,7] [] (IG κ l p))) (roundQ 100 [2,4,5,7] [2,3,4] κ.n []
   (fun vals objs=>∃a':StG κ step lt l,l.length-a'.i<l.length-p.i/\Wk 100 (100+2) vals objs (IG κ l a').1 (IG κ l a').2/\∀e v o,RG κ step l e v o->RG κ step l e v o)
   (fun e vals objs=>∃v o,Wk 100 (100+2) vals objs v o/\RG κ step l e v o))):=by
 refine⟨?_⟩
 obtain⟨x,w,i,inv,wd⟩:=p
 have hle:i<=l.length:=inv.le
 show gGR κ W (real Try.prog) x w (rowsT l) (i:Int) _ _
 rw[heq]
 refine n_dlen _ (rowsT_len _) (n_ltN (fun hlt=>?_) (fun hge=>?_))
 ·have ha:l[i]?=some l[i]:=List.getElem?_eq_getElem hlt
  generalize l[i]=a at ha
  have hms:l.length-(i+1)<l.length-i:=by omega
  refine atR_ok ha (chA_ok hen ha wd (fun y w' ex hs hw'=>?_) (fun hs cs ex=>?_) fs hk.asks fun h=>hk.else_ x a h)
  ·exact n_inc (by omega) ⟨rfl,⟨y,w',i+1,inv.next ha hs,hw'⟩,hms,wk_x (hk.bO _ (w:=nilV) rfl) (hk.bO y hw'.form),fun _ _ _ h=>h⟩
  ·refine⟨rfl,[pA 100,κ.no,top],_,(wk_weak (.cons (.refl _) (.cons (.refl _) (.cons (.top _) .nil))) (.cons (.refl _) (.cons (.none _) (WeakOs.refl _)))).trans (wk_drop (k0:=2) (pre:=[κ.o κ.zs,none]) rfl ?_ fun j o hj=>?_),.inr ⟨inv.bad ha hs,rfl,rfl,rfl⟩⟩
   ·show belowL 102 [pA 100,κ.no,top]=true
    simp only[belowL,hk.nn];rfl
   ·rcases j with _|_|j
    ·simp only[List.getElem?_cons_zero,Option.some.injEq,RK1.o]at hj;subst hj
     exact hk.bO κ.z (w:=nilV) rfl
    ·simp at hj
    ·simp at hj
 ·exact⟨rfl,_,_,wk_weak (WeakL.refl _) (.cons (.refl _) (.cons (.cells (hk.weak x _ _ wd.weak)) .nil)),.inl ⟨x,inv.last (by omega),rfl,rfl,rfl⟩⟩
def LGr(κ:RK1 α)(step:α->At->Option α):LG α:=fun c n vals obs A E=>∃l:List At,l.length<=255/\encE 0 l=0/\c=loopIn Try.prog κ.f 6/\n=κ.n/\vals=[pA 100,pA 101,dsl (rowsT l),.int .i64 (0:Int)]/\obs=[κ.o κ.zs,κ.o κ.zs]/\
 (∀x,run step κ.z l=some x->A x)/\(run step κ.z l=none->E)
theorem lpG(hk:RkOk κ step lt fs){W:How}(hkn:KnOk Try.prog 100 W)(hlp:LpOk Try.prog 100 W)(heq:∀N x w rs i back out,gGR κ W N x w rs i back out=bGR κ fs N x w rs i back out):LoopOk Try.prog 100 [2,4,5,7] (sLpG κ (LGr κ step)):=by
 show LoopOk Try.prog 100 [2,4,5,7] (lpS [2,3,4] _)
 refine lp_mk okp (W:=W) hkn hlp ?_
 rintro c n vals obs K ⟨l,hl,hen,hc,hn,hv,ho,hA,hE⟩
 subst hc;subst hn;subst hv;subst ho
 refine⟨StG κ step lt l,2,300,fun p=>l.length-p.i,IG κ l,fun _ e v o=>RG κ step l e v o,⟨κ.z,nilV,0,⟨Nat.zero_le _,rfl⟩,.inl ⟨rfl,hk.z⟩⟩,rfl,Wk.refl _ _ _ _,?_,rndG hk heq l hl hen⟩
 intro e v o hR
 rcases hR with⟨x,h1,rfl,rfl,rfl⟩ | ⟨h1,rfl,rfl,rfl⟩
 ·exact hA x h1
 ·exact hE h1
def rvG(κ:RK1 α)(q:Nat×α):Value := .tuple ⟨[.agg ⟨κ.c q.2⟩,if q.1=0 then κ.ok else κ.er (q.1:Int)]⟩
theorem rvW(hk:RkOk κ step lt fs){e:Nat}(he:e≠0){q:Nat×α}(hq:q=(e,κ.z)):Weak (.tuple ⟨[.agg ⟨κ.zs⟩,κ.er (e:Int)]⟩) (rvG κ q):=by
 subst hq
 unfold rvG
 dsimp only
 rw[if_neg he]
 refine .tup (.cons (.agg (hk.weak κ.z _ _ ?_)) (WeakL.refl _))
 show Weak nilV (dsl (κ.rws κ.z))
 rw[hk.z];exact .nilD
theorem rdGC(hk:RkOk κ step lt fs)(heq:∀N M L s K,gG κ N M L s K=bG κ N M L s K)(s:ByteArray):Is (gG κ (real Try.prog) MR6 (LGr κ step) s (fun v=>Weak v (rvG κ (rdE step κ.z s.data.toList)))):=by
 refine⟨?_⟩
 rw[heq]
 refine n_neN (d:=0) (fun h=>rvW hk h (rdE_bad h)) (fun h=>?_)
 have h0:(decE 0 s.data.toList).1=0:=h
 have hde:decE 0 s.data.toList=(0,(decE 0 s.data.toList).2):=Prod.ext h0 rfl
 obtain⟨k1,k2,k3⟩:=decE_ok _ _ 0 _ (Nat.le_refl _) hde
 refine⟨_,dec_len _,k1,rfl,rfl,rfl,rfl,fun x hx=>?_,fun hx=>?_⟩
 ·rw[rdE_ok h0 hx];exact Weak.refl _
 ·rw[hk.no];exact rvW hk (e:=3) (by omega) (rdE_no h0 hx)
theorem rvG_below(hk:RkOk κ step lt fs)(q:Nat×α):below 100 (rvG κ q)=true:=by
 have h1:belowL 100 (κ.c q.2)=true:=hk.bel 100 _ _ rfl
 have h2:below 100 (if q.1=0 then κ.ok else κ.er (q.1:Int))=true:=by
  split
  ·exact hk.ok
  ·exact hk.er _
 simp only[rvG,below,belowA,belowL,h1,h2];rfl
theorem rdGH(hk:RkOk κ step lt fs){W:How}(hkn:KnOk Try.prog 100 W)(hlp:LpOk Try.prog 100 W)(heqR:∀N x w rs i back out,gGR κ W N x w rs i back out=bGR κ fs N x w rs i back out)(heq:∀N M L s K,gG κ N M L s K=bG κ N M L s K)
  (s:ByteArray) (B:Base) (H:Heap):CallH Try.prog 100 B κ.f [.string s] H (.returned (rvG κ (rdE step κ.z s.data.toList))) H:=
 pu_mkW (kn_pu (pu1 puR6)) (lp_ok (fun x hx=>by simp only[List.mem_singleton]at hx;subst hx;exact lpG hk hkn hlp heqR)) rfl (rvG_below hk _) (rdGC hk heq s) B H
end
end
end Go.Proofs.Ytblbaohcelldpaa.Ob
namespace Go.Proofs.Ytblbaohcelldpaa.Ob
open Go Go.Abs Go.Tlv
set_option maxRecDepth 100000
theorem wk_outP{j k:Nat}{zo:AObj}{a r vals:List Value}{e1 z1:Nat}{lo1 ow1:Bool}{objs:List (Option AObj)}{vs:List Value}{e sz:Nat}(hj:2<=j)(hz0:objs[0]?=some (some zo))(hzb:belowO 102 (some zo)=true)(h0:objs[1]?=some (some (.cells (a ++ .slice (some ⟨100+j,0,none⟩) k k::r) e1 z1 lo1 ow1)))(ho:objs[j]?=some (some (.cells vs e sz true true)))
  (hv:belowL 0 vs=true) (ha:belowL 102 a=true) (hr:belowL 102 r=true) (hvals:belowL 102 vals=true) (hk:k≠0):
  Wk 100 (100+2) vals objs vals [some zo,some (.cells (a++mkS 102 k::r) e1 z1 lo1 ow1),some (.cells vs e sz true true)]:=by
 have hlt:j<objs.length:=(List.getElem?_eq_some_iff.1 ho).1
 have hτ:∀n,n<100+2->tau (100+2) [100+j] (100+objs.length) n=n:=fun n h=>tau_lt h
 have hτ0:tau (100+2) [100+j] (100+objs.length) 102=100+j:=tau_in (Nat.le_refl _) (by simp)
 have hn:Names 100 2 [100+j] (100+objs.length) vals objs vals [some zo,some (.cells (a ++ .slice (some ⟨102,0,none⟩) k k::r) e1 z1 lo1 ow1),some (.cells vs e sz true true)]:=by
  refine⟨?_,rfl,by simp,fun x hx=>?_,by omega,fun i o hi=>?_⟩
  ·rw[←vrenL_map,vrenL_below hτ vals hvals]
  ·simp only[List.mem_singleton]at hx;omega
  ·rcases i with _|_|_|i
   ·simp only[List.getElem?_cons_zero,Option.some.injEq]at hi;subst hi
    rw[hτ _ (by omega),show 100+0-100=0 by omega,oren_below hτ hzb];exact hz0
   ·simp only[List.getElem?_cons_succ,List.getElem?_cons_zero,Option.some.injEq]at hi;subst hi
    rw[hτ _ (by omega),show 100+(0+1)-100=1 by omega,h0]
    have e3:vrenL (tau (100+2) [100+j] (100+objs.length)) (a ++ .slice (some ⟨102,0,none⟩) k k::r)=a ++ .slice (some ⟨100+j,0,none⟩) k k::r:=by
     rw[vrenL_map,List.map_append,List.map_cons,←vrenL_map,←vrenL_map,vrenL_below hτ a ha,vrenL_below hτ r hr]
     simp only[vren,hτ0]
    simp only[oren,e3]
   ·simp only[List.getElem?_cons_succ,List.getElem?_cons_zero,Option.some.injEq]at hi;subst hi
    rw[show(100+(0+1+1):Nat)=102 from rfl,hτ0,show 100+j-100=j by omega,ho]
    have:vrenL (tau (100+2) [100+j] (100+objs.length)) vs=vs:=vrenL_below (n0:=0) (fun n h=>by omega) vs hv
    simp only[oren,this]
   ·simp at hi
 exact(wk_names hn).trans (wk_weak (WeakL.refl _) (.cons (.refl _) (.cons (.cells (weak_app (.cons (.mark hk) (WeakL.refl _)))) (WeakOs.refl _))))
theorem wk_frzP{k:Nat}{zo:AObj}{a r vals:List Value}{e1 z1:Nat}{lo1 ow1:Bool}{rows vs:List Value}{e sz:Nat}(hf:flatRows sz rows=some vs)(hb:belowL 0 vs=true)(hs:0<sz)(hk:k=rows.length):
  Wk 100 (100+2) vals [some zo,some (.cells (a++mkS 102 k::r) e1 z1 lo1 ow1),mo vs e sz] vals [some zo,some (.cells (a ++ .iface mkD (.agg ⟨rows⟩)::r) e1 z1 lo1 ow1),none]:=by
 subst hk
 cases rows with
 |nil=>
  simp only[flatRows,Option.some.injEq]at hf
  subst hf
  exact wk_weak (WeakL.refl _) (.cons (.refl _) (.cons (.cells (weak_app (.cons .emptyMD (WeakL.refl _)))) (.cons (.refl _) .nil)))
 |cons r0 rows=>
  have hvs:vs≠[]:=by
   intro e
   subst e
   have:=flatRows_len hf
   simp only[List.length_nil,List.length_cons]at this
   have h2:0<(rows.length+1)*sz:=Nat.mul_pos (by omega) hs
   omega
  rw[mo_ne hvs]
  refine⟨rfl,fun B F w R=>?_⟩
  obtain⟨b,d,o,c,fz,q1,q2,q3,q4,q5,q6⟩:=R.obj 101 _ (hOf_of (G:=100) (i:=1) rfl)
  obtain⟨xa,xr,e3,ha,hr2⟩:=VRL.split q3
  simp only[VRL]at hr2
  obtain⟨x,xr',hx,hr3,rfl⟩:=hr2
  have hW:=wk_freeze (G:=100) (n0:=100+2) (i:=2) (vals:=vals++[mkS 102 (r0::rows).length]) (vals':=vals++[.iface mkD (.agg ⟨r0::rows⟩)]) (objs:=[some zo,some (.cells (a++mkS 102 (r0::rows).length::r) e1 z1 lo1 ow1),some (.cells vs e sz true true)]) (rows:=r0::rows) rfl hf hb hs (by simp) (fun j v v' h1 h2=>by
   rcases Nat.lt_or_ge j vals.length with hlt|hge
   ·rw[List.getElem?_append_left hlt]at h1 h2
    rw[h1]at h2;exact .inl (Option.some.inj h2).symm
   ·rw[List.getElem?_append_right hge]at h1 h2
    cases hj:j-vals.length with
    |zero=>
     rw[hj]at h1 h2
     simp only[List.getElem?_cons_zero,Option.some.injEq]at h1 h2
     subst h1;subst h2
     exact .inr ⟨rfl,_,Nat.le_refl _,.inr ⟨rfl,by simp⟩⟩
    |succ m=>rw[hj]at h1;simp at h1)
  obtain⟨F',ag,R',hv⟩:=hW.2 B F w R
  have hx':VR F' (.iface mkD (.agg ⟨r0::rows⟩)) x:=hv vals.length _ _ x (by simp) (by simp) hx
  refine⟨F',ag,rel_objs R' rfl fun i o' hi=>?_,fun j v v' x' h1 h2 hx2=>hv j v v' x' (by rw[List.getElem?_append_left (List.getElem?_eq_some_iff.1 h1).1];exact h1) (by rw[List.getElem?_append_left (List.getElem?_eq_some_iff.1 h2).1];exact h2) hx2⟩
  rcases i with _|_|_|i
  ·simp only[List.getElem?_cons_zero,Option.some.injEq]at hi;subst hi
   exact⟨_,rfl,rfl,fun h=>h⟩
  ·simp only[List.getElem?_cons_succ,List.getElem?_cons_zero,Option.some.injEq]at hi;subst hi
   refine⟨_,rfl,rfl,fun h=>?_⟩
   obtain⟨b',d',o',c',fz',k1,k2,k3,k4,k5,k6⟩:=h
   have hlen:(a ++ .iface mkD (.agg ⟨r0::rows⟩)::r).length=(a++mkS 102 (r0::rows).length::r).length:=by simp
   refine⟨b',d',o',c',fz',k1,k2,?_,by rw[hlen];exact k4,by rw[hlen];exact k5,k6⟩
   rw[hlen]
   obtain⟨ya,yr,e4,ha4,hr4⟩:=VRL.split k3
   simp only[VRL]at hr4
   obtain⟨y,yr',hy,hr5,rfl⟩:=hr4
   rw[e4]
   have hyx:y=x:=by
    have g1:=ag.at (n:=101) rfl q1
    have g2:F' 101=some (b',d',o'):=k1
    rw[g1]at g2
    simp only[Option.some.injEq,Prod.mk.injEq]at g2
    obtain⟨rfl,rfl,rfl⟩:=g2
    obtain⟨t1,w1,_⟩:=q2
    obtain⟨t2,w2,_⟩:=k2
    rw[w1]at w2
    simp only[Option.some.injEq,Obj.cells.injEq]at w2
    obtain⟨rfl,_,_⟩:=w2
    rw[e3]at e4
    have h5:=(List.append_inj e4 (by rw[ha.length,ha4.length])).2
    simp only[List.cons.injEq]at h5
    exact h5.1.symm
   subst hyx
   exact VRL.app ha4 (by simp only[VRL];exact⟨_,_,hx',hr5,rfl⟩)
  ·simp at hi
  ·simp at hi
end Go.Proofs.Ytblbaohcelldpaa.Ob
