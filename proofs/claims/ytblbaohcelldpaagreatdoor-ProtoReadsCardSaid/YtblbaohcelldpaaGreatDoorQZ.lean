/- . -/
import Derived.Test.YtblbaohcelldpaaGreatDoorQJ
import Derived.Test.YtblbaohcelldpaaGreatDoorQF
import Derived.Test.YtblbaohcelldpaaGreatDoorQN
set_option linter.all false
set_option maxRecDepth 100000
namespace Go.Proofs.Ob
open Go Go.Abs Go.Tlv
noncomputable section
structure RK1(α:Type) where
 f:FuncId
 n:Nat
 ty:TypeId
 cw:α->Value->Lv
 rws:α->Lv
 z:α
 er:Int->Value
 no:Value
 ok:Value
variable {α:Type}
abbrev RK1.zs(κ:RK1 α):Lv:=κ.cw κ.z I4
def RK1.o(κ:RK1 α)(cs:Lv):Option AJ:=some (.cells cs κ.ty κ.zs.length false true)
abbrev RK1.c(κ:RK1 α)(x:α):Lv:=κ.cw x (dsl (κ.rws x))
abbrev LG(α:Type):=Code->Nat->Lv->Lo->(α->Prop)->Prop->Prop
def AJ5(κ:RK1 α)(L:LG α):LpS:=lpS [2,3,4] fun c n AB obs K=>L c n AB obs (fun x=>K (.exit 0) [pA 100,top,pA 101] [κ.o κ.zs,κ.o (κ.c x)]) (K .ret [pA 100,κ.no,top] [κ.o κ.zs,none])
abbrev VE:=ByteArray->(Lv->Int->Prop)->Prop
def gG(κ:RK1 α)(N:Nd)(M:VE)(L:LG α)(s:ByteArray)(K:Value->Prop):Prop:=wpe Tryz.prog N (AU Z0 Zp [] [(6,(κ.n,([2,4,5,7],AJ5 κ L)))] [(25,AFX M)] []) 300 (.call κ.f [.string s] h0) (II K)
def bG(κ:RK1 α)(N:Nd)(M:VE)(L:LG α)(s:ByteArray)(K:Value->Prop):Prop:=
 M s fun rs e=>N.cmp .neq .i64 e .i64 0 (K (.tuple ⟨[.agg ⟨κ.zs⟩,κ.er e]⟩)) (L (AO Tryz.prog κ.f 6) κ.n [pA 100,pA 101,dsl rs,.int .i64 0] [κ.o κ.zs,κ.o κ.zs] (fun x=>K (.tuple ⟨[.agg ⟨κ.c x⟩,κ.ok]⟩)) (K (.tuple ⟨[.agg ⟨κ.zs⟩,κ.no]⟩)))
abbrev NoK:=Option AJ->Lo->Prop
abbrev Ask:=(Lv->Option AJ)->Nd->Lv->Int->Lv->(Lv->Lo->Prop)->NoK->Prop
def atR(N:Nd)(rs:Lv)(i:Int)(K:Int->ByteArray->Prop):Prop:=N.dget rs i 2 fun l=>N.rdI .u8 l 0 fun z=>N.rdS l 1 fun s=>K z s
abbrev Cv:=Option TypeId×IntKind
abbrev cU:Cv:=(none,.u64)
abbrev cB:Cv:=(some 5,.u8)
abbrev cW4:Cv:=(some 27,.u32)
abbrev cI:Cv:=(some 3,.i64)
abbrev cG:Cv:=(some 2,.i64)
def cvA(N:Nd)(c:Cv)(z:Int)(K:Int->Prop):Prop:=match c.1 with
 |none=>K z
 |some t=>N.conv 28 t .u64 z c.2 K
def JR(M:MNt)(most:Int)(k:Cv)(j:Nat):Ask:=fun O N rs i cs nx no=>atR N rs i fun _ s=>M s most (fun n=>cvA N k n fun v=>nx (cs.set j (.int k.2 v)) []) (cvA N k 0 fun v=>no (O (cs.set j (.int k.2 v))) [])
def AGT(j:Nat):Ask:=fun O N rs i cs nx no=>atR N rs i fun _ s=>atR N rs i fun _ s2=>N.slen s2 fun n=>N.cmp .leq .i64 n .i64 32 (nx (cs.set j (.string s)) []) (no (O (cs.set j (.string s))) [])
def AIT(M:MNt)(j:Nat):Ask:=fun O N rs i cs nx no=>atR N rs i fun _ s=>M s 1 (fun n=>N.cmp .eql .u64 n .u64 1 (nx (cs.set j (.bool true)) []) (nx (cs.set j (.bool false)) [])) (N.cmp .eql .u64 0 .u64 1 (no (O (cs.set j (.bool true))) []) (no (O (cs.set j (.bool false))) []))
def chA(O:Lv->Option AJ)(N:Nd)(rs:Lv)(i:Int)(cs:Lv)(nx:Bk)(no:NoK)(z:Int):List (Int×Ask)->Prop
 | []=>no (O cs) []
 |(t,A)::r=>N.cmp .eql .u8 z .u8 t (A O N rs i cs nx no) (chA O N rs i cs nx no z r)
abbrev BK:=Lv->Lo->Prop
abbrev OT:=Exit->Lv->Lo->Prop
def nxG(κ:RK1 α)(N:Nd)(rs:Lv)(i:Int)(back:BK)(cs:Lv)(ex:Lo):Prop:=N.ari .add .i64 i .i64 1 fun j=>nD/\back [pA 100,pA 101,dsl rs,.int .i64 j] (κ.o κ.zs::κ.o cs::ex)
def noG(κ:RK1 α)(out:OT)(ob:Option AJ)(ex:Lo):Prop:=nD/\out .ret [pA 100,κ.no,pA 101] (κ.o κ.zs::ob::ex)
def bGR(κ:RK1 α)(fs:List (Int×Ask))(N:Nd)(x:α)(w:Value)(rs:Lv)(i:Int)(back:BK)(out:OT):Prop:=
 N.dlen rs fun n=>N.cmp .lss .i64 i .i64 (n:Int) (atR N rs i fun z _=>chA κ.o N rs i (κ.cw x w) (nxG κ N rs i back) (noG κ out) z fs) (nD/\out (.exit 0) [pA 100,top,pA 101] [κ.o κ.zs,κ.o (κ.cw x w)])
def gGR(κ:RK1 α)(W:How)(N:Nd)(x:α)(w:Value)(rs:Lv)(i:Int)(back:BK)(out:OT):Prop:=
 wpe Tryz.prog N W 300 (.code false (AO Tryz.prog κ.f 6) (C9 100 κ.n [2,4,5,7] [] ([pA 100,pA 101,dsl rs,.int .i64 i],[κ.o κ.zs,κ.o (κ.cw x w)]))) (BM 100 [2,4,5,7] [2,3,4] κ.n [] back out)
abbrev wG(M:MNt):How:=AU Z0 Zp [] [] [(239,sRb M)] []
abbrev LJ:=Code->Nat->Lv->Lo->(Value->Prop)->Prop->Prop
def wP(p:Nat)(L:LJ):LpS:=lpS [2,4,5,7,9] fun c n AB obs K=>match AB,obs with
 | [a,b,l,i,_,_,_],[z,some (.cells cs e sz lo ow)]=>L c n AB obs (fun v=>K (.exit 3) [a,b,l,i,.bool true] [z,some (.cells (cs.set p v) e sz lo ow)]) (K (.exit 3) [a,b,l,i,.bool false] [z,none])
 |_,_=>False
abbrev ZL:=ByteArray->Int->(Lv->Bool->Prop)->Prop
def AAw(f n key p:Nat)(zo:Option AJ)(MI:ZL)(L:LJ)(m:Int):Ask:=fun O N rs i cs nx no=>atR N rs i fun _ s=>MI s m fun rs2 b=>
 L (AO Tryz.prog f key) n [pA 100,pA 101,dsl rs,.int .i64 i,.bool b,dsl rs2,.int .i64 0] [zo,O cs] (fun v=>nx (cs.set p v) []) (no none [])
abbrev El:=Nd->ByteArray->(Lv->Bool->Prop)->Prop
def elN(M:MNt)(most:Int)(k:Cv):El:=fun N s K=>M s most (fun n=>cvA N k n fun v=>K [.int k.2 v] true) (cvA N k 0 fun v=>K [.int k.2 v] false)
abbrev M1(β:Type):=ByteArray->(β->Bool->Prop)->Prop
def s1K{β:Type}(c:β->Lv)(M:M1 β):Lv->(Value->Prop)->Prop
 | [.string s],K=>M s fun x b=>K (.tuple ⟨[.agg ⟨c x⟩,.bool b]⟩)
 |_,_=>False
def el1{β:Type}(c:β->Lv)(M:M1 β):El:=fun _ s K=>M s fun x b=>K (c x) b
structure LK1 where
 key:Nat
 ty:TypeId
 sz:Nat
 by_:Nat
 d:Nat
def AJL(κ:RK1 α)(x:α)(rs:Lv)(i:Int)(b:Bool)(k:Nat)(ob:Option AJ)(out:OT):Prop:=nD/\out (.exit 3) [pA 100,pA 101,dsl rs,.int .i64 i,.bool b] [κ.o κ.zs,κ.o (κ.cw x (mkS 102 k)),ob]
def bJ(κ:RK1 α)(y:LK1)(el:El)(N:Nd)(x:α)(rs:Lv)(i:Int)(b:Bool)(rs2:Lv)(k:Nat)(ob:Option AJ)(j:Int)(back:BK)(out:OT):Prop:=
 N.dlen rs2 fun n=>N.cmp .lss .i64 j .i64 (n:Int) (branch b (N.dget rs2 j 1 fun l=>N.rdS l 0 fun s=>el N s fun cs b'=>N.base true k k ob y.ty y.sz fun vs=>N.appX k vs 1 cs y.sz y.by_ fun vs' k'=>N.ari .add .i64 j .i64 1 fun j'=>
   nD/\back [pA 100,pA 101,dsl rs,.int .i64 i,.bool b',dsl rs2,.int .i64 j'] (κ.o κ.zs::κ.o (κ.cw x (.slice (some ⟨103+y.d,0,none⟩) k' k'))::none::(List.replicate y.d (some (.cells cs y.ty y.sz false true))++[some (.cells vs' y.ty y.sz true true)])))
  (AJL κ x rs i b k ob out)) (AJL κ x rs i b k ob out)
def gJ(κ:RK1 α)(y:LK1)(W:How)(N:Nd)(x:α)(rs:Lv)(i:Int)(b:Bool)(rs2:Lv)(k:Nat)(ob:Option AJ)(j:Int)(back:BK)(out:OT):Prop:=
 wpe Tryz.prog N W 300 (.code false (AO Tryz.prog κ.f y.key) (C9 100 κ.n [2,4,5,7,9,10,12] [] ([pA 100,pA 101,dsl rs,.int .i64 i,.bool b,dsl rs2,.int .i64 j],[κ.o κ.zs,κ.o (κ.cw x (mkS 102 k)),ob]))) (BM 100 [2,4,5,7,9,10,12] [2,4,5,7,9] κ.n [] back out)
abbrev wL(n key p:Nat)(M:MNt)(MI:ZL)(L:LJ):How:=AU Z0 Zp [] [(key,(n,([2,4,5,7,9,10,12],wP p L)))] [(239,sRb M),(240,sIb MI)] []
abbrev w1{β:Type}(f:FuncId)(c:β->Lv)(M:M1 β):How:=AU (syB 102) Zp [] [] [(f,s1K c M)] []
abbrev wN(M:MNt):How:=AU (syB 102) Zp [] [] [(239,sRb M)] []
def erB(_:Int):Value := .bool false
def erI(e:Int):Value := .int .i64 e
def kAr:RK1 Arm:=⟨241,61,61,fun x _=>FV x,fun _=>[],SB,erB,.bool false,.bool true⟩
def fAr(M:MNt):List (Int×Ask):=[(1,JR M 4294967295 cW4 0),(2,JR M 2147483647 cI 1)]
theorem AG5(N:Nd)(M:VE)(L:LG Arm)(s:ByteArray)(K:Value->Prop):gG kAr N M L s K=bG kAr N M L s K:=by kernel_rfl
theorem AEH(M:MNt)(N:Nd)(x:Arm)(w:Value)(rs:Lv)(i:Int)(back:BK)(out:OT):gGR kAr (wG M) N x w rs i back out=bGR kAr (fAr M) N x w rs i back out:=by kernel_rfl
def kIn:RK1 Instr:=⟨242,133,66,fun x _=>CO x,fun _=>[],I6,erB,.bool false,.bool true⟩
def fIn(M:MNt):List (Int×Ask):=[(1,JR M 255 cB 0),(2,JR M 2147483647 cI 1),(3,JR M 255 cB 2),(4,JR M 18446744073709551615 cU 3),(5,JR M 255 cB 4),(6,JR M 18446744073709551615 cU 5),(7,JR M 2147483647 cI 6)]
theorem AHd(N:Nd)(M:VE)(L:LG Instr)(s:ByteArray)(K:Value->Prop):gG kIn N M L s K=bG kIn N M L s K:=by kernel_rfl
theorem AEU(M:MNt)(N:Nd)(x:Instr)(w:Value)(rs:Lv)(i:Int)(back:BK)(out:OT):gGR kIn (wG M) N x w rs i back out=bGR kIn (fIn M) N x w rs i back out:=by kernel_rfl
def kBu:RK1 EP:=⟨243,60,181,fun x _=>CF x,fun _=>[],GN,erB,.bool false,.bool true⟩
def fBu(M:MNt):List (Int×Ask):=[(1,JR M 18446744073709551615 cU 0),(2,JR M 2147483647 cI 1)]
theorem AG7(N:Nd)(M:VE)(L:LG EP)(s:ByteArray)(K:Value->Prop):gG kBu N M L s K=bG kBu N M L s K:=by kernel_rfl
theorem AEK(M:MNt)(N:Nd)(x:EP)(w:Value)(rs:Lv)(i:Int)(back:BK)(out:OT):gGR kBu (wG M) N x w rs i back out=bGR kBu (fBu M) N x w rs i back out:=by kernel_rfl
def kFi:RK1 EJ:=⟨212,104,34,fun x _=>[.int .i64 x.id,.int .u8 (x.base:Int),.int .i64 x.node,.int .i64 x.off,.int .i64 x.wid],fun _=>[],FH,erI,.int .i64 3,.int .i64 0⟩
def fFi(M:MNt):List (Int×Ask):=[(1,JR M 2147483647 cI 0),(2,JR M 255 cB 1),(3,JR M 2147483647 cI 2),(4,JR M 2147483647 cI 3),(5,JR M 2147483647 cI 4)]
theorem AHa(N:Nd)(M:VE)(L:LG EJ)(s:ByteArray)(K:Value->Prop):gG kFi N M L s K=bG kFi N M L s K:=by kernel_rfl
theorem AER(M:MNt)(N:Nd)(x:EJ)(w:Value)(rs:Lv)(i:Int)(back:BK)(out:OT):gGR kFi (wG M) N x w rs i back out=bGR kFi (fFi M) N x w rs i back out:=by kernel_rfl
def kMe:RK1 EQ:=⟨217,76,47,fun x _=>[.int .i64 x.id,.int .i64 x.rate,.int .i64 x.burst],fun _=>[],FJ,erI,.int .i64 3,.int .i64 0⟩
def fMe(M:MNt):List (Int×Ask):=[(1,JR M 2147483647 cI 0),(2,JR M 9223372036854775807 cG 1),(3,JR M 9223372036854775807 cG 2)]
theorem AHf(N:Nd)(M:VE)(L:LG EQ)(s:ByteArray)(K:Value->Prop):gG kMe N M L s K=bG kMe N M L s K:=by kernel_rfl
theorem AEV(M:MNt)(N:Nd)(x:EQ)(w:Value)(rs:Lv)(i:Int)(back:BK)(out:OT):gGR kMe (wG M) N x w rs i back out=bGR kMe (fMe M) N x w rs i back out:=by kernel_rfl
def kRg:RK1 GR:=⟨218,62,49,fun x _=>[.int .i64 x.id,.int .i64 x.size],fun _=>[],GU,erI,.int .i64 3,.int .i64 0⟩
def fRg(M:MNt):List (Int×Ask):=[(1,JR M 2147483647 cI 0),(2,JR M 2147483647 cI 1)]
theorem AHs(N:Nd)(M:VE)(L:LG GR)(s:ByteArray)(K:Value->Prop):gG kRg N M L s K=bG kRg N M L s K:=by kernel_rfl
theorem AE7(M:MNt)(N:Nd)(x:GR)(w:Value)(rs:Lv)(i:Int)(back:BK)(out:OT):gGR kRg (wG M) N x w rs i back out=bGR kRg (fRg M) N x w rs i back out:=by kernel_rfl
def kNo:RK1 DX:=⟨211,187,32,fun x w=>[.int .i64 x.id,.int .i64 x.size,.int .i64 x.lo,.int .i64 x.lw,.int .i64 x.lu,.int .i64 x.so,.int .i64 x.sw,w,.int .i64 x.ot],fun x=>rowsOf FV x.arms,HZ,erI,.int .i64 3,.int .i64 0⟩
def iI(M:MNt)(j:Nat):Ask:=JR M 2147483647 cI j
def fNo(M:MNt)(MI:ZL)(L:LJ):List (Int×Ask):=[(1,iI M 0),(2,iI M 1),(3,iI M 2),(4,iI M 3),(5,iI M 4),(6,iI M 5),(7,iI M 6),(8,iI M 8),(9,AAw 211 187 39 7 (kNo.o kNo.zs) MI L 32)]
def lNo:LK1:=⟨39,61,2,16,2⟩
theorem AHh(N:Nd)(M:VE)(L:LG DX)(s:ByteArray)(K:Value->Prop):gG kNo N M L s K=bG kNo N M L s K:=by kernel_rfl
theorem AEY(M:MNt)(MI:ZL)(L:LJ)(N:Nd)(x:DX)(w:Value)(rs:Lv)(i:Int)(back:BK)(out:OT):gGR kNo (wL 187 39 7 M MI L) N x w rs i back out=bGR kNo (fNo M MI L) N x w rs i back out:=by kernel_rfl
theorem AEX(M:M1 Arm)(N:Nd)(x:DX)(rs:Lv)(i:Int)(b:Bool)(rs2:Lv)(k:Nat)(ob:Option AJ)(j:Int)(back:BK)(out:OT):gJ kNo lNo (w1 241 FV M) N x rs i b rs2 k ob j back out=bJ kNo lNo (el1 FV M) N x rs i b rs2 k ob j back out:=by kernel_rfl
def kTa:RK1 DC:=⟨213,129,37,fun x w=>[.int .i64 x.id,.int .u8 (x.kind:Int),w,.int .i64 x.cap,.int .i64 x.miss],fun x=>rowsOf G7 x.keys,FK,erI,.int .i64 3,.int .i64 0⟩
def fTa(M:MNt)(MI:ZL)(L:LJ):List (Int×Ask):=[(1,iI M 0),(2,JR M 255 cB 1),(3,AAw 213 129 21 2 (kTa.o kTa.zs) MI L 4),(4,iI M 3),(5,iI M 4)]
def lTa:LK1:=⟨21,3,1,8,1⟩
theorem AHt(N:Nd)(M:VE)(L:LG DC)(s:ByteArray)(K:Value->Prop):gG kTa N M L s K=bG kTa N M L s K:=by kernel_rfl
theorem AE9(M:MNt)(MI:ZL)(L:LJ)(N:Nd)(x:DC)(w:Value)(rs:Lv)(i:Int)(back:BK)(out:OT):gGR kTa (wL 129 21 2 M MI L) N x w rs i back out=bGR kTa (fTa M MI L) N x w rs i back out:=by kernel_rfl
theorem AE8(M:MNt)(N:Nd)(x:DC)(rs:Lv)(i:Int)(b:Bool)(rs2:Lv)(k:Nat)(ob:Option AJ)(j:Int)(back:BK)(out:OT):gJ kTa lTa (wN M) N x rs i b rs2 k ob j back out=bJ kTa lTa (elN M 2147483647 cI) N x rs i b rs2 k ob j back out:=by kernel_rfl
def kBl:RK1 D6:=⟨215,89,42,fun x w=>[.int .i64 x.id,w],fun x=>rowsOf CO x.code,FD,erI,.int .i64 3,.int .i64 0⟩
def fBl(M:MNt)(MI:ZL)(L:LJ):List (Int×Ask):=[(1,iI M 0),(2,AAw 215 89 18 1 (kBl.o kBl.zs) MI L 32)]
def lBl:LK1:=⟨18,66,7,56,2⟩
theorem AG6(N:Nd)(M:VE)(L:LG D6)(s:ByteArray)(K:Value->Prop):gG kBl N M L s K=bG kBl N M L s K:=by kernel_rfl
theorem AEJ(M:MNt)(MI:ZL)(L:LJ)(N:Nd)(x:D6)(w:Value)(rs:Lv)(i:Int)(back:BK)(out:OT):gGR kBl (wL 89 18 1 M MI L) N x w rs i back out=bGR kBl (fBl M MI L) N x w rs i back out:=by kernel_rfl
theorem AEI(M:M1 Instr)(N:Nd)(x:D6)(rs:Lv)(i:Int)(b:Bool)(rs2:Lv)(k:Nat)(ob:Option AJ)(j:Int)(back:BK)(out:OT):gJ kBl lBl (w1 242 CO M) N x rs i b rs2 k ob j back out=bJ kBl lBl (el1 CO M) N x rs i b rs2 k ob j back out:=by kernel_rfl
def kGr:RK1 DL:=⟨216,117,45,fun x w=>[.int .i64 x.id,.int .u8 (x.kind:Int),.int .i64 x.fld,w],fun x=>rowsOf CF x.bks,FI,erI,.int .i64 3,.int .i64 0⟩
def fGr(M:MNt)(MI:ZL)(L:LJ):List (Int×Ask):=[(1,iI M 0),(2,JR M 255 cB 1),(3,iI M 2),(4,AAw 216 117 24 3 (kGr.o kGr.zs) MI L 16)]
def lGr:LK1:=⟨24,181,2,16,2⟩
theorem AHb(N:Nd)(M:VE)(L:LG DL)(s:ByteArray)(K:Value->Prop):gG kGr N M L s K=bG kGr N M L s K:=by kernel_rfl
theorem AET(M:MNt)(MI:ZL)(L:LJ)(N:Nd)(x:DL)(w:Value)(rs:Lv)(i:Int)(back:BK)(out:OT):gGR kGr (wL 117 24 3 M MI L) N x w rs i back out=bGR kGr (fGr M MI L) N x w rs i back out:=by kernel_rfl
theorem AES(M:M1 EP)(N:Nd)(x:DL)(rs:Lv)(i:Int)(b:Bool)(rs2:Lv)(k:Nat)(ob:Option AJ)(j:Int)(back:BK)(out:OT):gJ kGr lGr (w1 243 CF M) N x rs i b rs2 k ob j back out=bJ kGr lGr (el1 CF M) N x rs i b rs2 k ob j back out:=by kernel_rfl
def kEn:RK1 CJ:=⟨214,213,39,fun x w=>[.int .i64 x.tab,.string x.key,.string x.oth,.int .i64 x.len,.int .i64 x.prio,.int .i64 x.blk,w,.int .i64 x.idle,.int .i64 x.hard,.int .u64 (x.cook:Int),.bool x.tell],fun x=>rowsOf CS x.args,FE,erI,.int .i64 3,.int .i64 0⟩
def fEn(M:MNt)(MI:ZL)(L:LJ):List (Int×Ask):=[(1,iI M 0),(2,AGT 1),(3,AGT 2),(4,iI M 3),(5,iI M 4),(6,iI M 5),(7,AAw 214 213 33 6 (kEn.o kEn.zs) MI L 4),(8,JR M 9223372036854775807 cG 7),(9,JR M 9223372036854775807 cG 8),(10,JR M 18446744073709551615 cU 9),(11,AIT M 10)]
def lEn:LK1:=⟨33,28,1,8,1⟩
theorem AG9(N:Nd)(M:VE)(L:LG CJ)(s:ByteArray)(K:Value->Prop):gG kEn N M L s K=bG kEn N M L s K:=by kernel_rfl
theorem AEQ(M:MNt)(MI:ZL)(L:LJ)(N:Nd)(x:CJ)(w:Value)(rs:Lv)(i:Int)(back:BK)(out:OT):gGR kEn (wL 213 33 6 M MI L) N x w rs i back out=bGR kEn (fEn M MI L) N x w rs i back out:=by kernel_rfl
theorem AEP(M:MNt)(N:Nd)(x:CJ)(rs:Lv)(i:Int)(b:Bool)(rs2:Lv)(k:Nat)(ob:Option AJ)(j:Int)(back:BK)(out:OT):gJ kEn lEn (wN M) N x rs i b rs2 k ob j back out=bJ kEn lEn (elN M 18446744073709551615 cU) N x rs i b rs2 k ob j back out:=by kernel_rfl
variable {α:Type} {κ:RK1 α} {step:α->At->Option α}
def WOk(κ:RK1 α)(lt:Nat)(l:List At)(i:Nat)(x:α)(w:Value):Prop:=(w=I4/\κ.rws x=[])∨(w=dsl (κ.rws x)/\∃(j:Nat) (b:At),j<i/\l[j]?=some b/\b.t=lt)
theorem WOk.up{lt i:Nat}{l:List At}{x y:α}{w:Value}(h:WOk κ lt l i x w)(hr:κ.rws y=κ.rws x):WOk κ lt l (i+1) y w:=
 h.elim (fun g => .inl ⟨g.1,hr.trans g.2⟩) (fun⟨g,j,b,g1,g2,g3⟩ => .inr ⟨by rw[hr];exact g,j,b,by omega,g2,g3⟩)
def V7(κ:RK1 α)(step:α->At->Option α)(lt:Nat)(t:Int)(A:Ask):Prop:=
 ∀(l:List At),JS 0 l=0->∀(x:α) (w:Value) (i:Nat) (a:At),l[i]?=some a->(a.t:Int)=t->WOk κ lt l i x w->∀(nx:Bk) (no:NoK),
  (∀y w' ex,step x a=some y->WOk κ lt l (i+1) y w'->nx (κ.cw y w') ex)->(step x a=none->∀cs ex,no cs ex)->A κ.o (real Tryz.prog) (CZ l) (i:Int) (κ.cw x w) nx no
theorem QV{l:List At}{i:Nat}{a:At}{K:Int->ByteArray->Prop}(ha:l[i]?=some a)(h:K (a.t:Int) a.v):atR (real Tryz.prog) (CZ l) (i:Int) K:=
 EG i rfl (GH ha) rfl (EN (z:=(a.t:Int)) rfl (JM (z:=a.v) rfl h))
def AI5(most:Nat)(c:Cv):Prop:=c.1=none∨c=cB/\most<256∨c=cW4/\most<4294967296∨(c=cI∨c=cG)/\most<9223372036854775808
theorem lQ{most n:Nat}{k:Cv}{K:Int->Prop}(hf:AI5 most k)(hn:n<=most)(h:K (n:Int)):cvA (real Tryz.prog) k (n:Int) K:=by
 rcases hf with hf|⟨rfl,hf⟩ | ⟨rfl,hf⟩ | ⟨rfl|rfl,hf⟩
 ·unfold cvA;rw[hf];exact h
 ·exact BI CW uU8 (KU (by omega)) h
 ·exact BI CW tY (JP (by omega)) h
 ·exact BI CW DU (AX (by omega)) h
 ·exact BI CW YD (AX (by omega)) h
theorem opI{β:Type}{m:Nat}{s:List UInt8}{g:Int->β}:(AV m s).map g=(GQ s m).map fun n:Nat=>g (n:Int):=by
 unfold AV;cases GQ s m<;>rfl
theorem aT{lt most t:Nat}{k:Cv}{j:Nat}(set:α->Nat->α)(hf:AI5 most k)(hc:∀x w n,(κ.cw x w).set j (.int k.2 ((n:Nat):Int))=κ.cw (set x n) w)(hr:∀x n,κ.rws (set x n)=κ.rws x)
  (hs:∀x a,a.t=t->step x a=(GQ a.v.data.toList most).map (set x)):V7 κ step lt (t:Int) (JR MRN (most:Int) k j):=by
 intro l hen x w i a ha ht hw nx no h1 h2
 have hst:=hs x a (by omega)
 refine QV ha ⟨most,rfl,fun n hn=>?_,fun hn=>?_⟩
 ·exact lQ hf (BV hn).2.1 (by rw[hc];exact h1 _ w _ (by rw[hst,hn];rfl) (hw.up (hr x n)))
 ·exact lQ (n:=0) hf (Nat.zero_le _) (h2 (by rw[hst,hn];rfl) _ _)
theorem AB8{lt:Nat}{l:List At}(hen:JS 0 l=0){x:α}{w:Value}{i:Nat}{a:At}(ha:l[i]?=some a)(hw:WOk κ lt l i x w){nx:Lv->Lo->Prop}{no:NoK}
  (h1:∀y w' ex,step x a=some y->WOk κ lt l (i+1) y w'->nx (κ.cw y w') ex) (h2:step x a=none->∀cs ex,no cs ex):
  ∀(fs:List (Int×Ask)),(∀f∈fs,V7 κ step lt f.1 f.2)->((∀f∈fs,f.1≠(a.t:Int))->step x a=none)->chA κ.o (real Tryz.prog) (CZ l) (i:Int) (κ.cw x w) nx no (a.t:Int) fs
 | [],_,h4=>h2 (h4 fun f h=>by cases h) _ _
 |(t,A)::r,h3,h4=>HY (fun h=>h3 (t,A) (List.mem_cons_self ..) l hen x w i a ha h hw nx no h1 h2)
   (fun h=>AB8 hen ha hw h1 h2 r (fun f hf=>h3 f (List.mem_cons_of_mem _ hf)) fun h5=>h4 fun f hf=>by
    rcases List.mem_cons.1 hf with rfl|hf
    ·exact fun e=>h e.symm
    ·exact h5 f hf)
structure NT(κ:RK1 α)(step:α->At->Option α)(lt:Nat)(fs:List (Int×Ask)):Prop where
 asks:∀f∈fs,V7 κ step lt f.1 f.2
 else_:∀x a,(∀f∈fs,f.1≠((a.t:Nat):Int))->step x a=none
 bel:∀n x w,below n w=true->A8 n (κ.cw x w)=true
 weak:∀x w w',EI w w'->BR (κ.cw x w) (κ.cw x w')
 z:κ.rws κ.z=[]
 no:κ.no=κ.er 3
 nn:below 102 κ.no=true
 er:∀e,below 100 (κ.er e)=true
 ok:below 100 κ.ok=true
structure StG(κ:RK1 α)(step:α->At->Option α)(lt:Nat)(l:List At) where
 x:α
 w:Value
 i:Nat
 inv:YG step κ.z l x i
 wd:WOk κ lt l i x w
theorem WOk.form{lt i:Nat}{l:List At}{x:α}{w:Value}(h:WOk κ lt l i x w):below 102 w=true:=by
 rcases h with⟨rfl,_⟩ | ⟨rfl,_⟩<;>rfl
theorem WOk.weak{lt i:Nat}{l:List At}{x:α}{w:Value}(h:WOk κ lt l i x w):EI w (dsl (κ.rws x)):=by
 rcases h with⟨rfl,h⟩ | ⟨rfl,_⟩
 ·rw[h];exact .nilD
 ·exact .refl _
def IG(κ:RK1 α){lt:Nat}(l:List At)(p:StG κ step lt l):Lv×Lo:=([pA 100,pA 101,dsl (CZ l),.int .i64 (p.i:Int)],[κ.o κ.zs,κ.o (κ.cw p.x p.w)])
def RG(κ:RK1 α)(step:α->At->Option α)(l:List At)(e:Exit)(v:Lv)(o:Lo):Prop:=
 (∃x,run step κ.z l=some x/\e = .exit 0/\v=[pA 100,top,pA 101]/\o=[κ.o κ.zs,κ.o (κ.c x)])∨(run step κ.z l=none/\e = .ret/\v=[pA 100,κ.no,top]/\o=[κ.o κ.zs,none])
section
variable {lt:Nat} {fs:List (Int×Ask)}
theorem NT.bO(hk:NT κ step lt fs)(x:α){w:Value}(h:below 102 w=true):C8 102 (κ.o (κ.cw x w))=true:=hk.bel 102 x w h
theorem ALD(hk:NT κ step lt fs){W:How}(heq:∀N x w rs i back out,gGR κ W N x w rs i back out=bGR κ fs N x w rs i back out)(l:List At)(hl:l.length<=255)(hen:JS 0 l=0)(p:StG κ step lt l):
  Is (wpe Tryz.prog (real Tryz.prog) W 300 (.code false (AO Tryz.prog κ.f 6) (C9 100 κ.n [2,4,5,7] [] (IG κ l p))) (BM 100 [2,4,5,7] [2,3,4] κ.n []
   (fun AB AL=>∃a':StG κ step lt l,l.length-a'.i<l.length-p.i/\Wk 100 (100+2) AB AL (IG κ l a').1 (IG κ l a').2/\∀e v o,RG κ step l e v o->RG κ step l e v o)
   (fun e AB AL=>∃v o,Wk 100 (100+2) AB AL v o/\RG κ step l e v o))):=by
 refine⟨?_⟩
 obtain⟨x,w,i,inv,wd⟩:=p
 have hle:i<=l.length:=inv.le
 show gGR κ W (real Tryz.prog) x w (CZ l) (i:Int) _ _
 rw[heq]
 refine CL _ (FY _) (DW (fun hlt=>?_) (fun hge=>?_))
 ·have ha:l[i]?=some l[i]:=List.getElem?_eq_getElem hlt
  generalize l[i]=a at ha
  have hms:l.length-(i+1)<l.length-i:=by omega
  refine QV ha (AB8 hen ha wd (fun y w' ex hs hw'=>?_) (fun hs cs ex=>?_) fs hk.asks fun h=>hk.else_ x a h)
  ·exact BS (by omega) ⟨rfl,⟨y,w',i+1,inv.next ha hs,hw'⟩,hms,EE (hk.bO _ (w:=I4) rfl) (hk.bO y hw'.form),fun _ _ _ h=>h⟩
  ·refine⟨rfl,[pA 100,κ.no,top],_,(CQ (.cons (.refl _) (.cons (.refl _) (.cons (.top _) .nil))) (.cons (.refl _) (.cons (.none _) (D7.refl _)))).trans (I8 (k0:=2) (pre:=[κ.o κ.zs,none]) rfl ?_ fun j o hj=>?_),.inr ⟨inv.bad ha hs,rfl,rfl,rfl⟩⟩
   ·show A8 102 [pA 100,κ.no,top]=true
    simp only[A8,hk.nn];rfl
   ·rcases j with _|_|j
    ·simp only[List.getElem?_cons_zero,Option.some.injEq,RK1.o]at hj;subst hj
     exact hk.bO κ.z (w:=I4) rfl
    ·simp at hj
    ·simp at hj
 ·exact⟨rfl,_,_,CQ (BR.refl _) (.cons (.refl _) (.cons (.cells (hk.weak x _ _ wd.weak)) .nil)),.inl ⟨x,inv.last (by omega),rfl,rfl,rfl⟩⟩
def LGr(κ:RK1 α)(step:α->At->Option α):LG α:=fun c n AB obs A E=>∃l:List At,l.length<=255/\JS 0 l=0/\c=AO Tryz.prog κ.f 6/\n=κ.n/\AB=[pA 100,pA 101,dsl (CZ l),.int .i64 (0:Int)]/\obs=[κ.o κ.zs,κ.o κ.zs]/\
 (∀x,run step κ.z l=some x->A x)/\(run step κ.z l=none->E)
theorem lpG(hk:NT κ step lt fs){W:How}(hkn:QP Tryz.prog 100 W)(hlp:QQ Tryz.prog 100 W)(heq:∀N x w rs i back out,gGR κ W N x w rs i back out=bGR κ fs N x w rs i back out):BH Tryz.prog 100 [2,4,5,7] (AJ5 κ (LGr κ step)):=by
 show BH Tryz.prog 100 [2,4,5,7] (lpS [2,3,4] _)
 refine FW okp (W:=W) hkn hlp ?_
 rintro c n AB obs K ⟨l,hl,hen,hc,hn,hv,ho,hA,hE⟩
 subst hc;subst hn;subst hv;subst ho
 refine⟨StG κ step lt l,2,300,fun p=>l.length-p.i,IG κ l,fun _ e v o=>RG κ step l e v o,⟨κ.z,I4,0,⟨Nat.zero_le _,rfl⟩,.inl ⟨rfl,hk.z⟩⟩,rfl,Wk.refl _ _ _ _,?_,ALD hk heq l hl hen⟩
 intro e v o hR
 rcases hR with⟨x,h1,rfl,rfl,rfl⟩ | ⟨h1,rfl,rfl,rfl⟩
 ·exact hA x h1
 ·exact hE h1
def rvG(κ:RK1 α)(q:Nat×α):Value := .tuple ⟨[.agg ⟨κ.c q.2⟩,if q.1=0 then κ.ok else κ.er (q.1:Int)]⟩
theorem rvW(hk:NT κ step lt fs){e:Nat}(he:e≠0){q:Nat×α}(hq:q=(e,κ.z)):EI (.tuple ⟨[.agg ⟨κ.zs⟩,κ.er (e:Int)]⟩) (rvG κ q):=by
 subst hq
 unfold rvG
 dsimp only
 rw[if_neg he]
 refine .tup (.cons (.agg (hk.weak κ.z _ _ ?_)) (BR.refl _))
 show EI I4 (dsl (κ.rws κ.z))
 rw[hk.z];exact .nilD
theorem ALC(hk:NT κ step lt fs)(heq:∀N M L s K,gG κ N M L s K=bG κ N M L s K)(s:ByteArray):Is (gG κ (real Tryz.prog) MR6 (LGr κ step) s (fun v=>EI v (rvG κ (rdE step κ.z s.data.toList)))):=by
 refine⟨?_⟩
 rw[heq]
 refine N9 (d:=0) (fun h=>rvW hk h (FX h)) (fun h=>?_)
 have h0:(CP 0 s.data.toList).1=0:=h
 have hde:CP 0 s.data.toList=(0,(CP 0 s.data.toList).2):=Prod.ext h0 rfl
 obtain⟨k1,k2,k3⟩:=UK _ _ 0 _ (Nat.le_refl _) hde
 refine⟨_,I7 _,k1,rfl,rfl,rfl,rfl,fun x hx=>?_,fun hx=>?_⟩
 ·rw[OJ h0 hx];exact EI.refl _
 ·rw[hk.no];exact rvW hk (e:=3) (by omega) (OI h0 hx)
theorem ABq(hk:NT κ step lt fs)(q:Nat×α):below 100 (rvG κ q)=true:=by
 have h1:A8 100 (κ.c q.2)=true:=hk.bel 100 _ _ rfl
 have h2:below 100 (if q.1=0 then κ.ok else κ.er (q.1:Int))=true:=by
  split
  ·exact hk.ok
  ·exact hk.er _
 simp only[rvG,below,NW,A8,h1,h2];rfl
theorem eP(hk:NT κ step lt fs){W:How}(hkn:QP Tryz.prog 100 W)(hlp:QQ Tryz.prog 100 W)(heqR:∀N x w rs i back out,gGR κ W N x w rs i back out=bGR κ fs N x w rs i back out)(heq:∀N M L s K,gG κ N M L s K=bG κ N M L s K)
  (s:ByteArray) (B:Base) (H:Heap):BP Tryz.prog 100 B κ.f [.string s] H (.returned (rvG κ (rdE step κ.z s.data.toList))) H:=
 OG (DI (pu1 AJT)) (E9 (fun x hx=>by simp only[List.mem_singleton]at hx;subst hx;exact lpG hk hkn hlp heqR)) rfl (ABq hk _) (ALC hk heq s) B H
end
end
end Go.Proofs.Ob
namespace Go.Proofs.Ob
open Go Go.Abs Go.Tlv
theorem AGh{j k:Nat}{zo:AJ}{a r AB:Lv}{e1 z1:Nat}{lo1 ow1:Bool}{AL:Lo}{vs:Lv}{e sz:Nat}(hj:2<=j)(hz0:AL[0]?=some (some zo))(hzb:C8 102 (some zo)=true)(h0:AL[1]?=some (some (.cells (a ++ .slice (some ⟨100+j,0,none⟩) k k::r) e1 z1 lo1 ow1)))(ho:AL[j]?=some (some (.cells vs e sz true true)))
  (hv:A8 0 vs=true) (ha:A8 102 a=true) (hr:A8 102 r=true) (hvals:A8 102 AB=true) (hk:k≠0):
  Wk 100 (100+2) AB AL AB [some zo,some (.cells (a++mkS 102 k::r) e1 z1 lo1 ow1),some (.cells vs e sz true true)]:=by
 have hlt:j<AL.length:=(List.getElem?_eq_some_iff.1 ho).1
 have hτ:∀n,n<100+2->tau (100+2) [100+j] (100+AL.length) n=n:=fun n h=>PV h
 have hτ0:tau (100+2) [100+j] (100+AL.length) 102=100+j:=UB (Nat.le_refl _) (by simp)
 have hn:Names 100 2 [100+j] (100+AL.length) AB AL AB [some zo,some (.cells (a ++ .slice (some ⟨102,0,none⟩) k k::r) e1 z1 lo1 ow1),some (.cells vs e sz true true)]:=by
  refine⟨?_,rfl,by simp,fun x hx=>?_,by omega,fun i o hi=>?_⟩
  ·rw[←GY,CU hτ AB hvals]
  ·simp only[List.mem_singleton]at hx;omega
  ·rcases i with _|_|_|i
   ·simp only[List.getElem?_cons_zero,Option.some.injEq]at hi;subst hi
    rw[hτ _ (by omega),show 100+0-100=0 by omega,VW hτ hzb];exact hz0
   ·simp only[List.getElem?_cons_succ,List.getElem?_cons_zero,Option.some.injEq]at hi;subst hi
    rw[hτ _ (by omega),show 100+(0+1)-100=1 by omega,h0]
    have e3:FZ (tau (100+2) [100+j] (100+AL.length)) (a ++ .slice (some ⟨102,0,none⟩) k k::r)=a ++ .slice (some ⟨100+j,0,none⟩) k k::r:=by
     rw[GY,List.map_append,List.map_cons,←GY,←GY,CU hτ a ha,CU hτ r hr]
     simp only[GA,hτ0]
    simp only[GV,e3]
   ·simp only[List.getElem?_cons_succ,List.getElem?_cons_zero,Option.some.injEq]at hi;subst hi
    rw[show(100+(0+1+1):Nat)=102 from rfl,hτ0,show 100+j-100=j by omega,ho]
    have:FZ (tau (100+2) [100+j] (100+AL.length)) vs=vs:=CU (n0:=0) (fun n h=>by omega) vs hv
    simp only[GV,this]
   ·simp at hi
 exact(YF hn).trans (CQ (BR.refl _) (.cons (.refl _) (.cons (.cells (JG (.cons (.mark hk) (BR.refl _)))) (D7.refl _))))
theorem AGf{k:Nat}{zo:AJ}{a r AB:Lv}{e1 z1:Nat}{lo1 ow1:Bool}{A7 vs:Lv}{e sz:Nat}(hf:BU sz A7=some vs)(hb:A8 0 vs=true)(hs:0<sz)(hk:k=A7.length):
  Wk 100 (100+2) AB [some zo,some (.cells (a++mkS 102 k::r) e1 z1 lo1 ow1),mo vs e sz] AB [some zo,some (.cells (a ++ .iface mkD (.agg ⟨A7⟩)::r) e1 z1 lo1 ow1),none]:=by
 subst hk
 cases A7 with
 |nil=>
  simp only[BU,Option.some.injEq]at hf
  subst hf
  exact CQ (BR.refl _) (.cons (.refl _) (.cons (.cells (JG (.cons .emptyMD (BR.refl _)))) (.cons (.refl _) .nil)))
 |cons r0 A7=>
  have hvs:vs≠[]:=by
   intro e
   subst e
   have:=KH hf
   simp only[List.length_nil,List.length_cons]at this
   have h2:0<(A7.length+1)*sz:=Nat.mul_pos (by omega) hs
   omega
  rw[M9 hvs]
  refine⟨rfl,fun B F w R=>?_⟩
  obtain⟨b,d,o,c,fz,q1,q2,q3,q4,q5,q6⟩:=R.obj 101 _ (Q8 (G:=100) (i:=1) rfl)
  obtain⟨xa,xr,e3,ha,hr2⟩:=VRL.split q3
  simp only[VRL]at hr2
  obtain⟨x,xr',hx,hr3,rfl⟩:=hr2
  have hW:=U0 (G:=100) (n0:=100+2) (i:=2) (AB:=AB++[mkS 102 (r0::A7).length]) (vals':=AB++[.iface mkD (.agg ⟨r0::A7⟩)]) (AL:=[some zo,some (.cells (a++mkS 102 (r0::A7).length::r) e1 z1 lo1 ow1),some (.cells vs e sz true true)]) (A7:=r0::A7) rfl hf hb hs (by simp) (fun j v v' h1 h2=>by
   rcases Nat.lt_or_ge j AB.length with hlt|hge
   ·rw[List.getElem?_append_left hlt]at h1 h2
    rw[h1]at h2;exact .inl (Option.some.inj h2).symm
   ·rw[List.getElem?_append_right hge]at h1 h2
    cases hj:j-AB.length with
    |zero=>
     rw[hj]at h1 h2
     simp only[List.getElem?_cons_zero,Option.some.injEq]at h1 h2
     subst h1;subst h2
     exact .inr ⟨rfl,_,Nat.le_refl _,.inr ⟨rfl,by simp⟩⟩
    |succ m=>rw[hj]at h1;simp at h1)
  obtain⟨F',ag,R',hv⟩:=hW.2 B F w R
  have hx':VR F' (.iface mkD (.agg ⟨r0::A7⟩)) x:=hv AB.length _ _ x (by simp) (by simp) hx
  refine⟨F',ag,sU R' rfl fun i o' hi=>?_,fun j v v' x' h1 h2 hx2=>hv j v v' x' (by rw[List.getElem?_append_left (List.getElem?_eq_some_iff.1 h1).1];exact h1) (by rw[List.getElem?_append_left (List.getElem?_eq_some_iff.1 h2).1];exact h2) hx2⟩
  rcases i with _|_|_|i
  ·simp only[List.getElem?_cons_zero,Option.some.injEq]at hi;subst hi
   exact⟨_,rfl,rfl,fun h=>h⟩
  ·simp only[List.getElem?_cons_succ,List.getElem?_cons_zero,Option.some.injEq]at hi;subst hi
   refine⟨_,rfl,rfl,fun h=>?_⟩
   obtain⟨b',d',o',c',fz',k1,k2,k3,k4,k5,k6⟩:=h
   have hlen:(a ++ .iface mkD (.agg ⟨r0::A7⟩)::r).length=(a++mkS 102 (r0::A7).length::r).length:=by simp
   refine⟨b',d',o',c',fz',k1,k2,?_,by rw[hlen];exact k4,by rw[hlen];exact k5,k6⟩
   rw[hlen]
   obtain⟨ya,yr,e4,ha4,hr4⟩:=VRL.split k3
   simp only[VRL]at hr4
   obtain⟨y,yr',hy,hr5,rfl⟩:=hr4
   rw[e4]
   have hyx:y=x:=by
    have g1:=ag.at (n:=101) rfl q1
    have g2:F' 101=some (b',d',o'):=k1
    rw[g1]at g2
    simp only[Option.some.injEq,Prod.mk.injEq]at g2
    obtain⟨rfl,rfl,rfl⟩:=g2
    obtain⟨t1,w1,_⟩:=q2
    obtain⟨t2,w2,_⟩:=k2
    rw[w1]at w2
    simp only[Option.some.injEq,Obj.cells.injEq]at w2
    obtain⟨rfl,_,_⟩:=w2
    rw[e3]at e4
    have h5:=(List.append_inj e4 (by rw[ha.length,ha4.length])).2
    simp only[List.cons.injEq]at h5
    exact h5.1.symm
   subst hyx
   exact VRL.app ha4 (by simp only[VRL];exact⟨_,_,hx',hr5,rfl⟩)
  ·simp at hi
  ·simp at hi
end Go.Proofs.Ob
