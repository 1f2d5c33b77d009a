/- . -/
import Derived.Test.YtblbaohcelldpaaGreatDoorS1
import Derived.Test.YtblbaohcelldpaaGreatDoorN1
import Derived.Test.YtblbaohcelldpaaGreatDoorWB
set_option linter.all false
set_option maxRecDepth 100000
namespace Go.Tlv
open Go Go.Abs
def IY(l:List At)(k:Nat)(s:ByteArray):List At:=if s.data.toList=[]then l else l++[⟨k,s⟩]
def addN(l:List At)(k n:Nat):List At:=IY l k (bytesOf (EK n))
def atC(a:At):List Value:=[.int .u8 (a.t:Int),.string a.v]
def BS(l:List At):List Value:=l.flatMap atC
theorem V4(l m:List At):BS (l++m)=BS l++BS m:=by simp[BS]
theorem SF(l:List At):(BS l).length=l.length*2:=by
 induction l with
 |nil=>rfl
 |cons a l ih=>show((atC a)++BS l).length=_;rw[List.length_append,ih,List.length_cons];simp[atC];omega
theorem BJ(l:List At):BL 0 (BS l)=true:=by
 induction l with
 |nil=>rfl
 |cons a l ih=>show(true&&(true&&BL 0 (BS l)))=true;rw[ih];rfl
theorem ACZ(l:List At):DI 2 (l.map AAs)=some (BS l):=by
 induction l with
 |nil=>rfl
 |cons a l ih=>
  show DI 2 (.agg ⟨[.int .u8 (a.t:Int),.string a.v]⟩::l.map AAs)=_
  simp only[DI,ih];rfl
theorem AJB{l:List At}{k:Nat}{s:ByteArray}(h:l≠[]):IY l k s≠[]:=by
 unfold IY;split
 ·exact h
 ·simp
def okI(n:Int):Bool:=decide (0<=n)&&decide (n<=2147483647)
structure Arm where
 v:Nat
 nx:Int
structure Instr where
 op:Nat
 to:Int
 ak:Nat
 an:Nat
 bk:Nat
 bn:Nat
 n:Int
structure DN where
 w:Nat
 b:Int
def D7(x:Arm):List Value:=[.int .u32 (x.v:Int),.int .i64 x.nx]
def BN(x:Instr):List Value:=[.int .u8 (x.op:Int),.int .i64 x.to,.int .u8 (x.ak:Int),.int .u64 (x.an:Int),.int .u8 (x.bk:Int),.int .u64 (x.bn:Int),.int .i64 x.n]
def BB(x:DN):List Value:=[.int .u64 (x.w:Int),.int .i64 x.b]
def EM(n:Int):List Value:=[.int .i64 n]
def rowsOf{α:Type}(c:α->List Value)(l:List α):List Value:=l.map fun x => .agg ⟨c x⟩
theorem CL{α:Type}{c:α->List Value}{l:List α}{i:Nat}{x:α}(h:l[i]?=some x):(rowsOf c l)[i]?=some (.agg ⟨c x⟩):=by unfold rowsOf;rw[List.getElem?_map,h];rfl
theorem AQ{α:Type}(c:α->List Value)(l:List α):(rowsOf c l).length=l.length:=by simp[rowsOf]
def MX(x:Arm):Bool:=!okI x.nx
def GX(x:Instr):Bool:=!(okI x.to&&okI x.n)
def FH(x:DN):Bool:=!okI x.b
def OG(n:Int):Bool:=!okI n
theorem aF{α:Type}{p:α->Bool}{l:List α}{i:Nat}{x:α}(h:l[i]?=some x)(h0:(l.take i).any p=false)(hx:p x=false):(l.take (i+1)).any p=false:=by
 rw[List.take_add_one,h,List.any_append,h0];simp[hx]
theorem sJ{α:Type}{p:α->Bool}{l:List α}{i:Nat}{x:α}(h:l[i]?=some x)(hx:p x=true):l.any p=true:=
 List.any_eq_true.2 ⟨x,List.mem_of_getElem? h,hx⟩
def DJ(n:Nat):List Value:=[.int .u64 (n:Int)]
structure EP where
 id:Int
 size:Int
 lo:Int
 lw:Int
 lu:Int
 so:Int
 sw:Int
 arms:List Arm
 ot:Int
def OI(x:EP):Value := .agg ⟨[.int .i64 x.id,.int .i64 x.size,.int .i64 x.lo,.int .i64 x.lw,.int .i64 x.lu,.int .i64 x.so,.int .i64 x.sw,dsl (rowsOf D7 x.arms),.int .i64 x.ot]⟩
def JX(x:EP):Bool:=[x.id,x.size,x.lo,x.lw,x.lu,x.so,x.sw,x.ot].all okI&&(decide ((x.arms.length:Int)<=32)&&!x.arms.any MX)
def KQ(x:EP):Prop:=x.arms.length<1000000000
structure E9 where
 id:Int
 base:Nat
 node:Int
 off:Int
 wid:Int
def K6(x:E9):Value := .agg ⟨[.int .i64 x.id,.int .u8 (x.base:Int),.int .i64 x.node,.int .i64 x.off,.int .i64 x.wid]⟩
def I5(x:E9):Bool:=[x.id,x.node,x.off,x.wid].all okI
def NI(_x:E9):Prop:=True
structure EB where
 id:Int
 kind:Nat
 keys:List Int
 cap:Int
 miss:Int
def K9(x:EB):Value := .agg ⟨[.int .i64 x.id,.int .u8 (x.kind:Int),dsl (rowsOf EM x.keys),.int .i64 x.cap,.int .i64 x.miss]⟩
def IG(x:EB):Bool:=[x.id,x.cap,x.miss].all okI&&(decide ((x.keys.length:Int)<=4)&&x.keys.all okI)
def JF(x:EB):Prop:=x.keys.length<1000000000
structure C9 where
 tab:Int
 key:ByteArray
 oth:ByteArray
 len:Int
 prio:Int
 blk:Int
 args:List Nat
 idle:Int
 hard:Int
 cook:Nat
 tell:Bool
def K5(x:C9):Value := .agg ⟨[.int .i64 x.tab,.string x.key,.string x.oth,.int .i64 x.len,.int .i64 x.prio,.int .i64 x.blk,dsl (rowsOf DJ x.args),.int .i64 x.idle,.int .i64 x.hard,.int .u64 (x.cook:Int),.bool x.tell]⟩
def IB(x:C9):Bool:=[x.tab,x.len,x.prio,x.blk].all okI&&(decide (0<=x.idle)&&(decide (0<=x.hard)&&(decide ((x.key.data.toList.length:Int)<=32)&&(decide ((x.oth.data.toList.length:Int)<=32)&&decide ((x.args.length:Int)<=4)))))
def JD(x:C9):Prop:=x.args.length<1000000000
structure ES where
 id:Int
 code:List Instr
def K4(x:ES):Value := .agg ⟨[.int .i64 x.id,dsl (rowsOf BN x.code)]⟩
def H9(x:ES):Bool:=[x.id].all okI&&(decide ((x.code.length:Int)<=32)&&!x.code.any GX)
def JC(x:ES):Prop:=x.code.length<1000000000
structure EI where
 id:Int
 kind:Nat
 fld:Int
 bks:List DN
def K7(x:EI):Value := .agg ⟨[.int .i64 x.id,.int .u8 (x.kind:Int),.int .i64 x.fld,dsl (rowsOf BB x.bks)]⟩
def IC(x:EI):Bool:=[x.id,x.fld].all okI&&(decide ((x.bks.length:Int)<=16)&&!x.bks.any FH)
def JE(x:EI):Prop:=x.bks.length<1000000000
structure FJ where
 id:Int
 rate:Int
 burst:Int
def K8(x:FJ):Value := .agg ⟨[.int .i64 x.id,.int .i64 x.rate,.int .i64 x.burst]⟩
def I6(x:FJ):Bool:=[x.id].all okI&&(decide (0<=x.rate)&&decide (0<=x.burst))
def NJ(_x:FJ):Prop:=True
structure IJ where
 id:Int
 size:Int
def OJ(x:IJ):Value := .agg ⟨[.int .i64 x.id,.int .i64 x.size]⟩
def J9(x:IJ):Bool:=[x.id,x.size].all okI
def PL(_x:IJ):Prop:=True
theorem ADw(l:List Int):(!l.any OG)=l.all okI:=by
 induction l with
 |nil=>rfl
 |cons a l ih=>simp only[List.any_cons,List.all_cons,←ih,OG];cases okI a<;>simp
abbrev slen(s:ByteArray):Nat:=s.data.toList.length
def QS:List ByteArray->Nat
 | []=>0
 |s::l=>if 65535<slen s then 5 else QS l
def zM(s:ByteArray):List UInt8:=two (slen s)++s.data.toList
def GV(l:List ByteArray):List UInt8:=l.flatMap zM
def EJ(l:List ByteArray):List UInt8:=if QS l=0 then GV l else[]
theorem fA(l:List ByteArray)(s:ByteArray):GV (l++[s])=GV l++zM s:=by simp[GV]
theorem M6(n:Nat)(l:List At):BL n (BS l)=true:=by
 induction l with
 |nil=>rfl
 |cons a l ih=>show(true&&(true&&BL n (BS l)))=true;rw[ih];rfl
def A8(n:Int):Nat:=(n % 18446744073709551616).toNat
theorem AO(n:Int):A8 n<18446744073709551616:=by unfold A8;omega
theorem AL{k m:Nat}(h:m=0):addN [] k m=[]:=by subst h;unfold addN IY;rw[if_pos];exact DR
theorem DW{k m:Nat}(h:m≠0):addN [] k m=[⟨k,bytesOf (EK m)⟩]:=by
 unfold addN IY;rw[if_neg];rfl
 exact fun e=>h (kN.1 e)
theorem DY{k:Nat}{s:ByteArray}(h:s.data.toList=[]):IY [] k s=[]:=by unfold IY;rw[if_pos h]
theorem SC{k:Nat}{s:ByteArray}(h:s.data.toList≠[]):IY [] k s=[⟨k,s⟩]:=by unfold IY;rw[if_neg h];rfl
def XT(x:Arm):List At:=addN (addN [] 1 (A8 x.v)) 2 (A8 x.nx)
def KE(x:Instr):List At:=addN (addN (addN (addN (addN (addN (addN [] 1 (A8 x.op)) 2 (A8 x.to)) 3 (A8 x.ak)) 4 x.an) 5 (A8 x.bk)) 6 x.bn) 7 (A8 x.n)
def OP(x:DN):List At:=addN (addN [] 1 x.w) 2 (A8 x.b)
def R8(_x:Arm):Prop:=True
def KU(x:Instr):Prop:=x.an<18446744073709551616/\x.bn<18446744073709551616
def I7(x:DN):Prop:=x.w<18446744073709551616
def OL(_n:Int):Prop:=True
def L6(n:Nat):Prop:=n<18446744073709551616
def CU(x:Arm):ByteArray:=bytesOf (encS (XT x))
def BF(x:Instr):ByteArray:=bytesOf (encS (KE x))
def BC(x:DN):ByteArray:=bytesOf (encS (OP x))
def CV(n:Int):ByteArray:=bytesOf (EK (A8 n))
def BU(n:Nat):ByteArray:=bytesOf (EK n)
def AGq(l:List At)(k:Nat)(b:Bool):List At:=if b=true then addN l k 1 else l
theorem PP{l:List At}{k:Nat}{b:Bool}(h:b=true):AGq l k b=addN l k 1:=if_pos h
theorem QK{l:List At}{k:Nat}{b:Bool}(h:b=false):AGq l k b=l:=if_neg (by rw[h];simp)
def EU(may:Bool)(l:List At):Value:=match may with
 |true => .tuple ⟨[.string (bytesOf (encS l)),.int .i64 (0:Int)]⟩
 |false => .tuple ⟨[.string (bytesOf []),.int .i64 (3:Int)]⟩
def GD(x:EP):List At:=IY (addN (addN (addN (addN (addN (addN (addN (addN [] 1 (A8 x.id)) 2 (A8 x.size)) 3 (A8 x.lo)) 4 (A8 x.lw)) 5 (A8 x.lu)) 6 (A8 x.so)) 7 (A8 x.sw)) 8 (A8 x.ot)) 9 (bytesOf (EJ (x.arms.map CU)))
def lL(_x:EP):Prop:=True
def GQ(x:E9):List At:=addN (addN (addN (addN (addN [] 1 (A8 x.id)) 2 (A8 x.base)) 3 (A8 x.node)) 4 (A8 x.off)) 5 (A8 x.wid)
def cK(_x:E9):Prop:=True
def GR(x:EB):List At:=addN (addN (IY (addN (addN [] 1 (A8 x.id)) 2 (A8 x.kind)) 3 (bytesOf (EJ (x.keys.map CV)))) 4 (A8 x.cap)) 5 (A8 x.miss)
def dA(_x:EB):Prop:=True
def DL(x:C9):List At:=AGq (addN (addN (addN (IY (addN (addN (addN (IY (IY (addN [] 1 (A8 x.tab)) 2 x.key) 3 x.oth) 4 (A8 x.len)) 5 (A8 x.prio)) 6 (A8 x.blk)) 7 (bytesOf (EJ (x.args.map BU)))) 8 (A8 x.idle)) 9 (A8 x.hard)) 10 x.cook) 11 x.tell
def cB(x:C9):Prop:=(∀y∈x.args,L6 y)/\x.cook<18446744073709551616
def I9(x:ES):List At:=IY (addN [] 1 (A8 x.id)) 2 (bytesOf (EJ (x.code.map BF)))
def bZ(x:ES):Prop:=∀y∈x.code,KU y
def G9(x:EI):List At:=IY (addN (addN (addN [] 1 (A8 x.id)) 2 (A8 x.kind)) 3 (A8 x.fld)) 4 (bytesOf (EJ (x.bks.map BC)))
def cO(x:EI):Prop:=∀y∈x.bks,I7 y
def IK(x:FJ):List At:=addN (addN (addN [] 1 (A8 x.id)) 2 (A8 x.rate)) 3 (A8 x.burst)
def cZ(_x:FJ):Prop:=True
def KF(x:IJ):List At:=addN (addN [] 1 (A8 x.id)) 2 (A8 x.size)
def lN(_x:IJ):Prop:=True
def lY(l:List At):Nat->Nat
 | 0=>0
 |i+1=>match l[i]? with
  |some a=>a.t
  |none=>0
structure A9 where
 a0:Nat
 a1:Nat
 a2:Int
 a3:Int
 a4:Int
 a5:Int
 a6:Int
 a7:Nat
 a8:Nat
 a9:ByteArray
 a10:List Nat
 n:EP
 f:E9
 t:EB
 e:C9
 b:ES
 g:EI
 m:FJ
 r:IJ
def F8(x:A9):Value := .agg ⟨[.int .u8 (x.a0:Int),.int .u32 (x.a1:Int),.int .i64 x.a2,.int .i64 x.a3,.int .i64 x.a4,.int .i64 x.a5,.int .i64 x.a6,.int .u64 (x.a7:Int),.int .u64 (x.a8:Int),.string x.a9,dsl (rowsOf DJ x.a10),.int .i64 x.n.id,.int .i64 x.n.size,.int .i64 x.n.lo,.int .i64 x.n.lw,.int .i64 x.n.lu,.int .i64 x.n.so,.int .i64 x.n.sw,dsl (rowsOf D7 x.n.arms),.int .i64 x.n.ot,.int .i64 x.f.id,.int .u8 (x.f.base:Int),.int .i64 x.f.node,.int .i64 x.f.off,.int .i64 x.f.wid,.int .i64 x.t.id,.int .u8 (x.t.kind:Int),dsl (rowsOf EM x.t.keys),.int .i64 x.t.cap,.int .i64 x.t.miss,.int .i64 x.e.tab,.string x.e.key,.string x.e.oth,.int .i64 x.e.len,.int .i64 x.e.prio,.int .i64 x.e.blk,dsl (rowsOf DJ x.e.args),.int .i64 x.e.idle,.int .i64 x.e.hard,.int .u64 (x.e.cook:Int),.bool x.e.tell,.int .i64 x.b.id,dsl (rowsOf BN x.b.code),.int .i64 x.g.id,.int .u8 (x.g.kind:Int),.int .i64 x.g.fld,dsl (rowsOf BB x.g.bks),.int .i64 x.m.id,.int .i64 x.m.rate,.int .i64 x.m.burst,.int .i64 x.r.id,.int .i64 x.r.size]⟩
def AMN(x:EP):Prop:=KQ x/\lL x/\x.arms.length<1000
def AKu(x:E9):Prop:=NI x/\cK x/\True
def AKA(x:EB):Prop:=JF x/\dA x/\x.keys.length<1000
def AKt(x:C9):Prop:=JD x/\cB x/\x.args.length<1000
def AKs(x:ES):Prop:=JC x/\bZ x/\x.code.length<1000
def AKv(x:EI):Prop:=JE x/\cO x/\x.bks.length<1000
def AKz(x:FJ):Prop:=NJ x/\cZ x/\True
def AMO(x:IJ):Prop:=PL x/\lN x/\True
end Go.Tlv
namespace Go.Proofs.Ob
open Go Go.Abs Go.Tlv
noncomputable section
abbrev RK:=Value->List (Option AA)->Prop
def h0:Heap:=hOf 100 [] []
def AQe:List Value->(Value->Prop)->Prop
 | [.int .u64 n],K=>(0<=n/\n<18446744073709551616)/\K (.string (bytesOf (EK n.toNat)))
 |_,_=>False
def AXh(M:Int->Int->(ByteArray->Prop)->Prop)(m:Int):List Value->(Value->Prop)->Prop
 | [.int .u64 n],K=>M m n fun s=>K (.string s)
 |_,_=>False
def W0:How:=AP (fun _=>none) (fun _=>false) [] [] [] [(18,10)]
def W0r(M:Int->Int->(ByteArray->Prop)->Prop)(m:Int):How:=AP (fun _=>none) (fun _=>false) [] [] [(121,AXh M m)] []
def AOU(N:Nd)(n:Int)(K:RK):Prop:=wpe Tryz.prog N W0 300 (.call 140 [(.int .u64 n)] h0) (FD 100 K)
def AW8(N:Nd)(M:Int->Int->(ByteArray->Prop)->Prop)(n:Int)(K:RK):Prop:=ATY Tryz.prog N (W0r M n) 300 121 [.int .u64 n] h0 (FD 100 K)
theorem AJW(N:Nd)(n:Int)(K:RK):AOU N n K=(N.cmp .gtr .u64 n .u64 0 (N.conv 28 5 .u64 n .u8 (fun z0=>N.ari .shr .u64 n .u64 8 (fun z1=>N.cmp .gtr .u64 z1 .u64 0 (N.conv 28 5 .u64 z1 .u8 (fun z2=>N.ari .shr .u64 z1 .u64 8 (fun z3=>N.cmp .gtr .u64 z3 .u64 0 (N.conv 28 5 .u64 z3 .u8 (fun z4=>N.ari .shr .u64 z3 .u64 8 (fun z5=>N.cmp .gtr .u64 z5 .u64 0 (N.conv 28 5 .u64 z5 .u8 (fun z6=>N.ari .shr .u64 z5 .u64 8 (fun z7=>N.cmp .gtr .u64 z7 .u64 0 (N.conv 28 5 .u64 z7 .u8 (fun z8=>N.ari .shr .u64 z7 .u64 8 (fun z9=>N.cmp .gtr .u64 z9 .u64 0 (N.conv 28 5 .u64 z9 .u8 (fun z10=>N.ari .shr .u64 z9 .u64 8 (fun z11=>N.cmp .gtr .u64 z11 .u64 0 (N.conv 28 5 .u64 z11 .u8 (fun z12=>N.ari .shr .u64 z11 .u64 8 (fun z13=>N.cmp .gtr .u64 z13 .u64 0 (N.conv 28 5 .u64 z13 .u8 (fun z14=>N.ari .shr .u64 z13 .u64 8 (fun z15=>N.cmp .gtr .u64 z15 .u64 0 (N.conv 28 5 .u64 z15 .u8 (fun z16=>False)) (N.str [z14,z12,z10,z8,z6,z4,z2,z0] (fun s16=>K (.string s16) [(some (AA.cells [.int .u8 z14,.int .u8 z12,.int .u8 z10,.int .u8 z8,.int .u8 z6,.int .u8 z4,.int .u8 z2,.int .u8 z0] 238 8 false true))]))))) (N.str [z12,z10,z8,z6,z4,z2,z0] (fun s14=>K (.string s14) [(some (AA.cells [.int .u8 0,.int .u8 z12,.int .u8 z10,.int .u8 z8,.int .u8 z6,.int .u8 z4,.int .u8 z2,.int .u8 z0] 238 8 false true))]))))) (N.str [z10,z8,z6,z4,z2,z0] (fun s12=>K (.string s12) [(some (AA.cells [.int .u8 0,.int .u8 0,.int .u8 z10,.int .u8 z8,.int .u8 z6,.int .u8 z4,.int .u8 z2,.int .u8 z0] 238 8 false true))]))))) (N.str [z8,z6,z4,z2,z0] (fun s10=>K (.string s10) [(some (AA.cells [.int .u8 0,.int .u8 0,.int .u8 0,.int .u8 z8,.int .u8 z6,.int .u8 z4,.int .u8 z2,.int .u8 z0] 238 8 false true))]))))) (N.str [z6,z4,z2,z0] (fun s8=>K (.string s8) [(some (AA.cells [.int .u8 0,.int .u8 0,.int .u8 0,.int .u8 0,.int .u8 z6,.int .u8 z4,.int .u8 z2,.int .u8 z0] 238 8 false true))]))))) (N.str [z4,z2,z0] (fun s6=>K (.string s6) [(some (AA.cells [.int .u8 0,.int .u8 0,.int .u8 0,.int .u8 0,.int .u8 0,.int .u8 z4,.int .u8 z2,.int .u8 z0] 238 8 false true))]))))) (N.str [z2,z0] (fun s4=>K (.string s4) [(some (AA.cells [.int .u8 0,.int .u8 0,.int .u8 0,.int .u8 0,.int .u8 0,.int .u8 0,.int .u8 z2,.int .u8 z0] 238 8 false true))]))))) (N.str [z0] (fun s2=>K (.string s2) [(some (AA.cells [.int .u8 0,.int .u8 0,.int .u8 0,.int .u8 0,.int .u8 0,.int .u8 0,.int .u8 0,.int .u8 z0] 238 8 false true))]))))) (N.str [] (fun s0=>K (.string s0) [(some (AA.cells [.int .u8 0,.int .u8 0,.int .u8 0,.int .u8 0,.int .u8 0,.int .u8 0,.int .u8 0,.int .u8 0] 238 8 false true))]))):=by kernel_rfl
theorem AWd(N:Nd)(M:Int->Int->(ByteArray->Prop)->Prop)(n:Int)(K:RK):AW8 N M n K=(N.cmp .eql .u64 n .u64 0 (K (.string (bytesOf [])) []) (N.ari .quo .u64 n .u64 256 (fun z0=>M n z0 (fun s1=>N.ari .rem .u64 n .u64 256 (fun z2=>N.conv 28 5 .u64 z2 .u8 (fun z3=>N.str [z3] (fun s4=>N.cat s1 s4 (fun s5=>K (.string s5) [(some (AA.cells [.int .u8 z3] 5 1 false true))])))))))):=by kernel_rfl
theorem t23:Tryz.prog.underlying 28=some (.int .u64):=by kernel_rfl
theorem t5:Tryz.prog.underlying 5=some (.int .u8):=by kernel_rfl
theorem AMM(m:Nat)(hm:m<18446744073709551616):Is (AOU (real Tryz.prog) (m:Int) (PQ (.string (bytesOf (EK m))))):=by
 refine⟨?_⟩
 rw[AJW]
 exact UU (fun p0=>R4 t23 t5 (WK (by omega) (UU (fun p1=>R4 t23 t5 (WK (by omega) (UU (fun p2=>R4 t23 t5 (WK (by omega) (UU (fun p3=>R4 t23 t5 (WK (by omega) (UU (fun p4=>R4 t23 t5 (WK (by omega) (UU (fun p5=>R4 t23 t5 (WK (by omega) (UU (fun p6=>R4 t23 t5 (WK (by omega) (UU (fun p7=>R4 t23 t5 (WK (by omega) (UU (fun p8=>absurd p8 (by omega)) (fun e8=>VP (PQ.of (by rw[CZ p0,CZ p1,CZ p2,CZ p3,CZ p4,CZ p5,CZ p6,CZ p7,e8,DR];rfl) rfl))))) (fun e7=>VP (PQ.of (by rw[CZ p0,CZ p1,CZ p2,CZ p3,CZ p4,CZ p5,CZ p6,e7,DR];rfl) rfl))))) (fun e6=>VP (PQ.of (by rw[CZ p0,CZ p1,CZ p2,CZ p3,CZ p4,CZ p5,e6,DR];rfl) rfl))))) (fun e5=>VP (PQ.of (by rw[CZ p0,CZ p1,CZ p2,CZ p3,CZ p4,e5,DR];rfl) rfl))))) (fun e4=>VP (PQ.of (by rw[CZ p0,CZ p1,CZ p2,CZ p3,e4,DR];rfl) rfl))))) (fun e3=>VP (PQ.of (by rw[CZ p0,CZ p1,CZ p2,e3,DR];rfl) rfl))))) (fun e2=>VP (PQ.of (by rw[CZ p0,CZ p1,e2,DR];rfl) rfl))))) (fun e1=>VP (PQ.of (by rw[CZ p0,e1,DR];rfl) rfl))))) (fun e0=>VP (PQ.of (by rw[e0,DR];rfl) rfl))
theorem APR:FY Tryz.prog 100 140 AQe:=by
 intro args K h
 unfold AQe at h
 split at h
 ·rename_i n
  obtain⟨⟨h0,h1⟩,hk⟩:=h
  obtain⟨m,e⟩:=Int.eq_ofNat_of_zero_le h0
  subst e
  exact⟨_,fun B H=>GL okp DC AZ rfl rfl (AMM m (by omega)) B H,hk⟩
 ·exact h.elim
end
end Go.Proofs.Ob
namespace Go.Abs
open Go
noncomputable section
section
variable {P:Program} {G:Nat} {B:Base}
theorem AKK{F:Nm}{w:World}{AC:List (Option AA)}(R:Rel G F (hOf G [] AC) B w):Rel G F (hOf G [] (AC++[none])) B w:=by
 have key:∀n o,(hOf G [] (AC++[none])).get n=some o->(hOf G [] AC).get n=some o:=by
  intro n o h
  obtain⟨h1,h2,h3⟩:=Y9 h
  rw[List.getElem?_append]at h3
  split at h3
  ·have:=V9 (G:=G) h3
   rw[show G+(n-G)=n by omega]at this;exact this
  ·rename_i hge
   rw[List.getElem?_singleton]at h3
   split at h3<;>cases h3
 constructor
 ·intro n o h;exact R.obj n o (key n o h)
 ·intro n m o o' h h' hne how;exact R.inj n m o o' (key n o h) (key m o' h') hne how
 ·intro n h
  refine R.fresh n ?_
  have h:G+(AC++[none]).length<=n:=h
  rw[List.length_append]at h
  show G+AC.length<=n
  omega
 ·exact R.glob
 ·exact R.base
 ·exact R.frame
 ·intro b i v hz;exact⟨(R.froz b i v hz).1,fun n o h how=>(R.froz b i v hz).2 n o (key n o h) how⟩
 ·exact R.zprot
 ·exact R.os
 ·exact R.out
 ·exact R.tape
theorem ACs{n0:Nat}{AB:List Value}{AC:List (Option AA)}:Wk G n0 AB AC AB (AC++[none]):=
 ⟨rfl,fun B F w R=>⟨F,Agree.refl _ _,AKK R,fun i v v' x h1 h2 h=>by rw[h1]at h2;simp only[Option.some.injEq]at h2;subst h2;exact h⟩⟩
theorem AD0{n0 b:Nat}{rest:List Value}{AC:List (Option AA)}:Wk G n0 (.slice none 0 0::rest) AC (mkS b 0::rest) (AC++[none]):=
 (EX (.cons .nilM (DT.refl _)) (F5.refl _)).trans ACs
theorem AJg{n0:Nat}{τ:Nat->Nat}{AB vals':List Value}{AC objs':List (Option AA)}(hv:AB=vals'.map (F7 τ))(hG:G<=n0)(h0:∀n,n<n0->τ n=n)(hge:∀n,G<=n->G<=τ n)(hfr:∀n,G+objs'.length<=n->G+AC.length<=τ n)
  (hinj:∀(i j:Nat) o o',objs'[i]?=some (some o)->objs'[j]?=some (some o')->τ (G+i)=τ (G+j)->i=j) (ho:∀(i:Nat) o,objs'[i]?=some (some o)->AC[τ (G+i)-G]?=some (some (G8 τ o))):Wk G n0 AB AC vals' objs':=by
 refine⟨by rw[hv,List.length_map],fun B F w R=>⟨F.re τ,⟨fun n hn => .inl (by simp only[Nm.re,h0 n hn]),Q9 _⟩,?_,fun i v v' x h1 h2 hx=>?_⟩⟩
 ·have hget:∀n o,(hOf G [] objs').get n=some o->G<=n/\objs'[n-G]?=some (some o)/\(hOf G [] AC).get (τ n)=some (G8 τ o):=by
   intro n o h
   obtain⟨h1,h2,h3⟩:=Y9 h
   have h4:=V9 (G:=G) (ho _ _ h3)
   have e1:G+(n-G)=n:=by omega
   rw[e1]at h4
   have h5:=hge n h1
   rw[show G+(τ n-G)=τ n by omega]at h4
   exact⟨h1,h3,h4⟩
  constructor
  ·intro n o h
   exact TH (R.obj _ _ (hget n o h).2.2)
  ·intro n m o o' h h' hne how
   obtain⟨g1,g2,g3⟩:=hget n o h
   obtain⟨k1,k2,k3⟩:=hget m o' h'
   refine R.inj _ _ _ _ g3 k3 (fun e=>hne ?_) (by rw[GK];exact how)
   have:=hinj (n-G) (m-G) o o' g2 k2 (by rw[show G+(n-G)=n by omega,show G+(m-G)=m by omega];exact e)
   omega
  ·intro n h
   exact R.fresh _ (hfr n h)
  ·intro g hg
   simp only[Nm.re,h0 g (by omega)];exact R.glob g hg
  ·exact R.base
  ·exact R.frame
  ·intro b i v hz
   exact⟨(R.froz b i v hz).1,fun n o hn how=>(R.froz b i v hz).2 _ _ (hget n o hn).2.2 (by rw[GK];exact how)⟩
  ·exact R.zprot
  ·exact R.os
  ·exact R.out
  ·exact R.tape
 ·rw[hv,List.getElem?_map,h2]at h1
  simp only[Option.map_some,Option.some.injEq]at h1
  rw[←h1]at hx
  exact(VT _ _).1 hx
theorem I1{k0:Nat}{AB:List Value}{pre extra:List (Option AA)}(hk:pre.length=k0)(hv:BL (G+k0) AB=true)(ho:∀(i:Nat) o,pre[i]?=some (some o)->EC (G+k0) (some o)=true):Wk G (G+k0) AB (pre++extra) AB pre:=by
 have hτ:∀n,n<G+k0->(if n<G+k0 then n else n+extra.length)=n:=fun n h=>if_pos h
 refine AJg (τ:=fun n=>if n<G+k0 then n else n+extra.length) ?_ (by omega) hτ (fun n hn=>?_) (fun n hn=>?_) (fun i j o o' hi hj e=>?_) (fun i o hi=>?_)
 ·rw[←MK,EA hτ AB hv]
 ·show G<=if n<G+k0 then n else n+extra.length
  split<;>omega
 ·show G+(pre++extra).length<=if n<G+k0 then n else n+extra.length
  rw[if_neg (by omega),List.length_append];omega
 ·have h1:=(List.getElem?_eq_some_iff.1 hi).1
  have h2:=(List.getElem?_eq_some_iff.1 hj).1
  simp only[hτ _ (show G+i<G+k0 by omega),hτ _ (show G+j<G+k0 by omega)]at e
  omega
 ·have h1:=(List.getElem?_eq_some_iff.1 hi).1
  simp only[hτ _ (show G+i<G+k0 by omega),Nat.add_sub_cancel_left]
  rw[List.getElem?_append_left h1,hi]
  exact congrArg (fun x=>some (some x)) (ZE hτ (ho i o hi)).symm
theorem IU{k0 j k:Nat}{va rest:List Value}{AC pre:List (Option AA)}{vs:List Value}{e sz:Nat}(hj:k0<=j)(ho:AC[j]?=some (some (.cells vs e sz true true)))(hv:BL 0 vs=true)(hva:BL (100+k0) va=true)(hr:BL (100+k0) rest=true)(hk:k≠0)
  (hp:pre.length=k0) (hpre:∀(i:Nat) o,pre[i]?=some (some o)->AC[i]?=some (some o)/\EC (100+k0) (some o)=true):
  Wk 100 (100+k0) (va ++ .slice (some ⟨100+j,0,none⟩) k k::rest) AC (va++mkS (100+k0) k::rest) (pre++[some (.cells vs e sz true true)]):=by
 have hlt:j<AC.length:=(List.getElem?_eq_some_iff.1 ho).1
 have hτ:∀n,n<100+k0->tau (100+k0) [100+j] (100+AC.length) n=n:=fun n h=>Q6 h
 have hτ0:tau (100+k0) [100+j] (100+AC.length) (100+k0)=100+j:=MZ (Nat.le_refl _) (by simp)
 have hn:Names 100 k0 [100+j] (100+AC.length) (va ++ .slice (some ⟨100+j,0,none⟩) k k::rest) AC (va ++ .slice (some ⟨100+k0,0,none⟩) k k::rest) (pre++[some (.cells vs e sz true true)]):=by
  refine⟨?_,by rw[List.length_append,hp];rfl,by simp,fun x hx=>?_,by omega,fun i o hi=>?_⟩
  ·rw[List.map_append,List.map_cons,←MK,←MK,EA hτ va hva,EA hτ rest hr]
   simp only[F7,hτ0]
  ·simp only[List.mem_singleton]at hx;omega
  ·rw[List.getElem?_append]at hi
   split at hi
   ·rename_i hlt2
    obtain⟨h1,h2⟩:=hpre i o hi
    rw[hτ _ (by omega),show 100+i-100=i by omega,ZE hτ h2];exact h1
   ·rename_i hge
    have hi0:i=k0:=by
     have:=(List.getElem?_eq_some_iff.1 hi).1
     simp only[List.length_singleton]at this;omega
    subst hi0
    rw[hp,Nat.sub_self]at hi
    simp only[List.getElem?_cons_zero,Option.some.injEq]at hi;subst hi
    rw[hτ0,show 100+j-100=j by omega,ho]
    have:FE (tau (100+i) [100+j] (100+AC.length)) vs=vs:=EA (n0:=0) (fun n h=>by omega) vs hv
    simp only[G8,this]
 refine(XN hn).trans (EX ?_ (F5.refl _))
 have happ:∀l m m':List Value,DT m m'->DT (l++m) (l++m'):=by
  intro l m m' h
  induction l with
  |nil=>exact h
  |cons v l ih=>exact .cons (.refl v) ih
 exact happ _ _ _ (.cons (.mark hk) (DT.refl _))
theorem FZ.unmark{a:Addr}{l c:Nat}(hl:l≠0):FZ (.iface mkM (.slice (some a) l c)) (.slice (some a) l c):=fun _ _ h=>by
 rcases h.M_cases with⟨_,h⟩ | ⟨e,_⟩
 ·exact h
 ·exact absurd e hl
theorem IP{n0 b:Nat}{va rest:List Value}{AC:List (Option AA)}:Wk G n0 (va ++ .slice none 0 0::rest) AC (va++mkS b 0::rest) (AC++[none]):=by
 have happ:∀l m m':List Value,DT m m'->DT (l++m) (l++m'):=by
  intro l m m' h
  induction l with
  |nil=>exact h
  |cons v l ih=>exact .cons (.refl v) ih
 exact(EX (happ _ _ _ (.cons .nilM (DT.refl _))) (F5.refl _)).trans ACs
abbrev LK:=Exit->List Value->List (Option AA)->Prop
abbrev LF:=Code->Nat->List Value->List (Option AA)->LK->Prop
def lpS(live2:List Nat)(F:LF):LpS:=fun c n AB ds h Q=>match ds with
 | []=>match Nat.ble 100 h.next with
  |true=>F c n AB (GJ 100 h) (fun e v o=>Q (.ex e (CX 100 n live2 [] (v,o))))
  |false=>False
 |_=>False
theorem FQ(hP:D8 P 100=true){W:How}(hkn:OM P 100 W)(hlp:SN P 100 W){live live2:List Nat}{F:LF}
  (h:∀c n AB obs K,F c n AB obs K->∃(α:Type) (k0 fuel:Nat) (m:α->Nat) (I:α->List Value×List (Option AA)) (R:α->LK) (a:α),obs.length=k0/\Wk 100 (100+k0) AB obs (I a).1 (I a).2/\(∀e v o,R a e v o->K e v o)/\
   ∀a,Is (wpe P (real P) W fuel (.code false c (CX 100 n live [] (I a))) (A7 100 live live2 n []
   (fun AB AC=>∃a',m a' < m a/\Wk 100 (100+k0) AB AC (I a').1 (I a').2/\∀e v o,R a' e v o->R a e v o)
   (fun e AB AC=>∃v o,Wk 100 (100+k0) AB AC v o/\R a e v o)))):BH P 100 live (lpS live2 F):=by
 intro c n AB ds hh Q hs
 unfold lpS at hs
 split at hs
 ·split at hs
  ·rename_i hle
   obtain⟨α,k0,fuel,m,I,R,a,h1,h2,h3,h4⟩:=h _ _ _ _ _ hs
   obtain⟨e,v,o,g1,g2⟩:=ADt hP hkn hlp (live:=live) (live2:=live2) (ds:=[]) rfl m I R h4 a h1 h2 (Nat.le_of_ble_eq_true hle)
   exact⟨_,g2,h3 _ _ _ g1⟩
  ·exact hs.elim
 ·exact hs.elim
theorem PS{f:FuncId}{args args':List Value}{H H':Heap}{e:Ending}(hw:DT args args')(h:BM P G B f args' H e H'):BM P G B f args H e H':=
 fun F w x R ha=>h F w x R (hw.ok ha)
theorem VRL.app{F:Nm}:∀ {l m l' m':List Value},VRL F l l'->VRL F m m'->VRL F (l++m) (l'++m')
 | [],m,l',m',h,h2=>by simp only[VRL]at h;subst h;exact h2
 |v::l,m,l',m',h,h2=>by
  simp only[VRL]at h
  obtain⟨v',r',g1,g2,e⟩:=h
  subst e
  simp only[List.cons_append,VRL]
  exact⟨v',r'++m',g1,VRL.app g2 h2,rfl⟩
theorem fD{f:FuncId}{pre post:List Value}{AY vs:List Value}{v:Value}{H:Heap}{n k c elem size:Nat}{lo:Bool}
  (hS:∀B H,BM P G B f (pre ++ .iface mkD (.agg ⟨AY⟩)::post) H (.returned v) H) (hget:H.get n=some (.cells vs elem size lo true)) (hf:DI size AY=some vs) (hb:BL 0 vs=true) (hs:0<size) (hk:k=AY.length) (hc:k<=c)
  (hpre:BL 0 pre=true) (hpost:BL 0 post=true) (hv:plain v=true) (B:Base):BM P G B f (pre ++ .slice (some ⟨n,0,none⟩) k c::post) H (.returned v) H:=by
 subst hk
 intro F w args' R ha
 have hGn:=R.next_le
 obtain⟨b,d,o,cc,fz,hF,⟨t,hw,ht⟩,hvl,hsz,hex,hown⟩:=R.obj _ _ hget
 have hnz:∀j,F.z b j=none:=by
  intro j
  cases hz:F.z b j with
  |none=>rfl
  |some v=>exact absurd (by simp[blk,hF]) ((R.froz b j v hz).2 _ _ hget rfl)
 let zz:Nat->Nat->Option Value:=fun b' j=>if b'=b/\o<=j/\j<o+vs.length then cc[j]? else F.z b' j
 have hzz:zle F.z zz:=by
  intro b' j v hz
  show(if b'=b/\o<=j/\j<o+vs.length then cc[j]? else F.z b' j)=some v
  rw[if_neg]
  ·exact hz
  ·intro hc;rw[hc.1,hnz]at hz;cases hz
 let F1:Nm:=⟨F.f,zz⟩
 let F2:Nm:=⟨fun m=>if m<G then F m else none,zz⟩
 have hFG:∀m,m<G->F m=some (m,0,0):=R.glob
 let B2:Base:=⟨w,fun i=>i<w.heap.size,fun i h=>h,zz,fun g vs hg=>by
  obtain⟨t,fz,h2⟩:=R.tabW g vs hg
  exact⟨(Array.getElem?_eq_some_iff.1 h2).1,t,fz,h2⟩⟩
 have hfz:∀b' i v,zz b' i=some v->∃c t fz,w.heap[b']?=some (.cells c t fz)/\c[i]?=some v:=by
  intro b' i v hz
  have hz:(if b'=b/\o<=i/\i<o+vs.length then cc[i]? else F.z b' i)=some v:=hz
  split at hz
  ·rename_i hcc;exact⟨cc,t,fz,by rw[hcc.1];exact hw,hz⟩
  ·obtain⟨⟨c,t,fz,g1,g2,_⟩,_⟩:=R.froz b' i v hz
   exact⟨c,t,fz,g1,g2⟩
 have hno:∀m o',(hOf G [] []).get m≠some o':=by
  intro m o' h
  obtain⟨_,h2,_⟩:=Y9 h
  simp only[List.length_nil]at h2;omega
 have R2:Rel G F2 (hOf G [] []) B2 w:=by
  constructor
  ·intro m o' h;exact absurd h (hno m o')
  ·intro m m' o' o2 h;exact absurd h (hno m o')
  ·intro m h
   have h:G+0<=m:=h
   show(if m<G then F m else none)=none
   rw[if_neg (by omega)]
  ·intro g hg
   show(if g<G then F g else none)=_
   rw[if_pos hg];exact R.glob g hg
  ·exact Nat.le_refl _
  ·intro i _;rfl
  ·intro b' i v hz
   obtain⟨c2,t2,fz2,g1,g2⟩:=hfz b' i v hz
   exact⟨⟨c2,t2,fz2,g1,g2,fun hn=>absurd (Array.getElem?_eq_some_iff.1 g1).1 hn⟩,fun m o' h=>absurd h (hno m o')⟩
  ·intro b' i v hz _;exact hz
  ·rfl
  ·rfl
  ·rfl
 obtain⟨a,x,e,hx,hy⟩:=VRL.split ha
 have hag:Agree 0 F F2:=⟨fun n hn=>absurd hn (Nat.not_lt_zero n),hzz⟩
 simp only[VRL]at hy
 obtain⟨y,q',hy,hq,e2⟩:=hy
 subst e2
 have hy2:VR F2 (.iface mkD (.agg ⟨AY⟩)) y:=by
  simp only[VR]at hy
  obtain⟨a',d',o',q1,q2,q3,q4⟩:=hy
  rw[hF]at q1;simp only[Option.some.injEq,Prod.mk.injEq]at q1
  obtain⟨e1,e2,e3⟩:=q1
  subst q4
  obtain⟨rows',k1,k2⟩:=jU (F:=F2) AY vs _ hf hb (VRL.below hag _ _ hb hvl)
  refine VR.D_mk (rows':=rows') (sz:=size) k1 (by omega) q3 hs fun r rr hr=>?_
  obtain⟨cs,g1,g2,g3⟩:=k2 r rr hr
  refine⟨cs,g1,g2,fun j y hj=>?_⟩
  have:=g3 j y hj
  rw[List.getElem?_take]at this
  split at this
  ·rename_i hlt
   rw[List.getElem?_drop]at this
   show(if a'.block=b/\o<=a'.off+r*size+j/\a'.off+r*size+j<o+vs.length then cc[a'.off+r*size+j]? else F.z a'.block (a'.off+r*size+j))=some y
   rw[if_pos ⟨e1.symm,by omega,by omega⟩]
   have e5:a'.off+r*size+j=o+(r*size+j):=by omega
   rw[e5,←this];simp
  ·cases this
 have ha2:VRL F2 (pre ++ .iface mkD (.agg ⟨AY⟩)::post) args'.toList:=by
  rw[e]
  refine VRL.app (VRL.below hag _ _ hpre hx) ?_
  simp only[VRL]
  exact⟨y,q',hy2,VRL.below hag _ _ hpost hq,rfl⟩
 refine(hS B2 (hOf G [] []) F2 w args' R2 ha2).mono fun e1 w' ⟨F3,hle,he,R3⟩=>?_
 let F4:Nm:=⟨F.f,fun b' j=>if b'=b then F.z b' j else F3.z b' j⟩
 have hF4:Nm.le F F4:=by
  refine⟨fun n x h=>h,fun b' j v hz=>?_⟩
  show(if b'=b then F.z b' j else F3.z b' j)=some v
  split
  ·exact hz
  ·exact hle.zs b' j v (hzz b' j v hz)
 have hwb:b<w.heap.size:=by
  rcases Nat.lt_or_ge b w.heap.size with h|h
  ·exact h
  ·rw[Array.getElem?_eq_none h]at hw;cases hw
 have hold:∀m o',H.get m=some o'->∀b',blk F m=some b'->w'.heap[b']?=w.heap[b']?:=by
  intro m o' h b' hb'
  obtain⟨b2,g1,g2,_⟩:=R.blk_lt h
  rw[hb']at g1;simp only[Option.some.injEq]at g1;subst g1
  exact R3.frame b' g2
 refine⟨F4,hF4,?_,?_⟩
 ·simp only[EnR]at he ⊢
  obtain⟨v2,h3,h4⟩:=he
  exact⟨v2,(VR.plain_eq _ _ hv).2 ((VR.plain_eq _ _ hv).1 h3),h4⟩
 ·constructor
  ·intro m o' h;exact NR hF4 (LQ (R.obj m o' h) (hold m o' h))
  ·exact R.inj
  ·exact R.fresh
  ·exact R.glob
  ·have:=R.base;have:=R3.base
   have e:B2.w.heap.size=w.heap.size:=rfl
   omega
  ·intro i hi
   have h1:=B.lt i hi
   have h2:=R.base
   rw[R3.frame i (show i<w.heap.size by omega)];exact R.frame i hi
  ·intro b' i v hz
   have hz:(if b'=b then F.z b' i else F3.z b' i)=some v:=hz
   split at hz
   ·rename_i hbb;rw[hbb,hnz]at hz;cases hz
   ·rename_i hbb
    refine⟨R3.frozB hz fun hn hp c2 t2 fz2 hw2=>by
     have hz2:zz b' i=some v:=R3.zprot b' i v hz hp
     have hz2:(if b'=b/\o<=i/\i<o+vs.length then cc[i]? else F.z b' i)=some v:=hz2
     rw[if_neg (fun hc=>hbb hc.1)]at hz2
     exact R.un b' i v hz2 hn c2 t2 fz2 (by rw[←R3.frame b' hp];exact hw2),fun m o' h how hblk=>?_⟩
    obtain⟨b2,g1,g2,_⟩:=R.blk_lt h
    have hblk:blk F m=some b':=hblk
    rw[hblk]at g1;simp only[Option.some.injEq]at g1;subst g1
    have hz2:zz b' i=some v:=R3.zprot b' i v hz g2
    have hz2:(if b'=b/\o<=i/\i<o+vs.length then cc[i]? else F.z b' i)=some v:=hz2
    rw[if_neg (fun hc=>hbb hc.1)]at hz2
    exact(R.froz b' i v hz2).2 m o' h how hblk
  ·intro b' i v hz hp
   have hz:(if b'=b then F.z b' i else F3.z b' i)=some v:=hz
   have h1:=B.lt b' hp
   have h2:=R.base
   split at hz
   ·exact R.zprot b' i v hz hp
   ·rename_i hbb
    have hz2:zz b' i=some v:=R3.zprot b' i v hz (show b' < w.heap.size by omega)
    have hz2:(if b'=b/\o<=i/\i<o+vs.length then cc[i]? else F.z b' i)=some v:=hz2
    rw[if_neg (fun hc=>hbb hc.1)]at hz2
    exact R.zprot b' i v hz2 hp
  ·rw[R3.os];exact R.os
  ·rw[R3.out];exact R.out
  ·rw[R3.tape];exact R.tape
theorem AR1{m d:Nat}{K:Int->Prop}(hd:0<d)(hm:m<=9223372036854775807)(hk:K ((m / d:Nat):Int)):(real P).ari .quo .i64 (m:Int) .i64 (d:Int) K:=by
 refine⟨((m / d:Nat):Int),?_,hk⟩
 have hlt:m / d<=9223372036854775807:=Nat.le_trans (Nat.div_le_self _ _) hm
 have e:IntKind.i64.wrap ((m:Int).tdiv (d:Int))=((m / d:Nat):Int):=by
  rw[show((m:Int).tdiv (d:Int))=((m / d:Nat):Int)by simp]
  generalize m / d=q at hlt
  simp[IntKind.wrap,IntKind.signed,IntKind.bits];omega
 have hd0:¬(d:Int)=0:=by omega
 simp only[H8,e]
 rw[show decide ((d:Int)=0)=false by simpa using hd0];rfl
end
end
end Go.Abs
