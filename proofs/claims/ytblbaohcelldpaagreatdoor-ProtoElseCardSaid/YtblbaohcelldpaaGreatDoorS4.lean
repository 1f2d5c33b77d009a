/- Objects as bytes: what the document says of them, in Lean. -/
import Derived.Test.YtblbaohcelldpaaGreatDoorS1
import Derived.Test.YtblbaohcelldpaaGreatDoorN1
import Derived.Test.YtblbaohcelldpaaGreatDoorWA
set_option linter.all false
namespace Go.Tlv
open Go Go.Abs
def addT(l:List At)(k:Nat)(s:ByteArray):List At:=if s.data.toList=[]then l else l++[⟨k,s⟩]
def addN(l:List At)(k n:Nat):List At:=addT l k (bytesOf (numB n))
def atC(a:At):List Value:=[.int .u8 (a.t:Int),.string a.v]
def cellsA(l:List At):List Value:=l.flatMap atC
theorem cellsA_app(l m:List At):cellsA (l++m)=cellsA l++cellsA m:=by simp[cellsA]
theorem cellsA_len(l:List At):(cellsA l).length=l.length*2:=by
 induction l with
 |nil=>rfl
 |cons a l ih=>show((atC a)++cellsA l).length=_;rw[List.length_append,ih,List.length_cons];simp[atC];omega
theorem cellsA_below(l:List At):belowL 0 (cellsA l)=true:=by
 induction l with
 |nil=>rfl
 |cons a l ih=>show(true&&(true&&belowL 0 (cellsA l)))=true;rw[ih];rfl
theorem flatA(l:List At):flatRows 2 (l.map rowA)=some (cellsA l):=by
 induction l with
 |nil=>rfl
 |cons a l ih=>
  show flatRows 2 (.agg ⟨[.int .u8 (a.t:Int),.string a.v]⟩::l.map rowA)=_
  simp only[flatRows,ih];rfl
theorem addT_ne{l:List At}{k:Nat}{s:ByteArray}(h:l≠[]):addT l k s≠[]:=by
 unfold addT;split
 ·exact h
 ·simp
def okI(n:Int):Bool:=decide (0<=n)&&decide (n<=2147483647)
structure Arm where
 v:Nat
 nx:Int
structure Instr where
 op:Nat
 to:Int
 ak:Nat
 an:Nat
 bk:Nat
 bn:Nat
 n:Int
structure Bucket where
 w:Nat
 b:Int
def cArm(x:Arm):List Value:=[.int .u32 (x.v:Int),.int .i64 x.nx]
def cInstr(x:Instr):List Value:=[.int .u8 (x.op:Int),.int .i64 x.to,.int .u8 (x.ak:Int),.int .u64 (x.an:Int),.int .u8 (x.bk:Int),.int .u64 (x.bn:Int),.int .i64 x.n]
def cBucket(x:Bucket):List Value:=[.int .u64 (x.w:Int),.int .i64 x.b]
def cInt(n:Int):List Value:=[.int .i64 n]
def rowsOf{α:Type}(c:α->List Value)(l:List α):List Value:=l.map fun x => .agg ⟨c x⟩
theorem rowsOf_get{α:Type}{c:α->List Value}{l:List α}{i:Nat}{x:α}(h:l[i]?=some x):(rowsOf c l)[i]?=some (.agg ⟨c x⟩):=by unfold rowsOf;rw[List.getElem?_map,h];rfl
theorem rowsOf_len{α:Type}(c:α->List Value)(l:List α):(rowsOf c l).length=l.length:=by simp[rowsOf]
def pArm(x:Arm):Bool:=!okI x.nx
def pInstr(x:Instr):Bool:=!(okI x.to&&okI x.n)
def pBucket(x:Bucket):Bool:=!okI x.b
def pInt(n:Int):Bool:=!okI n
theorem any_take{α:Type}{p:α->Bool}{l:List α}{i:Nat}{x:α}(h:l[i]?=some x)(h0:(l.take i).any p=false)(hx:p x=false):(l.take (i+1)).any p=false:=by
 rw[List.take_add_one,h,List.any_append,h0];simp[hx]
theorem any_of{α:Type}{p:α->Bool}{l:List α}{i:Nat}{x:α}(h:l[i]?=some x)(hx:p x=true):l.any p=true:=
 List.any_eq_true.2 ⟨x,List.mem_of_getElem? h,hx⟩
def cNat(n:Nat):List Value:=[.int .u64 (n:Int)]
structure ONode where
 id:Int
 size:Int
 lo:Int
 lw:Int
 lu:Int
 so:Int
 sw:Int
 arms:List Arm
 ot:Int
def vNode(x:ONode):Value := .agg ⟨[.int .i64 x.id,.int .i64 x.size,.int .i64 x.lo,.int .i64 x.lw,.int .i64 x.lu,.int .i64 x.so,.int .i64 x.sw,dsl (rowsOf cArm x.arms),.int .i64 x.ot]⟩
def mayNode(x:ONode):Bool:=[x.id,x.size,x.lo,x.lw,x.lu,x.so,x.sw,x.ot].all okI&&(decide ((x.arms.length:Int)<=32)&&!x.arms.any pArm)
def fitNode(x:ONode):Prop:=x.arms.length<1000000000
structure OField where
 id:Int
 base:Nat
 node:Int
 off:Int
 wid:Int
def vField(x:OField):Value := .agg ⟨[.int .i64 x.id,.int .u8 (x.base:Int),.int .i64 x.node,.int .i64 x.off,.int .i64 x.wid]⟩
def mayField(x:OField):Bool:=[x.id,x.node,x.off,x.wid].all okI
def fitField(_x:OField):Prop:=True
structure OTable where
 id:Int
 kind:Nat
 keys:List Int
 cap:Int
 miss:Int
def vTable(x:OTable):Value := .agg ⟨[.int .i64 x.id,.int .u8 (x.kind:Int),dsl (rowsOf cInt x.keys),.int .i64 x.cap,.int .i64 x.miss]⟩
def mayTable(x:OTable):Bool:=[x.id,x.cap,x.miss].all okI&&(decide ((x.keys.length:Int)<=4)&&x.keys.all okI)
def fitTable(x:OTable):Prop:=x.keys.length<1000000000
structure OEntry where
 tab:Int
 key:ByteArray
 oth:ByteArray
 len:Int
 prio:Int
 blk:Int
 args:List Nat
 idle:Int
 hard:Int
 cook:Nat
 tell:Bool
def vEntry(x:OEntry):Value := .agg ⟨[.int .i64 x.tab,.string x.key,.string x.oth,.int .i64 x.len,.int .i64 x.prio,.int .i64 x.blk,dsl (rowsOf cNat x.args),.int .i64 x.idle,.int .i64 x.hard,.int .u64 (x.cook:Int),.bool x.tell]⟩
def mayEntry(x:OEntry):Bool:=[x.tab,x.len,x.prio,x.blk].all okI&&(decide (0<=x.idle)&&(decide (0<=x.hard)&&(decide ((x.key.data.toList.length:Int)<=32)&&(decide ((x.oth.data.toList.length:Int)<=32)&&decide ((x.args.length:Int)<=4)))))
def fitEntry(x:OEntry):Prop:=x.args.length<1000000000
structure OBlock where
 id:Int
 code:List Instr
def vBlock(x:OBlock):Value := .agg ⟨[.int .i64 x.id,dsl (rowsOf cInstr x.code)]⟩
def mayBlock(x:OBlock):Bool:=[x.id].all okI&&(decide ((x.code.length:Int)<=32)&&!x.code.any pInstr)
def fitBlock(x:OBlock):Prop:=x.code.length<1000000000
structure OGroup where
 id:Int
 kind:Nat
 fld:Int
 bks:List Bucket
def vGroup(x:OGroup):Value := .agg ⟨[.int .i64 x.id,.int .u8 (x.kind:Int),.int .i64 x.fld,dsl (rowsOf cBucket x.bks)]⟩
def mayGroup(x:OGroup):Bool:=[x.id,x.fld].all okI&&(decide ((x.bks.length:Int)<=16)&&!x.bks.any pBucket)
def fitGroup(x:OGroup):Prop:=x.bks.length<1000000000
structure OMeter where
 id:Int
 rate:Int
 burst:Int
def vMeter(x:OMeter):Value := .agg ⟨[.int .i64 x.id,.int .i64 x.rate,.int .i64 x.burst]⟩
def mayMeter(x:OMeter):Bool:=[x.id].all okI&&(decide (0<=x.rate)&&decide (0<=x.burst))
def fitMeter(_x:OMeter):Prop:=True
structure ORegs where
 id:Int
 size:Int
def vRegs(x:ORegs):Value := .agg ⟨[.int .i64 x.id,.int .i64 x.size]⟩
def mayRegs(x:ORegs):Bool:=[x.id,x.size].all okI
def fitRegs(_x:ORegs):Prop:=True
theorem okI_any(l:List Int):(!l.any pInt)=l.all okI:=by
 induction l with
 |nil=>rfl
 |cons a l ih=>simp only[List.any_cons,List.all_cons,←ih,pInt];cases okI a<;>simp
abbrev slen(s:ByteArray):Nat:=s.data.toList.length
def listE:List ByteArray->Nat
 | []=>0
 |s::l=>if 65535<slen s then 5 else listE l
def itemB(s:ByteArray):List UInt8:=two (slen s)++s.data.toList
def listBB(l:List ByteArray):List UInt8:=l.flatMap itemB
def listS(l:List ByteArray):List UInt8:=if listE l=0 then listBB l else[]
theorem listBB_snoc(l:List ByteArray)(s:ByteArray):listBB (l++[s])=listBB l++itemB s:=by simp[listBB]
theorem cellsA_belowN(n:Nat)(l:List At):belowL n (cellsA l)=true:=by
 induction l with
 |nil=>rfl
 |cons a l ih=>show(true&&(true&&belowL n (cellsA l)))=true;rw[ih];rfl
def u64N(n:Int):Nat:=(n % 18446744073709551616).toNat
theorem u64N_lt(n:Int):u64N n<18446744073709551616:=by unfold u64N;omega
theorem addN_e{k m:Nat}(h:m=0):addN [] k m=[]:=by subst h;unfold addN addT;rw[if_pos];exact numB_zero
theorem addN_f{k m:Nat}(h:m≠0):addN [] k m=[⟨k,bytesOf (numB m)⟩]:=by
 unfold addN addT;rw[if_neg];rfl
 exact fun e=>h (numB_nil.1 e)
theorem addT_e{k:Nat}{s:ByteArray}(h:s.data.toList=[]):addT [] k s=[]:=by unfold addT;rw[if_pos h]
theorem addT_f{k:Nat}{s:ByteArray}(h:s.data.toList≠[]):addT [] k s=[⟨k,s⟩]:=by unfold addT;rw[if_neg h];rfl
def attsArm(x:Arm):List At:=addN (addN [] 1 (u64N x.v)) 2 (u64N x.nx)
def attsInstr(x:Instr):List At:=addN (addN (addN (addN (addN (addN (addN [] 1 (u64N x.op)) 2 (u64N x.to)) 3 (u64N x.ak)) 4 x.an) 5 (u64N x.bk)) 6 x.bn) 7 (u64N x.n)
def attsBucket(x:Bucket):List At:=addN (addN [] 1 x.w) 2 (u64N x.b)
def wfArm(_x:Arm):Prop:=True
def wfInstr(x:Instr):Prop:=x.an<18446744073709551616/\x.bn<18446744073709551616
def wfBucket(x:Bucket):Prop:=x.w<18446744073709551616
def wfInt(_n:Int):Prop:=True
def wfNat(n:Nat):Prop:=n<18446744073709551616
def oneArm(x:Arm):ByteArray:=bytesOf (encS (attsArm x))
def oneInstr(x:Instr):ByteArray:=bytesOf (encS (attsInstr x))
def oneBucket(x:Bucket):ByteArray:=bytesOf (encS (attsBucket x))
def oneInt(n:Int):ByteArray:=bytesOf (numB (u64N n))
def oneNat(n:Nat):ByteArray:=bytesOf (numB n)
def addB(l:List At)(k:Nat)(b:Bool):List At:=if b=true then addN l k 1 else l
theorem addB_t{l:List At}{k:Nat}{b:Bool}(h:b=true):addB l k b=addN l k 1:=if_pos h
theorem addB_f{l:List At}{k:Nat}{b:Bool}(h:b=false):addB l k b=l:=if_neg (by rw[h];simp)
def putV(may:Bool)(l:List At):Value:=match may with
 |true => .tuple ⟨[.string (bytesOf (encS l)),.int .i64 (0:Int)]⟩
 |false => .tuple ⟨[.string (bytesOf []),.int .i64 (3:Int)]⟩
def attsNode(x:ONode):List At:=addT (addN (addN (addN (addN (addN (addN (addN (addN [] 1 (u64N x.id)) 2 (u64N x.size)) 3 (u64N x.lo)) 4 (u64N x.lw)) 5 (u64N x.lu)) 6 (u64N x.so)) 7 (u64N x.sw)) 8 (u64N x.ot)) 9 (bytesOf (listS (x.arms.map oneArm)))
def wfNode(_x:ONode):Prop:=True
def attsField(x:OField):List At:=addN (addN (addN (addN (addN [] 1 (u64N x.id)) 2 (u64N x.base)) 3 (u64N x.node)) 4 (u64N x.off)) 5 (u64N x.wid)
def wfField(_x:OField):Prop:=True
def attsTable(x:OTable):List At:=addN (addN (addT (addN (addN [] 1 (u64N x.id)) 2 (u64N x.kind)) 3 (bytesOf (listS (x.keys.map oneInt)))) 4 (u64N x.cap)) 5 (u64N x.miss)
def wfTable(_x:OTable):Prop:=True
def attsEntry(x:OEntry):List At:=addB (addN (addN (addN (addT (addN (addN (addN (addT (addT (addN [] 1 (u64N x.tab)) 2 x.key) 3 x.oth) 4 (u64N x.len)) 5 (u64N x.prio)) 6 (u64N x.blk)) 7 (bytesOf (listS (x.args.map oneNat)))) 8 (u64N x.idle)) 9 (u64N x.hard)) 10 x.cook) 11 x.tell
def wfEntry(x:OEntry):Prop:=(∀y∈x.args,wfNat y)/\x.cook<18446744073709551616
def attsBlock(x:OBlock):List At:=addT (addN [] 1 (u64N x.id)) 2 (bytesOf (listS (x.code.map oneInstr)))
def wfBlock(x:OBlock):Prop:=∀y∈x.code,wfInstr y
def attsGroup(x:OGroup):List At:=addT (addN (addN (addN [] 1 (u64N x.id)) 2 (u64N x.kind)) 3 (u64N x.fld)) 4 (bytesOf (listS (x.bks.map oneBucket)))
def wfGroup(x:OGroup):Prop:=∀y∈x.bks,wfBucket y
def attsMeter(x:OMeter):List At:=addN (addN (addN [] 1 (u64N x.id)) 2 (u64N x.rate)) 3 (u64N x.burst)
def wfMeter(_x:OMeter):Prop:=True
def attsRegs(x:ORegs):List At:=addN (addN [] 1 (u64N x.id)) 2 (u64N x.size)
def wfRegs(_x:ORegs):Prop:=True
structure OMsg where
 a0:Nat
 a1:Nat
 a2:Int
 a3:Int
 a4:Int
 a5:Int
 a6:Int
 a7:Nat
 a8:Nat
 a9:ByteArray
 a10:List Nat
 n:ONode
 f:OField
 t:OTable
 e:OEntry
 b:OBlock
 g:OGroup
 m:OMeter
 r:ORegs
def vMsg(x:OMsg):Value := .agg ⟨[.int .u8 (x.a0:Int),.int .u32 (x.a1:Int),.int .i64 x.a2,.int .i64 x.a3,.int .i64 x.a4,.int .i64 x.a5,.int .i64 x.a6,.int .u64 (x.a7:Int),.int .u64 (x.a8:Int),.string x.a9,dsl (rowsOf cNat x.a10),.int .i64 x.n.id,.int .i64 x.n.size,.int .i64 x.n.lo,.int .i64 x.n.lw,.int .i64 x.n.lu,.int .i64 x.n.so,.int .i64 x.n.sw,dsl (rowsOf cArm x.n.arms),.int .i64 x.n.ot,.int .i64 x.f.id,.int .u8 (x.f.base:Int),.int .i64 x.f.node,.int .i64 x.f.off,.int .i64 x.f.wid,.int .i64 x.t.id,.int .u8 (x.t.kind:Int),dsl (rowsOf cInt x.t.keys),.int .i64 x.t.cap,.int .i64 x.t.miss,.int .i64 x.e.tab,.string x.e.key,.string x.e.oth,.int .i64 x.e.len,.int .i64 x.e.prio,.int .i64 x.e.blk,dsl (rowsOf cNat x.e.args),.int .i64 x.e.idle,.int .i64 x.e.hard,.int .u64 (x.e.cook:Int),.bool x.e.tell,.int .i64 x.b.id,dsl (rowsOf cInstr x.b.code),.int .i64 x.g.id,.int .u8 (x.g.kind:Int),.int .i64 x.g.fld,dsl (rowsOf cBucket x.g.bks),.int .i64 x.m.id,.int .i64 x.m.rate,.int .i64 x.m.burst,.int .i64 x.r.id,.int .i64 x.r.size]⟩
end Go.Tlv
namespace Go.Proofs.YtblbaohcelldpaaGreatDoor.Ob
open Go Go.Abs Go.Tlv
noncomputable section
abbrev RK:=Value->List (Option AObj)->Prop
def h0:Heap:=hOf 100 [] []
def sNum:List Value->(Value->Prop)->Prop
 | [.int .u64 n],K=>(0<=n/\n<18446744073709551616)/\K (.string (bytesOf (numB n.toNat)))
 |_,_=>False
def W0:How:=howOf (fun _=>none) (fun _=>false) [] [] [] [(18,10)]
def gNum(N:Nd)(n:Int)(K:RK):Prop:=wpe Tryz.prog N W0 300 (.call 140 [(.int .u64 n)] h0) (retQ 100 K)
set_option maxRecDepth 100000
theorem gNum_eq(N:Nd)(n:Int)(K:RK):gNum N n K=(N.cmp .gtr .u64 n .u64 0 (N.conv 28 5 .u64 n .u8 (fun z0=>N.ari .shr .u64 n .u64 8 (fun z1=>N.cmp .gtr .u64 z1 .u64 0 (N.conv 28 5 .u64 z1 .u8 (fun z2=>N.ari .shr .u64 z1 .u64 8 (fun z3=>N.cmp .gtr .u64 z3 .u64 0 (N.conv 28 5 .u64 z3 .u8 (fun z4=>N.ari .shr .u64 z3 .u64 8 (fun z5=>N.cmp .gtr .u64 z5 .u64 0 (N.conv 28 5 .u64 z5 .u8 (fun z6=>N.ari .shr .u64 z5 .u64 8 (fun z7=>N.cmp .gtr .u64 z7 .u64 0 (N.conv 28 5 .u64 z7 .u8 (fun z8=>N.ari .shr .u64 z7 .u64 8 (fun z9=>N.cmp .gtr .u64 z9 .u64 0 (N.conv 28 5 .u64 z9 .u8 (fun z10=>N.ari .shr .u64 z9 .u64 8 (fun z11=>N.cmp .gtr .u64 z11 .u64 0 (N.conv 28 5 .u64 z11 .u8 (fun z12=>N.ari .shr .u64 z11 .u64 8 (fun z13=>N.cmp .gtr .u64 z13 .u64 0 (N.conv 28 5 .u64 z13 .u8 (fun z14=>N.ari .shr .u64 z13 .u64 8 (fun z15=>N.cmp .gtr .u64 z15 .u64 0 (N.conv 28 5 .u64 z15 .u8 (fun z16=>False)) (N.str [z14,z12,z10,z8,z6,z4,z2,z0] (fun s16=>K (.string s16) [(some (AObj.cells [.int .u8 z14,.int .u8 z12,.int .u8 z10,.int .u8 z8,.int .u8 z6,.int .u8 z4,.int .u8 z2,.int .u8 z0] 238 8 false true))]))))) (N.str [z12,z10,z8,z6,z4,z2,z0] (fun s14=>K (.string s14) [(some (AObj.cells [.int .u8 0,.int .u8 z12,.int .u8 z10,.int .u8 z8,.int .u8 z6,.int .u8 z4,.int .u8 z2,.int .u8 z0] 238 8 false true))]))))) (N.str [z10,z8,z6,z4,z2,z0] (fun s12=>K (.string s12) [(some (AObj.cells [.int .u8 0,.int .u8 0,.int .u8 z10,.int .u8 z8,.int .u8 z6,.int .u8 z4,.int .u8 z2,.int .u8 z0] 238 8 false true))]))))) (N.str [z8,z6,z4,z2,z0] (fun s10=>K (.string s10) [(some (AObj.cells [.int .u8 0,.int .u8 0,.int .u8 0,.int .u8 z8,.int .u8 z6,.int .u8 z4,.int .u8 z2,.int .u8 z0] 238 8 false true))]))))) (N.str [z6,z4,z2,z0] (fun s8=>K (.string s8) [(some (AObj.cells [.int .u8 0,.int .u8 0,.int .u8 0,.int .u8 0,.int .u8 z6,.int .u8 z4,.int .u8 z2,.int .u8 z0] 238 8 false true))]))))) (N.str [z4,z2,z0] (fun s6=>K (.string s6) [(some (AObj.cells [.int .u8 0,.int .u8 0,.int .u8 0,.int .u8 0,.int .u8 0,.int .u8 z4,.int .u8 z2,.int .u8 z0] 238 8 false true))]))))) (N.str [z2,z0] (fun s4=>K (.string s4) [(some (AObj.cells [.int .u8 0,.int .u8 0,.int .u8 0,.int .u8 0,.int .u8 0,.int .u8 0,.int .u8 z2,.int .u8 z0] 238 8 false true))]))))) (N.str [z0] (fun s2=>K (.string s2) [(some (AObj.cells [.int .u8 0,.int .u8 0,.int .u8 0,.int .u8 0,.int .u8 0,.int .u8 0,.int .u8 0,.int .u8 z0] 238 8 false true))]))))) (N.str [] (fun s0=>K (.string s0) [(some (AObj.cells [.int .u8 0,.int .u8 0,.int .u8 0,.int .u8 0,.int .u8 0,.int .u8 0,.int .u8 0,.int .u8 0] 238 8 false true))]))):=by kernel_rfl
theorem t23:Tryz.prog.underlying 28=some (.int .u64):=by kernel_rfl
theorem t5:Tryz.prog.underlying 5=some (.int .u8):=by kernel_rfl
theorem numC(m:Nat)(hm:m<18446744073709551616):Is (gNum (real Tryz.prog) (m:Int) (PQ (.string (bytesOf (numB m))))):=by
 refine⟨?_⟩
 rw[gNum_eq]
 exact n_gtr0 (fun p0=>n_conv8 t23 t5 (n_shr8 (by omega) (n_gtr0 (fun p1=>n_conv8 t23 t5 (n_shr8 (by omega) (n_gtr0 (fun p2=>n_conv8 t23 t5 (n_shr8 (by omega) (n_gtr0 (fun p3=>n_conv8 t23 t5 (n_shr8 (by omega) (n_gtr0 (fun p4=>n_conv8 t23 t5 (n_shr8 (by omega) (n_gtr0 (fun p5=>n_conv8 t23 t5 (n_shr8 (by omega) (n_gtr0 (fun p6=>n_conv8 t23 t5 (n_shr8 (by omega) (n_gtr0 (fun p7=>n_conv8 t23 t5 (n_shr8 (by omega) (n_gtr0 (fun p8=>absurd p8 (by omega)) (fun e8=>n_str (PQ.of (by rw[numB_pos p0,numB_pos p1,numB_pos p2,numB_pos p3,numB_pos p4,numB_pos p5,numB_pos p6,numB_pos p7,e8,numB_zero];rfl) rfl))))) (fun e7=>n_str (PQ.of (by rw[numB_pos p0,numB_pos p1,numB_pos p2,numB_pos p3,numB_pos p4,numB_pos p5,numB_pos p6,e7,numB_zero];rfl) rfl))))) (fun e6=>n_str (PQ.of (by rw[numB_pos p0,numB_pos p1,numB_pos p2,numB_pos p3,numB_pos p4,numB_pos p5,e6,numB_zero];rfl) rfl))))) (fun e5=>n_str (PQ.of (by rw[numB_pos p0,numB_pos p1,numB_pos p2,numB_pos p3,numB_pos p4,e5,numB_zero];rfl) rfl))))) (fun e4=>n_str (PQ.of (by rw[numB_pos p0,numB_pos p1,numB_pos p2,numB_pos p3,e4,numB_zero];rfl) rfl))))) (fun e3=>n_str (PQ.of (by rw[numB_pos p0,numB_pos p1,numB_pos p2,e3,numB_zero];rfl) rfl))))) (fun e2=>n_str (PQ.of (by rw[numB_pos p0,numB_pos p1,e2,numB_zero];rfl) rfl))))) (fun e1=>n_str (PQ.of (by rw[numB_pos p0,e1,numB_zero];rfl) rfl))))) (fun e0=>n_str (PQ.of (by rw[e0,numB_zero];rfl) rfl))
theorem puNum:PuOk Tryz.prog 100 140 sNum:=by
 intro args K h
 unfold sNum at h
 split at h
 ·rename_i n
  obtain⟨⟨h0,h1⟩,hk⟩:=h
  obtain⟨m,e⟩:=Int.eq_ofNat_of_zero_le h0
  subst e
  exact⟨_,fun B H=>pu_mk okp kn_none lp_none rfl rfl (numC m (by omega)) B H,hk⟩
 ·exact h.elim
end
end Go.Proofs.YtblbaohcelldpaaGreatDoor.Ob
namespace Go.Abs
open Go
noncomputable section
section
variable {P:Program} {G:Nat} {B:Base}
theorem rel_pad{F:Nm}{w:World}{objs:List (Option AObj)}(R:Rel G F (hOf G [] objs) B w):Rel G F (hOf G [] (objs++[none])) B w:=by
 have key:∀n o,(hOf G [] (objs++[none])).get n=some o->(hOf G [] objs).get n=some o:=by
  intro n o h
  obtain⟨h1,h2,h3⟩:=hOf_at h
  rw[List.getElem?_append]at h3
  split at h3
  ·have:=hOf_of (G:=G) h3
   rw[show G+(n-G)=n by omega]at this;exact this
  ·rename_i hge
   rw[List.getElem?_singleton]at h3
   split at h3<;>cases h3
 constructor
 ·intro n o h;exact R.obj n o (key n o h)
 ·intro n m o o' h h' hne how;exact R.inj n m o o' (key n o h) (key m o' h') hne how
 ·intro n h
  refine R.fresh n ?_
  have h:G+(objs++[none]).length<=n:=h
  rw[List.length_append]at h
  show G+objs.length<=n
  omega
 ·exact R.glob
 ·exact R.base
 ·exact R.frame
 ·intro b i v hz;exact⟨(R.froz b i v hz).1,fun n o h how=>(R.froz b i v hz).2 n o (key n o h) how⟩
 ·exact R.zprot
 ·exact R.os
 ·exact R.out
 ·exact R.tape
theorem wk_pad{n0:Nat}{vals:List Value}{objs:List (Option AObj)}:Wk G n0 vals objs vals (objs++[none]):=
 ⟨rfl,fun B F w R=>⟨F,Agree.refl _ _,rel_pad R,fun i v v' x h1 h2 h=>by rw[h1]at h2;simp only[Option.some.injEq]at h2;subst h2;exact h⟩⟩
theorem wk_nilS{n0 b:Nat}{rest:List Value}{objs:List (Option AObj)}:Wk G n0 (.slice none 0 0::rest) objs (mkS b 0::rest) (objs++[none]):=
 (wk_weak (.cons .nilM (WeakL.refl _)) (WeakOs.refl _)).trans wk_pad
theorem wk_tau{n0:Nat}{τ:Nat->Nat}{vals vals':List Value}{objs objs':List (Option AObj)}(hv:vals=vals'.map (vren τ))(hG:G<=n0)(h0:∀n,n<n0->τ n=n)(hge:∀n,G<=n->G<=τ n)(hfr:∀n,G+objs'.length<=n->G+objs.length<=τ n)
  (hinj:∀(i j:Nat) o o',objs'[i]?=some (some o)->objs'[j]?=some (some o')->τ (G+i)=τ (G+j)->i=j) (ho:∀(i:Nat) o,objs'[i]?=some (some o)->objs[τ (G+i)-G]?=some (some (oren τ o))):Wk G n0 vals objs vals' objs':=by
 refine⟨by rw[hv,List.length_map],fun B F w R=>⟨F.re τ,⟨fun n hn => .inl (by simp only[Nm.re,h0 n hn]),zle_refl _⟩,?_,fun i v v' x h1 h2 hx=>?_⟩⟩
 ·have hget:∀n o,(hOf G [] objs').get n=some o->G<=n/\objs'[n-G]?=some (some o)/\(hOf G [] objs).get (τ n)=some (oren τ o):=by
   intro n o h
   obtain⟨h1,h2,h3⟩:=hOf_at h
   have h4:=hOf_of (G:=G) (ho _ _ h3)
   have e1:G+(n-G)=n:=by omega
   rw[e1]at h4
   have h5:=hge n h1
   rw[show G+(τ n-G)=τ n by omega]at h4
   exact⟨h1,h3,h4⟩
  constructor
  ·intro n o h
   exact objR_ren (R.obj _ _ (hget n o h).2.2)
  ·intro n m o o' h h' hne how
   obtain⟨g1,g2,g3⟩:=hget n o h
   obtain⟨k1,k2,k3⟩:=hget m o' h'
   refine R.inj _ _ _ _ g3 k3 (fun e=>hne ?_) (by rw[oren_own];exact how)
   have:=hinj (n-G) (m-G) o o' g2 k2 (by rw[show G+(n-G)=n by omega,show G+(m-G)=m by omega];exact e)
   omega
  ·intro n h
   exact R.fresh _ (hfr n h)
  ·intro g hg
   simp only[Nm.re,h0 g (by omega)];exact R.glob g hg
  ·exact R.base
  ·exact R.frame
  ·intro b i v hz
   exact⟨(R.froz b i v hz).1,fun n o hn how=>(R.froz b i v hz).2 _ _ (hget n o hn).2.2 (by rw[oren_own];exact how)⟩
  ·exact R.zprot
  ·exact R.os
  ·exact R.out
  ·exact R.tape
 ·rw[hv,List.getElem?_map,h2]at h1
  simp only[Option.map_some,Option.some.injEq]at h1
  rw[←h1]at hx
  exact(VR_ren _ _).1 hx
theorem wk_drop{k0:Nat}{vals:List Value}{pre extra:List (Option AObj)}(hk:pre.length=k0)(hv:belowL (G+k0) vals=true)(ho:∀(i:Nat) o,pre[i]?=some (some o)->belowO (G+k0) (some o)=true):Wk G (G+k0) vals (pre++extra) vals pre:=by
 have hτ:∀n,n<G+k0->(if n<G+k0 then n else n+extra.length)=n:=fun n h=>if_pos h
 refine wk_tau (τ:=fun n=>if n<G+k0 then n else n+extra.length) ?_ (by omega) hτ (fun n hn=>?_) (fun n hn=>?_) (fun i j o o' hi hj e=>?_) (fun i o hi=>?_)
 ·rw[←vrenL_map,vrenL_below hτ vals hv]
 ·show G<=if n<G+k0 then n else n+extra.length
  split<;>omega
 ·show G+(pre++extra).length<=if n<G+k0 then n else n+extra.length
  rw[if_neg (by omega),List.length_append];omega
 ·have h1:=(List.getElem?_eq_some_iff.1 hi).1
  have h2:=(List.getElem?_eq_some_iff.1 hj).1
  simp only[hτ _ (show G+i<G+k0 by omega),hτ _ (show G+j<G+k0 by omega)]at e
  omega
 ·have h1:=(List.getElem?_eq_some_iff.1 hi).1
  simp only[hτ _ (show G+i<G+k0 by omega),Nat.add_sub_cancel_left]
  rw[List.getElem?_append_left h1,hi]
  exact congrArg (fun x=>some (some x)) (oren_below hτ (ho i o hi)).symm
theorem wk_outG{k0 j k:Nat}{va rest:List Value}{objs pre:List (Option AObj)}{vs:List Value}{e sz:Nat}(hj:k0<=j)(ho:objs[j]?=some (some (.cells vs e sz true true)))(hv:belowL 0 vs=true)(hva:belowL (100+k0) va=true)(hr:belowL (100+k0) rest=true)(hk:k≠0)
  (hp:pre.length=k0) (hpre:∀(i:Nat) o,pre[i]?=some (some o)->objs[i]?=some (some o)/\belowO (100+k0) (some o)=true):
  Wk 100 (100+k0) (va ++ .slice (some ⟨100+j,0,none⟩) k k::rest) objs (va++mkS (100+k0) k::rest) (pre++[some (.cells vs e sz true true)]):=by
 have hlt:j<objs.length:=(List.getElem?_eq_some_iff.1 ho).1
 have hτ:∀n,n<100+k0->tau (100+k0) [100+j] (100+objs.length) n=n:=fun n h=>tau_lt h
 have hτ0:tau (100+k0) [100+j] (100+objs.length) (100+k0)=100+j:=tau_in (Nat.le_refl _) (by simp)
 have hn:Names 100 k0 [100+j] (100+objs.length) (va ++ .slice (some ⟨100+j,0,none⟩) k k::rest) objs (va ++ .slice (some ⟨100+k0,0,none⟩) k k::rest) (pre++[some (.cells vs e sz true true)]):=by
  refine⟨?_,by rw[List.length_append,hp];rfl,by simp,fun x hx=>?_,by omega,fun i o hi=>?_⟩
  ·rw[List.map_append,List.map_cons,←vrenL_map,←vrenL_map,vrenL_below hτ va hva,vrenL_below hτ rest hr]
   simp only[vren,hτ0]
  ·simp only[List.mem_singleton]at hx;omega
  ·rw[List.getElem?_append]at hi
   split at hi
   ·rename_i hlt2
    obtain⟨h1,h2⟩:=hpre i o hi
    rw[hτ _ (by omega),show 100+i-100=i by omega,oren_below hτ h2];exact h1
   ·rename_i hge
    have hi0:i=k0:=by
     have:=(List.getElem?_eq_some_iff.1 hi).1
     simp only[List.length_singleton]at this;omega
    subst hi0
    rw[hp,Nat.sub_self]at hi
    simp only[List.getElem?_cons_zero,Option.some.injEq]at hi;subst hi
    rw[hτ0,show 100+j-100=j by omega,ho]
    have:vrenL (tau (100+i) [100+j] (100+objs.length)) vs=vs:=vrenL_below (n0:=0) (fun n h=>by omega) vs hv
    simp only[oren,this]
 refine(wk_names hn).trans (wk_weak ?_ (WeakOs.refl _))
 have happ:∀l m m':List Value,WeakL m m'->WeakL (l++m) (l++m'):=by
  intro l m m' h
  induction l with
  |nil=>exact h
  |cons v l ih=>exact .cons (.refl v) ih
 exact happ _ _ _ (.cons (.mark hk) (WeakL.refl _))
theorem Weak.unmark{a:Addr}{l c:Nat}(hl:l≠0):Weak (.iface mkM (.slice (some a) l c)) (.slice (some a) l c):=fun _ _ h=>by
 rcases h.M_cases with⟨_,h⟩ | ⟨e,_⟩
 ·exact h
 ·exact absurd e hl
theorem wk_nilG{n0 b:Nat}{va rest:List Value}{objs:List (Option AObj)}:Wk G n0 (va ++ .slice none 0 0::rest) objs (va++mkS b 0::rest) (objs++[none]):=by
 have happ:∀l m m':List Value,WeakL m m'->WeakL (l++m) (l++m'):=by
  intro l m m' h
  induction l with
  |nil=>exact h
  |cons v l ih=>exact .cons (.refl v) ih
 exact(wk_weak (happ _ _ _ (.cons .nilM (WeakL.refl _))) (WeakOs.refl _)).trans wk_pad
abbrev LK:=Exit->List Value->List (Option AObj)->Prop
abbrev LF:=Code->Nat->List Value->List (Option AObj)->LK->Prop
def lpS(live2:List Nat)(F:LF):LpS:=fun c n vals ds h Q=>match ds with
 | []=>match Nat.ble 100 h.next with
  |true=>F c n vals (objsOf 100 h) (fun e v o=>Q (.ex e (stOf 100 n live2 [] (v,o))))
  |false=>False
 |_=>False
theorem lp_mk(hP:okProg P 100=true){W:How}(hkn:KnOk P 100 W)(hlp:LpOk P 100 W){live live2:List Nat}{F:LF}
  (h:∀c n vals obs K,F c n vals obs K->∃(α:Type) (k0 fuel:Nat) (m:α->Nat) (I:α->List Value×List (Option AObj)) (R:α->LK) (a:α),obs.length=k0/\Wk 100 (100+k0) vals obs (I a).1 (I a).2/\(∀e v o,R a e v o->K e v o)/\
   ∀a,Is (wpe P (real P) W fuel (.code false c (stOf 100 n live [] (I a))) (roundQ 100 live live2 n []
   (fun vals objs=>∃a',m a' < m a/\Wk 100 (100+k0) vals objs (I a').1 (I a').2/\∀e v o,R a' e v o->R a e v o)
   (fun e vals objs=>∃v o,Wk 100 (100+k0) vals objs v o/\R a e v o)))):LoopOk P 100 live (lpS live2 F):=by
 intro c n vals ds hh Q hs
 unfold lpS at hs
 split at hs
 ·split at hs
  ·rename_i hle
   obtain⟨α,k0,fuel,m,I,R,a,h1,h2,h3,h4⟩:=h _ _ _ _ _ hs
   obtain⟨e,v,o,g1,g2⟩:=lp_rule hP hkn hlp (live:=live) (live2:=live2) (ds:=[]) rfl m I R h4 a h1 h2 (Nat.le_of_ble_eq_true hle)
   exact⟨_,g2,h3 _ _ _ g1⟩
  ·exact hs.elim
 ·exact hs.elim
theorem callh_weak{f:FuncId}{args args':List Value}{H H':Heap}{e:Ending}(hw:WeakL args args')(h:CallH P G B f args' H e H'):CallH P G B f args H e H':=
 fun F w x R ha=>h F w x R (hw.ok ha)
theorem VRL.app{F:Nm}:∀ {l m l' m':List Value},VRL F l l'->VRL F m m'->VRL F (l++m) (l'++m')
 | [],m,l',m',h,h2=>by simp only[VRL]at h;subst h;exact h2
 |v::l,m,l',m',h,h2=>by
  simp only[VRL]at h
  obtain⟨v',r',g1,g2,e⟩:=h
  subst e
  simp only[List.cons_append,VRL]
  exact⟨v',r'++m',g1,VRL.app g2 h2,rfl⟩
theorem own_deep{f:FuncId}{pre post:List Value}{rows vs:List Value}{v:Value}{H:Heap}{n k c elem size:Nat}{lo:Bool}
  (hS:∀B H,CallH P G B f (pre ++ .iface mkD (.agg ⟨rows⟩)::post) H (.returned v) H) (hget:H.get n=some (.cells vs elem size lo true)) (hf:flatRows size rows=some vs) (hb:belowL 0 vs=true) (hs:0<size) (hk:k=rows.length) (hc:k<=c)
  (hpre:belowL 0 pre=true) (hpost:belowL 0 post=true) (hv:plain v=true) (B:Base):CallH P G B f (pre ++ .slice (some ⟨n,0,none⟩) k c::post) H (.returned v) H:=by
 subst hk
 intro F w args' R ha
 have hGn:=R.next_le
 obtain⟨b,d,o,cc,fz,hF,⟨t,hw,ht⟩,hvl,hsz,hex,hown⟩:=R.obj _ _ hget
 have hnz:∀j,F.z b j=none:=by
  intro j
  cases hz:F.z b j with
  |none=>rfl
  |some v=>exact absurd (by simp[blk,hF]) ((R.froz b j v hz).2 _ _ hget rfl)
 let zz:Nat->Nat->Option Value:=fun b' j=>if b'=b/\o<=j/\j<o+vs.length then cc[j]? else F.z b' j
 have hzz:zle F.z zz:=by
  intro b' j v hz
  show(if b'=b/\o<=j/\j<o+vs.length then cc[j]? else F.z b' j)=some v
  rw[if_neg]
  ·exact hz
  ·intro hc;rw[hc.1,hnz]at hz;cases hz
 let F1:Nm:=⟨F.f,zz⟩
 let F2:Nm:=⟨fun m=>if m<G then F m else none,zz⟩
 have hFG:∀m,m<G->F m=some (m,0,0):=R.glob
 let B2:Base:=⟨w,fun i=>i<w.heap.size,fun i h=>h,zz,fun g vs hg=>by
  obtain⟨t,fz,h2⟩:=R.tabW g vs hg
  exact⟨(Array.getElem?_eq_some_iff.1 h2).1,t,fz,h2⟩⟩
 have hfz:∀b' i v,zz b' i=some v->∃c t fz,w.heap[b']?=some (.cells c t fz)/\c[i]?=some v:=by
  intro b' i v hz
  have hz:(if b'=b/\o<=i/\i<o+vs.length then cc[i]? else F.z b' i)=some v:=hz
  split at hz
  ·rename_i hcc;exact⟨cc,t,fz,by rw[hcc.1];exact hw,hz⟩
  ·obtain⟨⟨c,t,fz,g1,g2,_⟩,_⟩:=R.froz b' i v hz
   exact⟨c,t,fz,g1,g2⟩
 have hno:∀m o',(hOf G [] []).get m≠some o':=by
  intro m o' h
  obtain⟨_,h2,_⟩:=hOf_at h
  simp only[List.length_nil]at h2;omega
 have R2:Rel G F2 (hOf G [] []) B2 w:=by
  constructor
  ·intro m o' h;exact absurd h (hno m o')
  ·intro m m' o' o2 h;exact absurd h (hno m o')
  ·intro m h
   have h:G+0<=m:=h
   show(if m<G then F m else none)=none
   rw[if_neg (by omega)]
  ·intro g hg
   show(if g<G then F g else none)=_
   rw[if_pos hg];exact R.glob g hg
  ·exact Nat.le_refl _
  ·intro i _;rfl
  ·intro b' i v hz
   obtain⟨c2,t2,fz2,g1,g2⟩:=hfz b' i v hz
   exact⟨⟨c2,t2,fz2,g1,g2,fun hn=>absurd (Array.getElem?_eq_some_iff.1 g1).1 hn⟩,fun m o' h=>absurd h (hno m o')⟩
  ·intro b' i v hz _;exact hz
  ·rfl
  ·rfl
  ·rfl
 obtain⟨a,x,e,hx,hy⟩:=VRL.split ha
 have hag:Agree 0 F F2:=⟨fun n hn=>absurd hn (Nat.not_lt_zero n),hzz⟩
 simp only[VRL]at hy
 obtain⟨y,q',hy,hq,e2⟩:=hy
 subst e2
 have hy2:VR F2 (.iface mkD (.agg ⟨rows⟩)) y:=by
  simp only[VR]at hy
  obtain⟨a',d',o',q1,q2,q3,q4⟩:=hy
  rw[hF]at q1;simp only[Option.some.injEq,Prod.mk.injEq]at q1
  obtain⟨e1,e2,e3⟩:=q1
  subst q4
  obtain⟨rows',k1,k2⟩:=flat_inv (F:=F2) rows vs _ hf hb (VRL.below hag _ _ hb hvl)
  refine VR.D_mk (rows':=rows') (sz:=size) k1 (by omega) q3 hs fun r rr hr=>?_
  obtain⟨cs,g1,g2,g3⟩:=k2 r rr hr
  refine⟨cs,g1,g2,fun j y hj=>?_⟩
  have:=g3 j y hj
  rw[List.getElem?_take]at this
  split at this
  ·rename_i hlt
   rw[List.getElem?_drop]at this
   show(if a'.block=b/\o<=a'.off+r*size+j/\a'.off+r*size+j<o+vs.length then cc[a'.off+r*size+j]? else F.z a'.block (a'.off+r*size+j))=some y
   rw[if_pos ⟨e1.symm,by omega,by omega⟩]
   have e5:a'.off+r*size+j=o+(r*size+j):=by omega
   rw[e5,←this];simp
  ·cases this
 have ha2:VRL F2 (pre ++ .iface mkD (.agg ⟨rows⟩)::post) args'.toList:=by
  rw[e]
  refine VRL.app (VRL.below hag _ _ hpre hx) ?_
  simp only[VRL]
  exact⟨y,q',hy2,VRL.below hag _ _ hpost hq,rfl⟩
 refine(hS B2 (hOf G [] []) F2 w args' R2 ha2).mono fun e1 w' ⟨F3,hle,he,R3⟩=>?_
 let F4:Nm:=⟨F.f,fun b' j=>if b'=b then F.z b' j else F3.z b' j⟩
 have hF4:Nm.le F F4:=by
  refine⟨fun n x h=>h,fun b' j v hz=>?_⟩
  show(if b'=b then F.z b' j else F3.z b' j)=some v
  split
  ·exact hz
  ·exact hle.zs b' j v (hzz b' j v hz)
 have hwb:b<w.heap.size:=by
  rcases Nat.lt_or_ge b w.heap.size with h|h
  ·exact h
  ·rw[Array.getElem?_eq_none h]at hw;cases hw
 have hold:∀m o',H.get m=some o'->∀b',blk F m=some b'->w'.heap[b']?=w.heap[b']?:=by
  intro m o' h b' hb'
  obtain⟨b2,g1,g2,_⟩:=R.blk_lt h
  rw[hb']at g1;simp only[Option.some.injEq]at g1;subst g1
  exact R3.frame b' g2
 refine⟨F4,hF4,?_,?_⟩
 ·simp only[EnR]at he ⊢
  obtain⟨v2,h3,h4⟩:=he
  exact⟨v2,(VR.plain_eq _ _ hv).2 ((VR.plain_eq _ _ hv).1 h3),h4⟩
 ·constructor
  ·intro m o' h;exact objR_mono hF4 (objR_other (R.obj m o' h) (hold m o' h))
  ·exact R.inj
  ·exact R.fresh
  ·exact R.glob
  ·have:=R.base;have:=R3.base
   have e:B2.w.heap.size=w.heap.size:=rfl
   omega
  ·intro i hi
   have h1:=B.lt i hi
   have h2:=R.base
   rw[R3.frame i (show i<w.heap.size by omega)];exact R.frame i hi
  ·intro b' i v hz
   have hz:(if b'=b then F.z b' i else F3.z b' i)=some v:=hz
   split at hz
   ·rename_i hbb;rw[hbb,hnz]at hz;cases hz
   ·rename_i hbb
    refine⟨R3.frozB hz fun hn hp c2 t2 fz2 hw2=>by
     have hz2:zz b' i=some v:=R3.zprot b' i v hz hp
     have hz2:(if b'=b/\o<=i/\i<o+vs.length then cc[i]? else F.z b' i)=some v:=hz2
     rw[if_neg (fun hc=>hbb hc.1)]at hz2
     exact R.un b' i v hz2 hn c2 t2 fz2 (by rw[←R3.frame b' hp];exact hw2),fun m o' h how hblk=>?_⟩
    obtain⟨b2,g1,g2,_⟩:=R.blk_lt h
    have hblk:blk F m=some b':=hblk
    rw[hblk]at g1;simp only[Option.some.injEq]at g1;subst g1
    have hz2:zz b' i=some v:=R3.zprot b' i v hz g2
    have hz2:(if b'=b/\o<=i/\i<o+vs.length then cc[i]? else F.z b' i)=some v:=hz2
    rw[if_neg (fun hc=>hbb hc.1)]at hz2
    exact(R.froz b' i v hz2).2 m o' h how hblk
  ·intro b' i v hz hp
   have hz:(if b'=b then F.z b' i else F3.z b' i)=some v:=hz
   have h1:=B.lt b' hp
   have h2:=R.base
   split at hz
   ·exact R.zprot b' i v hz hp
   ·rename_i hbb
    have hz2:zz b' i=some v:=R3.zprot b' i v hz (show b' < w.heap.size by omega)
    have hz2:(if b'=b/\o<=i/\i<o+vs.length then cc[i]? else F.z b' i)=some v:=hz2
    rw[if_neg (fun hc=>hbb hc.1)]at hz2
    exact R.zprot b' i v hz2 hp
  ·rw[R3.os];exact R.os
  ·rw[R3.out];exact R.out
  ·rw[R3.tape];exact R.tape
end
end
end Go.Abs
