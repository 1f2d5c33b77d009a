/- . -/
import Derived.Test.YtblbaohcelldpaaGreatDoorT5
set_option linter.all false
set_option maxRecDepth 100000
namespace Go.Proofs.Ob
open Go Go.Abs Go.Tlv
noncomputable section
structure Mi where
 own:Lv->(Bool->Prop)->Prop
 deep:Lv->(Bool->Prop)->Prop
def TP(M:Mi):Lv->Heap->VK->Prop
 | [.slice (some ⟨b,0,none⟩) k k'],H,K=>match H.get b with
  |some (.cells vs e sz lo ow)=>match Nat.beq sz 1&&ow with
   |true=>k=vs.length/\k'=k/\M.own vs fun b=>K (.bool b) H
   |false=>False
  |_=>False
 | [.iface t (.agg ⟨rs⟩)],H,K=>match Nat.beq t mkD with
  |true=>M.deep rs fun b=>K (.bool b) H
  |false=>False
 |_,_,_=>False
abbrev S0:Sy:=fun _=>none
abbrev Sp0:Nat->Bool:=fun _=>false
def ALk(N:Nd)(M:MCt)(AY:Lv)(K:RK):Prop:=wpe Tryz.prog N (AP S0 Sp0 [] [] [(244,sCt 245 M)] []) 300 (.call 227 [(dsl AY)] h0) (FD 100 K)
def WIn(f:Nat)(M:Mi):How:=AP S0 Sp0 [(f,TP M)] [] [] []
def AOV(N:Nd)(M:Mi)(v nx:Int)(K:RK):Prop:=wpe Tryz.prog N (WIn 227 M) 300 (.call 229 [.agg ⟨[.int .u32 v,.int .i64 nx]⟩] h0) (FD 100 K)
def AOW(N:Nd)(M:Mi)(op to ak an bk bn n:Int)(K:RK):Prop:=wpe Tryz.prog N (WIn 227 M) 300 (.call 234 [.agg ⟨[.int .u8 op,.int .i64 to,.int .u8 ak,.int .u64 an,.int .u8 bk,.int .u64 bn,.int .i64 n]⟩] h0) (FD 100 K)
def AOX(N:Nd)(M:Mi)(w b:Int)(K:RK):Prop:=wpe Tryz.prog N (WIn 227 M) 300 (.call 237 [.agg ⟨[.int .u64 w,.int .i64 b]⟩] h0) (FD 100 K)
theorem AGS(N:Nd)(M:MCt)(AY:Lv)(K:RK):ALk N M AY K=(M AY (fun b0=>branch b0
 (K (.bool false) [])
 (K (.bool true) []))):=by kernel_rfl
theorem AJX(N:Nd)(M:Mi)(v nx:Int)(K:RK):AOV N M v nx K=((1=1)/\((1=1)/\(M.own [.int .i64 nx] (fun b0=>branch b0
 (K (.bool false) [AAj v nx,RJ nx])
 (K (.bool true) [AAj v nx,RJ nx]))))):=by kernel_rfl
theorem AJY(N:Nd)(M:Mi)(op to ak an bk bn n:Int)(K:RK):AOW N M op to ak an bk bn n K=((2=2)/\((2=2)/\(M.own [.int .i64 to,.int .i64 n] (fun b0=>branch b0
 (K (.bool false) [qq7 op to ak an bk bn n,VM to n])
 (K (.bool true) [qq7 op to ak an bk bn n,VM to n]))))):=by kernel_rfl
theorem AJZ(N:Nd)(M:Mi)(w b:Int)(K:RK):AOX N M w b K=((1=1)/\((1=1)/\(M.own [.int .i64 b] (fun b0=>branch b0
 (K (.bool false) [YF w b,RJ b])
 (K (.bool true) [YF w b,RJ b]))))):=by kernel_rfl
abbrev LRt:=Code->Nat->Lv->Lo->Prop->Prop->Prop
def AWF(L:LRt):LpS:=lpS [2] fun c n AB obs K=>L c n AB obs (K .ret [.bool false] []) (K (.exit 0) [top] [])
def AWb(N:Nd)(L:LRt)(AY:Lv)(K:RK):Prop:=wpe Tryz.prog N (AP S0 Sp0 [] [(2,(22,([0,3],AWF L)))] [] []) 300 (.call 54 [(dsl AY)] h0) (FD 100 K)
def AVI(N:Nd)(AY:Lv)(i:Int)(back:Bk)(out:Ot):Prop:=
 wpe Tryz.prog N (AP S0 Sp0 [] [] [] []) 300 (.code false (AJ Tryz.prog 54 2) (CX 100 22 [0,3] [] ([dsl AY,.int .i64 i],[]))) (A7 100 [0,3] [2] 22 [] back out)
theorem AVL(N:Nd)(L:LRt)(AY:Lv)(K:RK):AWb N L AY K=(L (AJ Tryz.prog 54 2) 22 [dsl AY,.int .i64 0] [] (K (.bool false) []) (K (.bool true) [])):=by kernel_rfl
theorem AVk(N:Nd)(AY:Lv)(i:Int)(back:Bk)(out:Ot):AVI N AY i back out=(N.dlen AY (fun o0=>N.cmp .lss .i64 i .i64 (Int.ofNat o0) (N.dget AY i 1 (fun l1=>N.rdI .i64 l1 0 (fun z2=>N.cmp .lss .i64 z2 .i64 0 (nD/\(out Exit.ret [.bool false] [])) (N.dget AY i 1 (fun l3=>N.rdI .i64 l3 0 (fun z4=>N.cmp .gtr .i64 z4 .i64 2147483647 (nD/\(out Exit.ret [.bool false] [])) (N.ari .add .i64 i .i64 1 (fun z5=>nD/\(back [dsl AY,.int .i64 z5] []))))))))) (nD/\(out (Exit.exit 0) [(.chan (some 0))] [])))):=by kernel_rfl
abbrev LXt:=Code->Nat->Lv->Lo->Prop->Prop->Prop
def ATN(L:LXt):LpS:=lpS [1,2] fun c n AB obs K=>L c n AB obs (K .ret [top,.bool false] [none]) (K (.exit 0) [.pointer (some ⟨100,0,none⟩),top] obs)
def xO(N:Nd)(M:Mi)(MA:MCt)(id size lo lw lu so sw:Int)(arms:Lv)(ot:Int)(K:RK):Prop:=wpe Tryz.prog N (AP S0 Sp0 [(227,TP M)] [] [(228,sCt 229 MA)] []) 300 (.call 153 [.agg ⟨[.int .i64 id,.int .i64 size,.int .i64 lo,.int .i64 lw,.int .i64 lu,.int .i64 so,.int .i64 sw,dsl arms,.int .i64 ot]⟩] h0) (FD 100 K)
theorem xP(N:Nd)(M:Mi)(MA:MCt)(id size lo lw lu so sw:Int)(arms:Lv)(ot:Int)(K:RK):xO N M MA id size lo lw lu so sw arms ot K=((8=8)/\((8=8)/\(M.own [.int .i64 id,.int .i64 size,.int .i64 lo,.int .i64 lw,.int .i64 lu,.int .i64 so,.int .i64 sw,.int .i64 ot] (fun b0=>branch b0
 (N.dlen arms (fun o1=>N.cmp .leq .i64 (Int.ofNat o1) .i64 32 (MA arms (fun b2=>branch b2
 (K (.bool false) [qq3 id size lo lw lu so sw arms ot,UY id size lo lw lu so sw ot])
 (K (.bool true) [qq3 id size lo lw lu so sw arms ot,UY id size lo lw lu so sw ot]))) (K (.bool false) [qq3 id size lo lw lu so sw arms ot,UY id size lo lw lu so sw ot])))
 (K (.bool false) [qq3 id size lo lw lu so sw arms ot,UY id size lo lw lu so sw ot]))))):=by kernel_rfl
def AUP(N:Nd)(M:Mi)(L:LXt)(id size lo lw lu so sw:Int)(arms:Lv)(ot:Int)(K:RK):Prop:=wpe Tryz.prog N (AP S0 Sp0 [(54,TP M)] [(2,(44,([1,3],ATN L)))] [] []) 300 (.call 55 [.agg ⟨[.int .i64 id,.int .i64 size,.int .i64 lo,.int .i64 lw,.int .i64 lu,.int .i64 so,.int .i64 sw,dsl arms,.int .i64 ot]⟩] h0) (FD 100 K)
def AT6(N:Nd)(M:Mi)(id size lo lw lu so sw:Int)(arms:Lv)(ot i:Int)(back:Bk)(out:Ot):Prop:=
 wpe Tryz.prog N (WIn 54 M) 300 (.code false (AJ Tryz.prog 55 2) (CX 100 44 [1,3] [] ([.pointer (some ⟨100,0,none⟩),.int .i64 i],[some (.cells [.int .i64 id,.int .i64 size,.int .i64 lo,.int .i64 lw,.int .i64 lu,.int .i64 so,.int .i64 sw,dsl arms,.int .i64 ot] 32 9 false true)]))) (A7 100 [1,3] [1,2] 44 [] back out)
theorem AUX(N:Nd)(M:Mi)(L:LXt)(id size lo lw lu so sw:Int)(arms:Lv)(ot:Int)(K:RK):AUP N M L id size lo lw lu so sw arms ot K=(L (AJ Tryz.prog 55 2) 44 [pA 100,.int .i64 0] [qq3 id size lo lw lu so sw arms ot] (K (.bool false) [none]) ((8=8)/\((8=8)/\(M.own [.int .i64 id,.int .i64 size,.int .i64 lo,.int .i64 lw,.int .i64 lu,.int .i64 so,.int .i64 sw,.int .i64 ot] (fun b0=>branch b0
 (N.dlen arms (fun o1=>N.cmp .leq .i64 (Int.ofNat o1) .i64 32 (K (.bool true) [qq3 id size lo lw lu so sw arms ot,UY id size lo lw lu so sw ot]) (K (.bool false) [qq3 id size lo lw lu so sw arms ot,UY id size lo lw lu so sw ot])))
 (K (.bool false) [qq3 id size lo lw lu so sw arms ot,UY id size lo lw lu so sw ot])))))):=by kernel_rfl
theorem AUB(N:Nd)(M:Mi)(id size lo lw lu so sw:Int)(arms:Lv)(ot i:Int)(back:Bk)(out:Ot):AT6 N M id size lo lw lu so sw arms ot i back out=(N.dlen arms (fun o0=>N.cmp .lss .i64 i .i64 (Int.ofNat o0) (N.dget arms i 2 (fun l1=>N.rdI .u32 l1 0 (fun z2=>N.rdI .i64 l1 1 (fun z3=>(1=1)/\((1=1)/\(M.own [.int .i64 z3] (fun b4=>branch b4
 (N.ari .add .i64 i .i64 1 (fun z5=>nD/\(back [pA 100,.int .i64 z5] [qq3 id size lo lw lu so sw arms ot,RJ z3])))
 (nD/\(out Exit.ret [pA 100,.bool false] [qq3 id size lo lw lu so sw arms ot,RJ z3]))))))))) (nD/\(out (Exit.exit 0) [pA 100,(.chan (some 0))] [qq3 id size lo lw lu so sw arms ot])))):=by kernel_rfl
def oM(N:Nd)(M:Mi)(MA:MCt)(id base node off wid:Int)(K:RK):Prop:=wpe Tryz.prog N (AP S0 Sp0 [(227,TP M)] [] [] []) 300 (.call 165 [.agg ⟨[.int .i64 id,.int .u8 base,.int .i64 node,.int .i64 off,.int .i64 wid]⟩] h0) (FD 100 K)
theorem uB(N:Nd)(M:Mi)(MA:MCt)(id base node off wid:Int)(K:RK):oM N M MA id base node off wid K=((4=4)/\((4=4)/\(M.own [.int .i64 id,.int .i64 node,.int .i64 off,.int .i64 wid] (fun b0=>K (.bool b0) [WY id base node off wid,qq9 id node off wid])))):=by kernel_rfl
def AT2(N:Nd)(M:Mi)(id base node off wid:Int)(K:RK):Prop:=wpe Tryz.prog N (WIn 54 M) 300 (.call 56 [.agg ⟨[.int .i64 id,.int .u8 base,.int .i64 node,.int .i64 off,.int .i64 wid]⟩] h0) (FD 100 K)
theorem AUy(N:Nd)(M:Mi)(id base node off wid:Int)(K:RK):AT2 N M id base node off wid K=((4=4)/\((4=4)/\(M.own [.int .i64 id,.int .i64 node,.int .i64 off,.int .i64 wid] (fun b0=>K (.bool b0) [WY id base node off wid,qq9 id node off wid])))):=by kernel_rfl
def oP(N:Nd)(M:Mi)(MA:MCt)(id kind:Int)(keys:Lv)(cap miss:Int)(K:RK):Prop:=wpe Tryz.prog N (AP S0 Sp0 [(227,TP M)] [] [] []) 300 (.call 170 [.agg ⟨[.int .i64 id,.int .u8 kind,dsl keys,.int .i64 cap,.int .i64 miss]⟩] h0) (FD 100 K)
theorem uE(N:Nd)(M:Mi)(MA:MCt)(id kind:Int)(keys:Lv)(cap miss:Int)(K:RK):oP N M MA id kind keys cap miss K=((3=3)/\((3=3)/\(M.own [.int .i64 id,.int .i64 cap,.int .i64 miss] (fun b0=>branch b0
 (N.dlen keys (fun o1=>N.cmp .leq .i64 (Int.ofNat o1) .i64 4 (M.deep keys (fun b2=>K (.bool b2) [qq4 id kind keys cap miss,kV id cap miss])) (K (.bool false) [qq4 id kind keys cap miss,kV id cap miss])))
 (K (.bool false) [qq4 id kind keys cap miss,kV id cap miss]))))):=by kernel_rfl
def AT7(N:Nd)(M:Mi)(id kind:Int)(keys:Lv)(cap miss:Int)(K:RK):Prop:=wpe Tryz.prog N (WIn 54 M) 300 (.call 57 [.agg ⟨[.int .i64 id,.int .u8 kind,dsl keys,.int .i64 cap,.int .i64 miss]⟩] h0) (FD 100 K)
theorem AUC(N:Nd)(M:Mi)(id kind:Int)(keys:Lv)(cap miss:Int)(K:RK):AT7 N M id kind keys cap miss K=((3=3)/\((3=3)/\(M.own [.int .i64 id,.int .i64 cap,.int .i64 miss] (fun b0=>branch b0
 (N.dlen keys (fun o1=>N.cmp .leq .i64 (Int.ofNat o1) .i64 4 (M.deep keys (fun b2=>K (.bool b2) [qq4 id kind keys cap miss,kV id cap miss])) (K (.bool false) [qq4 id kind keys cap miss,kV id cap miss])))
 (K (.bool false) [qq4 id kind keys cap miss,kV id cap miss]))))):=by kernel_rfl
def oL(N:Nd)(M:Mi)(MA:MCt)(tab:Int)(key oth:ByteArray)(len prio blk:Int)(args:Lv)(idle hard cook:Int)(tell:Bool)(K:RK):Prop:=wpe Tryz.prog N (AP S0 Sp0 [(227,TP M)] [] [] []) 300 (.call 177 [.agg ⟨[.int .i64 tab,.string key,.string oth,.int .i64 len,.int .i64 prio,.int .i64 blk,dsl args,.int .i64 idle,.int .i64 hard,.int .u64 cook,.bool tell]⟩] h0) (FD 100 K)
theorem uA(N:Nd)(M:Mi)(MA:MCt)(tab:Int)(key oth:ByteArray)(len prio blk:Int)(args:Lv)(idle hard cook:Int)(tell:Bool)(K:RK):oL N M MA tab key oth len prio blk args idle hard cook tell K=((4=4)/\((4=4)/\(M.own [.int .i64 tab,.int .i64 len,.int .i64 prio,.int .i64 blk] (fun b0=>branch b0
 (N.cmp .geq .i64 idle .i64 0 (N.cmp .geq .i64 hard .i64 0 (N.slen key (fun z1=>N.cmp .leq .i64 z1 .i64 32 (N.slen oth (fun z2=>N.cmp .leq .i64 z2 .i64 32 (N.dlen args (fun o3=>N.cmp .leq .i64 (Int.ofNat o3) .i64 4 (K (.bool true) [qq0 tab key oth len prio blk args idle hard cook tell,qq9 tab len prio blk]) (K (.bool false) [qq0 tab key oth len prio blk args idle hard cook tell,qq9 tab len prio blk]))) (K (.bool false) [qq0 tab key oth len prio blk args idle hard cook tell,qq9 tab len prio blk]))) (K (.bool false) [qq0 tab key oth len prio blk args idle hard cook tell,qq9 tab len prio blk]))) (K (.bool false) [qq0 tab key oth len prio blk args idle hard cook tell,qq9 tab len prio blk])) (K (.bool false) [qq0 tab key oth len prio blk args idle hard cook tell,qq9 tab len prio blk]))
 (K (.bool false) [qq0 tab key oth len prio blk args idle hard cook tell,qq9 tab len prio blk]))))):=by kernel_rfl
def AT1(N:Nd)(M:Mi)(tab:Int)(key oth:ByteArray)(len prio blk:Int)(args:Lv)(idle hard cook:Int)(tell:Bool)(K:RK):Prop:=wpe Tryz.prog N (WIn 54 M) 300 (.call 58 [.agg ⟨[.int .i64 tab,.string key,.string oth,.int .i64 len,.int .i64 prio,.int .i64 blk,dsl args,.int .i64 idle,.int .i64 hard,.int .u64 cook,.bool tell]⟩] h0) (FD 100 K)
theorem AUx(N:Nd)(M:Mi)(tab:Int)(key oth:ByteArray)(len prio blk:Int)(args:Lv)(idle hard cook:Int)(tell:Bool)(K:RK):AT1 N M tab key oth len prio blk args idle hard cook tell K=((4=4)/\((4=4)/\(M.own [.int .i64 tab,.int .i64 len,.int .i64 prio,.int .i64 blk] (fun b0=>branch b0
 (N.cmp .geq .i64 idle .i64 0 (N.cmp .geq .i64 hard .i64 0 (N.slen key (fun z1=>N.cmp .leq .i64 z1 .i64 32 (N.slen oth (fun z2=>N.cmp .leq .i64 z2 .i64 32 (N.dlen args (fun o3=>N.cmp .leq .i64 (Int.ofNat o3) .i64 4 (K (.bool true) [qq0 tab key oth len prio blk args idle hard cook tell,qq9 tab len prio blk]) (K (.bool false) [qq0 tab key oth len prio blk args idle hard cook tell,qq9 tab len prio blk]))) (K (.bool false) [qq0 tab key oth len prio blk args idle hard cook tell,qq9 tab len prio blk]))) (K (.bool false) [qq0 tab key oth len prio blk args idle hard cook tell,qq9 tab len prio blk]))) (K (.bool false) [qq0 tab key oth len prio blk args idle hard cook tell,qq9 tab len prio blk])) (K (.bool false) [qq0 tab key oth len prio blk args idle hard cook tell,qq9 tab len prio blk]))
 (K (.bool false) [qq0 tab key oth len prio blk args idle hard cook tell,qq9 tab len prio blk]))))):=by kernel_rfl
def oK(N:Nd)(M:Mi)(MA:MCt)(id:Int)(code:Lv)(K:RK):Prop:=wpe Tryz.prog N (AP S0 Sp0 [(227,TP M)] [] [(233,sCt 234 MA)] []) 300 (.call 188 [.agg ⟨[.int .i64 id,dsl code]⟩] h0) (FD 100 K)
theorem tZ(N:Nd)(M:Mi)(MA:MCt)(id:Int)(code:Lv)(K:RK):oK N M MA id code K=((1=1)/\((1=1)/\(M.own [.int .i64 id] (fun b0=>branch b0
 (N.dlen code (fun o1=>N.cmp .leq .i64 (Int.ofNat o1) .i64 32 (MA code (fun b2=>branch b2
 (K (.bool false) [qq8 id code,RJ id])
 (K (.bool true) [qq8 id code,RJ id]))) (K (.bool false) [qq8 id code,RJ id])))
 (K (.bool false) [qq8 id code,RJ id]))))):=by kernel_rfl
def ATZ(N:Nd)(M:Mi)(L:LXt)(id:Int)(code:Lv)(K:RK):Prop:=wpe Tryz.prog N (AP S0 Sp0 [(54,TP M)] [(2,(36,([1,3],ATN L)))] [] []) 300 (.call 59 [.agg ⟨[.int .i64 id,dsl code]⟩] h0) (FD 100 K)
def ATO(N:Nd)(M:Mi)(id:Int)(code:Lv)(i:Int)(back:Bk)(out:Ot):Prop:=
 wpe Tryz.prog N (WIn 54 M) 300 (.code false (AJ Tryz.prog 59 2) (CX 100 36 [1,3] [] ([.pointer (some ⟨100,0,none⟩),.int .i64 i],[some (.cells [.int .i64 id,dsl code] 42 2 false true)]))) (A7 100 [1,3] [1,2] 36 [] back out)
theorem AUw(N:Nd)(M:Mi)(L:LXt)(id:Int)(code:Lv)(K:RK):ATZ N M L id code K=(L (AJ Tryz.prog 59 2) 36 [pA 100,.int .i64 0] [qq8 id code] (K (.bool false) [none]) ((1=1)/\((1=1)/\(M.own [.int .i64 id] (fun b0=>branch b0
 (N.dlen code (fun o1=>N.cmp .leq .i64 (Int.ofNat o1) .i64 32 (K (.bool true) [qq8 id code,RJ id]) (K (.bool false) [qq8 id code,RJ id])))
 (K (.bool false) [qq8 id code,RJ id])))))):=by kernel_rfl
theorem AT0(N:Nd)(M:Mi)(id:Int)(code:Lv)(i:Int)(back:Bk)(out:Ot):ATO N M id code i back out=(N.dlen code (fun o0=>N.cmp .lss .i64 i .i64 (Int.ofNat o0) (N.dget code i 7 (fun l1=>N.rdI .u8 l1 0 (fun z2=>N.rdI .i64 l1 1 (fun z3=>N.rdI .u8 l1 2 (fun z4=>N.rdI .u64 l1 3 (fun z5=>N.rdI .u8 l1 4 (fun z6=>N.rdI .u64 l1 5 (fun z7=>N.rdI .i64 l1 6 (fun z8=>N.dget code i 7 (fun l9=>N.rdI .u8 l9 0 (fun z10=>N.rdI .i64 l9 1 (fun z11=>N.rdI .u8 l9 2 (fun z12=>N.rdI .u64 l9 3 (fun z13=>N.rdI .u8 l9 4 (fun z14=>N.rdI .u64 l9 5 (fun z15=>N.rdI .i64 l9 6 (fun z16=>(2=2)/\((2=2)/\(M.own [.int .i64 z3,.int .i64 z16] (fun b17=>branch b17
 (N.ari .add .i64 i .i64 1 (fun z18=>nD/\(back [pA 100,.int .i64 z18] [qq8 id code,VM z3 z16])))
 (nD/\(out Exit.ret [pA 100,.bool false] [qq8 id code,VM z3 z16])))))))))))))))))))))) (nD/\(out (Exit.exit 0) [pA 100,(.chan (some 0))] [qq8 id code])))):=by kernel_rfl
def oN(N:Nd)(M:Mi)(MA:MCt)(id kind fld:Int)(bks:Lv)(K:RK):Prop:=wpe Tryz.prog N (AP S0 Sp0 [(227,TP M)] [] [(236,sCt 237 MA)] []) 300 (.call 196 [.agg ⟨[.int .i64 id,.int .u8 kind,.int .i64 fld,dsl bks]⟩] h0) (FD 100 K)
theorem uC(N:Nd)(M:Mi)(MA:MCt)(id kind fld:Int)(bks:Lv)(K:RK):oN N M MA id kind fld bks K=((2=2)/\((2=2)/\(M.own [.int .i64 id,.int .i64 fld] (fun b0=>branch b0
 (N.dlen bks (fun o1=>N.cmp .leq .i64 (Int.ofNat o1) .i64 16 (MA bks (fun b2=>branch b2
 (K (.bool false) [qq5 id kind fld bks,VM id fld])
 (K (.bool true) [qq5 id kind fld bks,VM id fld]))) (K (.bool false) [qq5 id kind fld bks,VM id fld])))
 (K (.bool false) [qq5 id kind fld bks,VM id fld]))))):=by kernel_rfl
def AT3(N:Nd)(M:Mi)(L:LXt)(id kind fld:Int)(bks:Lv)(K:RK):Prop:=wpe Tryz.prog N (AP S0 Sp0 [(54,TP M)] [(2,(32,([1,3],ATN L)))] [] []) 300 (.call 60 [.agg ⟨[.int .i64 id,.int .u8 kind,.int .i64 fld,dsl bks]⟩] h0) (FD 100 K)
def ATP(N:Nd)(M:Mi)(id kind fld:Int)(bks:Lv)(i:Int)(back:Bk)(out:Ot):Prop:=
 wpe Tryz.prog N (WIn 54 M) 300 (.code false (AJ Tryz.prog 60 2) (CX 100 32 [1,3] [] ([.pointer (some ⟨100,0,none⟩),.int .i64 i],[some (.cells [.int .i64 id,.int .u8 kind,.int .i64 fld,dsl bks] 45 4 false true)]))) (A7 100 [1,3] [1,2] 32 [] back out)
theorem AUz(N:Nd)(M:Mi)(L:LXt)(id kind fld:Int)(bks:Lv)(K:RK):AT3 N M L id kind fld bks K=(L (AJ Tryz.prog 60 2) 32 [pA 100,.int .i64 0] [qq5 id kind fld bks] (K (.bool false) [none]) ((2=2)/\((2=2)/\(M.own [.int .i64 id,.int .i64 fld] (fun b0=>branch b0
 (N.dlen bks (fun o1=>N.cmp .leq .i64 (Int.ofNat o1) .i64 16 (K (.bool true) [qq5 id kind fld bks,VM id fld]) (K (.bool false) [qq5 id kind fld bks,VM id fld])))
 (K (.bool false) [qq5 id kind fld bks,VM id fld])))))):=by kernel_rfl
theorem AT4(N:Nd)(M:Mi)(id kind fld:Int)(bks:Lv)(i:Int)(back:Bk)(out:Ot):ATP N M id kind fld bks i back out=(N.dlen bks (fun o0=>N.cmp .lss .i64 i .i64 (Int.ofNat o0) (N.dget bks i 2 (fun l1=>N.rdI .u64 l1 0 (fun z2=>N.rdI .i64 l1 1 (fun z3=>(1=1)/\((1=1)/\(M.own [.int .i64 z3] (fun b4=>branch b4
 (N.ari .add .i64 i .i64 1 (fun z5=>nD/\(back [pA 100,.int .i64 z5] [qq5 id kind fld bks,RJ z3])))
 (nD/\(out Exit.ret [pA 100,.bool false] [qq5 id kind fld bks,RJ z3]))))))))) (nD/\(out (Exit.exit 0) [pA 100,(.chan (some 0))] [qq5 id kind fld bks])))):=by kernel_rfl
def oO(N:Nd)(M:Mi)(MA:MCt)(id rate burst:Int)(K:RK):Prop:=wpe Tryz.prog N (AP S0 Sp0 [(227,TP M)] [] [] []) 300 (.call 204 [.agg ⟨[.int .i64 id,.int .i64 rate,.int .i64 burst]⟩] h0) (FD 100 K)
theorem uD(N:Nd)(M:Mi)(MA:MCt)(id rate burst:Int)(K:RK):oO N M MA id rate burst K=((1=1)/\((1=1)/\(M.own [.int .i64 id] (fun b0=>branch b0
 (N.cmp .geq .i64 rate .i64 0 (N.cmp .geq .i64 burst .i64 0 (K (.bool true) [TJ id rate burst,RJ id]) (K (.bool false) [TJ id rate burst,RJ id])) (K (.bool false) [TJ id rate burst,RJ id]))
 (K (.bool false) [TJ id rate burst,RJ id]))))):=by kernel_rfl
def AT5(N:Nd)(M:Mi)(id rate burst:Int)(K:RK):Prop:=wpe Tryz.prog N (WIn 54 M) 300 (.call 61 [.agg ⟨[.int .i64 id,.int .i64 rate,.int .i64 burst]⟩] h0) (FD 100 K)
theorem AUA(N:Nd)(M:Mi)(id rate burst:Int)(K:RK):AT5 N M id rate burst K=((1=1)/\((1=1)/\(M.own [.int .i64 id] (fun b0=>branch b0
 (N.cmp .geq .i64 rate .i64 0 (N.cmp .geq .i64 burst .i64 0 (K (.bool true) [TJ id rate burst,RJ id]) (K (.bool false) [TJ id rate burst,RJ id])) (K (.bool false) [TJ id rate burst,RJ id]))
 (K (.bool false) [TJ id rate burst,RJ id]))))):=by kernel_rfl
def xQ(N:Nd)(M:Mi)(MA:MCt)(id size:Int)(K:RK):Prop:=wpe Tryz.prog N (AP S0 Sp0 [(227,TP M)] [] [] []) 300 (.call 208 [.agg ⟨[.int .i64 id,.int .i64 size]⟩] h0) (FD 100 K)
theorem xR(N:Nd)(M:Mi)(MA:MCt)(id size:Int)(K:RK):xQ N M MA id size K=((2=2)/\((2=2)/\(M.own [.int .i64 id,.int .i64 size] (fun b0=>K (.bool b0) [WZ id size,VM id size])))):=by kernel_rfl
def AUQ(N:Nd)(M:Mi)(id size:Int)(K:RK):Prop:=wpe Tryz.prog N (WIn 54 M) 300 (.call 62 [.agg ⟨[.int .i64 id,.int .i64 size]⟩] h0) (FD 100 K)
theorem AUY(N:Nd)(M:Mi)(id size:Int)(K:RK):AUQ N M id size K=((2=2)/\((2=2)/\(M.own [.int .i64 id,.int .i64 size] (fun b0=>K (.bool b0) [WZ id size,VM id size])))):=by kernel_rfl
def MI:Mi where
 own:=fun vs K=>∃ns:List Int,vs=ns.map (fun n => .int .i64 n)/\ns.length<big/\K (ns.all okI)
 deep:=fun rs K=>∃ns:List Int,rs=rowsOf EM ns/\ns.length<big/\K (ns.all okI)
theorem QX{ns:List Int}{vs:Lv}{K:Bool->Prop}(h:vs=ns.map (fun n => .int .i64 n))(hl:ns.length<big)(hk:K (ns.all okI)):MI.own vs K:=⟨ns,h,hl,hk⟩
theorem MO{ns:List Int}{K:Bool->Prop}(hl:ns.length<big)(hk:K (ns.all okI)):MI.deep (rowsOf EM ns) K:=⟨ns,rfl,hl,hk⟩
theorem bF{α:Type}{c:α->Lv}{p:α->Bool}{l:List α}{K:Bool->Prop}(hl:l.length<big)(hk:K (l.any p)):MC c p (rowsOf c l) K:=⟨l,rfl,hl,hk⟩
theorem AJK(l:List Int):DI 1 (rowsOf EM l)=some (l.map fun n => .int .i64 n):=by
 induction l with
 |nil=>rfl
 |cons a l ih=>
  show DI 1 (.agg ⟨[.int .i64 a]⟩::rowsOf EM l)=_
  simp only[DI,ih];rfl
theorem AGy(l:List Int):BL 0 (l.map fun n=>Value.int .i64 n)=true:=by
 induction l with
 |nil=>rfl
 |cons a l ih=>show(true&&BL 0 (l.map fun n=>Value.int .i64 n))=true;rw[ih];rfl
theorem AKc{f:FuncId}(hd:∀(ns:List Int),ns.length<big->∀B H,BM Tryz.prog 100 B f [dsl (rowsOf EM ns)] H (.returned (.bool (ns.all okI))) H):JU Tryz.prog 100 f (TP MI):=by
 intro args H K h
 unfold TP at h
 split at h<;>try exact h.elim
 ·rename_i b k k'
  split at h<;>try exact h.elim
  rename_i vs e sz lo ow hg
  split at h<;>try exact h.elim
  rename_i hc
  simp only[Bool.and_eq_true]at hc
  obtain⟨hc1,rfl⟩:=hc
  obtain rfl:=Nat.eq_of_beq_eq_true hc1
  obtain⟨rfl,rfl,ns,rfl,hl,hK⟩:=h
  exact⟨_,H,fun B=>fD (pre:=[]) (post:=[]) (fun B H=>hd ns hl B H) hg (AJK ns) (AGy ns) (by omega) (by rw[List.length_map,AQ]) (Nat.le_refl _) rfl rfl rfl B,hK⟩
 ·rename_i t rs
  split at h<;>try exact h.elim
  rename_i e1
  obtain rfl:=Nat.eq_of_beq_eq_true e1
  obtain⟨ns,rfl,hl,hK⟩:=h
  exact⟨_,H,fun B=>hd ns hl B H,hK⟩
theorem APi(ns:List Int)(hl:ns.length<big):Is (ALk (real Tryz.prog) (MC EM OG) (rowsOf EM ns) (PQ (.bool (ns.all okI)))):=by
 refine⟨?_⟩
 rw[AGS]
 refine bF hl ?_
 exact CY (fun h=>PQ.of (by rw[←ADw,h];rfl) rfl) (fun h=>PQ.of (by rw[←ADw,h];rfl) rfl)
theorem APu:JU Tryz.prog 100 227 (TP MI):=AKc fun ns hl B H=>
 GL okp (EY (fun x hx=>by simp only[List.mem_singleton]at hx;subst hx;exact APK APL)) AZ rfl rfl (APi ns hl) B H
theorem AMr:OM Tryz.prog 100 (WIn 227 MI):=M3 (fun x hx=>by simp only[List.mem_singleton]at hx;subst hx;exact APu) (fun x hx=>by cases hx)
theorem AR9(x:Arm):Is (AOV (real Tryz.prog) MI (x.v:Int) x.nx (PQ (.bool (MX x)))):=by
 refine⟨?_⟩
 rw[AJX]
 exact⟨rfl,rfl,QX (ns:=[x.nx]) rfl (by simp[big]) (CY (fun h=>PQ.of (by simp_all[MX]) rfl) (fun h=>PQ.of (by simp_all[MX]) rfl))⟩
theorem ASa(x:Instr):Is (AOW (real Tryz.prog) MI (x.op:Int) x.to (x.ak:Int) (x.an:Int) (x.bk:Int) (x.bn:Int) x.n (PQ (.bool (GX x)))):=by
 refine⟨?_⟩
 rw[AJY]
 exact⟨rfl,rfl,QX (ns:=[x.to,x.n]) rfl (by simp[big]) (CY (fun h=>PQ.of (by cases h1:okI x.to<;>cases h2:okI x.n<;>simp_all[GX]) rfl) (fun h=>PQ.of (by cases h1:okI x.to<;>cases h2:okI x.n<;>simp_all[GX]) rfl))⟩
theorem ASb(x:DN):Is (AOX (real Tryz.prog) MI (x.w:Int) x.b (PQ (.bool (FH x)))):=by
 refine⟨?_⟩
 rw[AJZ]
 exact⟨rfl,rfl,QX (ns:=[x.b]) rfl (by simp[big]) (CY (fun h=>PQ.of (by simp_all[FH]) rfl) (fun h=>PQ.of (by simp_all[FH]) rfl))⟩
theorem ASi:FY Tryz.prog 100 229 (sP (PM (fun x:Arm => .agg ⟨D7 x⟩) MX)):=by
 intro args K h
 unfold sP at h
 split at h<;>try exact h.elim
 obtain⟨x,rfl,hK⟩:=h
 exact⟨_,fun B H=>GL okp AMr AZ rfl rfl (AR9 x) B H,hK⟩
theorem ASk:FY Tryz.prog 100 234 (sP (PM (fun x:Instr => .agg ⟨BN x⟩) GX)):=by
 intro args K h
 unfold sP at h
 split at h<;>try exact h.elim
 obtain⟨x,rfl,hK⟩:=h
 exact⟨_,fun B H=>GL okp AMr AZ rfl rfl (ASa x) B H,hK⟩
theorem ASm:FY Tryz.prog 100 237 (sP (PM (fun x:DN => .agg ⟨BB x⟩) FH)):=by
 intro args K h
 unfold sP at h
 split at h<;>try exact h.elim
 obtain⟨x,rfl,hK⟩:=h
 exact⟨_,fun B H=>GL okp AMr AZ rfl rfl (ASb x) B H,hK⟩
theorem knM(l:PuL)(h:∀x∈l,FY Tryz.prog 100 x.1 x.2):OM Tryz.prog 100 (AP S0 Sp0 [(227,TP MI)] [] l []):=M3 (fun x hx=>by simp only[List.mem_singleton]at hx;subst hx;exact APu) h
theorem AHJ(x:EP)(hf:KQ x):Is (xO (real Tryz.prog) MI (MC D7 MX) x.id x.size x.lo x.lw x.lu x.so x.sw (rowsOf D7 x.arms) x.ot (PQ (.bool (JX x)))):=by
 refine⟨?_⟩
 rw[xP]
 refine⟨rfl,rfl,QX (ns:=[x.id,x.size,x.lo,x.lw,x.lu,x.so,x.sw,x.ot]) rfl (by simp[big]) ?_⟩
 repeat' first
  |refine bG (fun _=>?_) (fun _=>?_)
  |refine N7 (fun _=>?_) (fun _=>?_)
  |refine FC ?_
  |refine CY (fun _=>?_) (fun _=>?_)
  |refine bF (by assumption) ?_
  |refine MO (by assumption) ?_
  |refine BI _ (AQ _ _) ?_
  |(refine PQ.of ?_ rfl;first|(simp_all[JX];done)|(simp_all[JX]<;>intros<;>omega))
theorem AHK(x:EP)(hf:KQ x)(B:Base)(H:Heap):BM Tryz.prog 100 B 153 [OI x] H (.returned (.bool (JX x))) H:=
 GL okp (knM _ (fun x hx=>by simp only[List.mem_singleton]at hx;subst hx;exact ASh ASi)) AZ rfl rfl (AHJ x hf) B H
theorem AFa(x:E9)(hf:NI x):Is (oM (real Tryz.prog) MI (MC D7 MX) x.id (x.base:Int) x.node x.off x.wid (PQ (.bool (I5 x)))):=by
 refine⟨?_⟩
 rw[uB]
 refine⟨rfl,rfl,QX (ns:=[x.id,x.node,x.off,x.wid]) rfl (by simp[big]) ?_⟩
 repeat' first
  |refine bG (fun _=>?_) (fun _=>?_)
  |refine N7 (fun _=>?_) (fun _=>?_)
  |refine FC ?_
  |refine CY (fun _=>?_) (fun _=>?_)
  |refine bF (by assumption) ?_
  |refine MO (by assumption) ?_
  |refine BI _ (AQ _ _) ?_
  |(refine PQ.of ?_ rfl;first|(simp_all[I5];done)|(simp_all[I5]<;>intros<;>omega))
theorem AFb(x:E9)(hf:NI x)(B:Base)(H:Heap):BM Tryz.prog 100 B 165 [K6 x] H (.returned (.bool (I5 x))) H:=
 GL okp (knM _ (fun x hx=>by cases hx)) AZ rfl rfl (AFa x hf) B H
theorem AFg(x:EB)(hf:JF x):Is (oP (real Tryz.prog) MI (MC D7 MX) x.id (x.kind:Int) (rowsOf EM x.keys) x.cap x.miss (PQ (.bool (IG x)))):=by
 refine⟨?_⟩
 rw[uE]
 refine⟨rfl,rfl,QX (ns:=[x.id,x.cap,x.miss]) rfl (by simp[big]) ?_⟩
 repeat' first
  |refine bG (fun _=>?_) (fun _=>?_)
  |refine N7 (fun _=>?_) (fun _=>?_)
  |refine FC ?_
  |refine CY (fun _=>?_) (fun _=>?_)
  |refine bF (by assumption) ?_
  |refine MO (by assumption) ?_
  |refine BI _ (AQ _ _) ?_
  |(refine PQ.of ?_ rfl;first|(simp_all[IG];done)|(simp_all[IG]<;>intros<;>omega))
theorem AFh(x:EB)(hf:JF x)(B:Base)(H:Heap):BM Tryz.prog 100 B 170 [K9 x] H (.returned (.bool (IG x))) H:=
 GL okp (knM _ (fun x hx=>by cases hx)) AZ rfl rfl (AFg x hf) B H
theorem AE8(x:C9)(hf:JD x):Is (oL (real Tryz.prog) MI (MC D7 MX) x.tab x.key x.oth x.len x.prio x.blk (rowsOf DJ x.args) x.idle x.hard (x.cook:Int) x.tell (PQ (.bool (IB x)))):=by
 refine⟨?_⟩
 rw[uA]
 refine⟨rfl,rfl,QX (ns:=[x.tab,x.len,x.prio,x.blk]) rfl (by simp[big]) ?_⟩
 repeat' first
  |refine bG (fun _=>?_) (fun _=>?_)
  |refine N7 (fun _=>?_) (fun _=>?_)
  |refine FC ?_
  |refine CY (fun _=>?_) (fun _=>?_)
  |refine bF (by assumption) ?_
  |refine MO (by assumption) ?_
  |refine BI _ (AQ _ _) ?_
  |(refine PQ.of ?_ rfl;first|(simp_all[IB];done)|(simp_all[IB]<;>intros<;>omega))
theorem AE9(x:C9)(hf:JD x)(B:Base)(H:Heap):BM Tryz.prog 100 B 177 [K5 x] H (.returned (.bool (IB x))) H:=
 GL okp (knM _ (fun x hx=>by cases hx)) AZ rfl rfl (AE8 x hf) B H
theorem AE6(x:ES)(hf:JC x):Is (oK (real Tryz.prog) MI (MC BN GX) x.id (rowsOf BN x.code) (PQ (.bool (H9 x)))):=by
 refine⟨?_⟩
 rw[tZ]
 refine⟨rfl,rfl,QX (ns:=[x.id]) rfl (by simp[big]) ?_⟩
 repeat' first
  |refine bG (fun _=>?_) (fun _=>?_)
  |refine N7 (fun _=>?_) (fun _=>?_)
  |refine FC ?_
  |refine CY (fun _=>?_) (fun _=>?_)
  |refine bF (by assumption) ?_
  |refine MO (by assumption) ?_
  |refine BI _ (AQ _ _) ?_
  |(refine PQ.of ?_ rfl;first|(simp_all[H9];done)|(simp_all[H9]<;>intros<;>omega))
theorem AE7(x:ES)(hf:JC x)(B:Base)(H:Heap):BM Tryz.prog 100 B 188 [K4 x] H (.returned (.bool (H9 x))) H:=
 GL okp (knM _ (fun x hx=>by simp only[List.mem_singleton]at hx;subst hx;exact ASj ASk)) AZ rfl rfl (AE6 x hf) B H
theorem AFc(x:EI)(hf:JE x):Is (oN (real Tryz.prog) MI (MC BB FH) x.id (x.kind:Int) x.fld (rowsOf BB x.bks) (PQ (.bool (IC x)))):=by
 refine⟨?_⟩
 rw[uC]
 refine⟨rfl,rfl,QX (ns:=[x.id,x.fld]) rfl (by simp[big]) ?_⟩
 repeat' first
  |refine bG (fun _=>?_) (fun _=>?_)
  |refine N7 (fun _=>?_) (fun _=>?_)
  |refine FC ?_
  |refine CY (fun _=>?_) (fun _=>?_)
  |refine bF (by assumption) ?_
  |refine MO (by assumption) ?_
  |refine BI _ (AQ _ _) ?_
  |(refine PQ.of ?_ rfl;first|(simp_all[IC];done)|(simp_all[IC]<;>intros<;>omega))
theorem AFd(x:EI)(hf:JE x)(B:Base)(H:Heap):BM Tryz.prog 100 B 196 [K7 x] H (.returned (.bool (IC x))) H:=
 GL okp (knM _ (fun x hx=>by simp only[List.mem_singleton]at hx;subst hx;exact ASl ASm)) AZ rfl rfl (AFc x hf) B H
theorem AFe(x:FJ)(hf:NJ x):Is (oO (real Tryz.prog) MI (MC D7 MX) x.id x.rate x.burst (PQ (.bool (I6 x)))):=by
 refine⟨?_⟩
 rw[uD]
 refine⟨rfl,rfl,QX (ns:=[x.id]) rfl (by simp[big]) ?_⟩
 repeat' first
  |refine bG (fun _=>?_) (fun _=>?_)
  |refine N7 (fun _=>?_) (fun _=>?_)
  |refine FC ?_
  |refine CY (fun _=>?_) (fun _=>?_)
  |refine bF (by assumption) ?_
  |refine MO (by assumption) ?_
  |refine BI _ (AQ _ _) ?_
  |(refine PQ.of ?_ rfl;first|(simp_all[I6];done)|(simp_all[I6]<;>intros<;>omega))
theorem AFf(x:FJ)(hf:NJ x)(B:Base)(H:Heap):BM Tryz.prog 100 B 204 [K8 x] H (.returned (.bool (I6 x))) H:=
 GL okp (knM _ (fun x hx=>by cases hx)) AZ rfl rfl (AFe x hf) B H
theorem AHL(x:IJ)(hf:PL x):Is (xQ (real Tryz.prog) MI (MC D7 MX) x.id x.size (PQ (.bool (J9 x)))):=by
 refine⟨?_⟩
 rw[xR]
 refine⟨rfl,rfl,QX (ns:=[x.id,x.size]) rfl (by simp[big]) ?_⟩
 repeat' first
  |refine bG (fun _=>?_) (fun _=>?_)
  |refine N7 (fun _=>?_) (fun _=>?_)
  |refine FC ?_
  |refine CY (fun _=>?_) (fun _=>?_)
  |refine bF (by assumption) ?_
  |refine MO (by assumption) ?_
  |refine BI _ (AQ _ _) ?_
  |(refine PQ.of ?_ rfl;first|(simp_all[J9];done)|(simp_all[J9]<;>intros<;>omega))
theorem AHM(x:IJ)(hf:PL x)(B:Base)(H:Heap):BM Tryz.prog 100 B 208 [OJ x] H (.returned (.bool (J9 x))) H:=
 GL okp (knM _ (fun x hx=>by cases hx)) AZ rfl rfl (AHL x hf) B H
end
end Go.Proofs.Ob
