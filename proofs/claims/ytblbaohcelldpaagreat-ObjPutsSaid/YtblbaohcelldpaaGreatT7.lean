/- May it be said: what the code asks, program and reference. -/
import Derived.Test.YtblbaohcelldpaaGreatT5
namespace Go.Proofs.YtblbaohcelldpaaGreat.Ob
open Go Go.Abs Go.Tlv
set_option linter.unusedVariables false
noncomputable section
structure Mi where
  own : List Value → (Bool → Prop) → Prop
  deep : List Value → (Bool → Prop) → Prop
def sInts (M : Mi) : List Value → Heap → VK → Prop
  | [.slice (some ⟨b, 0, none⟩) k k'], H, K => match H.get b with
    | some (.cells vs e sz lo ow) => match Nat.beq sz 1 && ow with
      | true => k = vs.length ∧ k' = k ∧ M.own vs fun b => K (.bool b) H
      | false => False
    | _ => False
  | [.iface t (.agg ⟨rs⟩)], H, K => match Nat.beq t mkD with
    | true => M.deep rs fun b => K (.bool b) H
    | false => False
  | _, _, _ => False
abbrev S0 : Sy := fun _ => none
abbrev Sp0 : Nat → Bool := fun _ => false
def gInts (N : Nd) (M : MCt) (rows : List Value) (K : RK) : Prop := wpe Tryz.prog N (howOf S0 Sp0 [] [] [(116, sCt 117 M)] []) 300 (.call 64 [dsl rows] h0) (retQ 100 K)
def WIn (f : Nat) (M : Mi) : How := howOf S0 Sp0 [(f, sInts M)] [] [] []
def gP86 (N : Nd) (M : Mi) (v nx : Int) (K : RK) : Prop := wpe Tryz.prog N (WIn 64 M) 300 (.call 86 [.agg ⟨[.int .u32 v, .int .i64 nx]⟩] h0) (retQ 100 K)
def gP88 (N : Nd) (M : Mi) (op to ak an bk bn n : Int) (K : RK) : Prop := wpe Tryz.prog N (WIn 64 M) 300 (.call 88 [.agg ⟨(kInstr op to ak an bk bn n)⟩] h0) (retQ 100 K)
def gP90 (N : Nd) (M : Mi) (w b : Int) (K : RK) : Prop := wpe Tryz.prog N (WIn 64 M) 300 (.call 90 [.agg ⟨[.int .u64 w, .int .i64 b]⟩] h0) (retQ 100 K)
set_option maxRecDepth 100000
theorem gInts_eq (N : Nd) (M : MCt) (rows : List Value) (K : RK) : gInts N M rows K =
 (M rows (fun b0 =>
 branch b0
 (K (.bool false) [])
 (K (.bool true) []))) := by kernel_rfl
theorem gP86_eq (N : Nd) (M : Mi) (v nx : Int) (K : RK) : gP86 N M v nx K =
 ((1 = 1) ∧
 ((1 = 1) ∧
 (M.own [(.int .i64 nx)] (fun b0 =>
 branch b0
 (K (.bool false) [(some (AObj.cells [(.int .u32 v), (.int .i64 nx)] 69 2 false true)), (some (AObj.cells [(.int .i64 nx)] 3 1 false true))])
 (K (.bool true) [(some (AObj.cells [(.int .u32 v), (.int .i64 nx)] 69 2 false true)), (some (AObj.cells [(.int .i64 nx)] 3 1 false true))]))))) := by kernel_rfl
theorem gP88_eq (N : Nd) (M : Mi) (op to : Int) (ak an : Int) (bk bn n : Int) (K : RK) : gP88 N M op to ak an bk bn n K =
 ((2 = 2) ∧
 ((2 = 2) ∧
 (M.own [(.int .i64 to), (.int .i64 n)] (fun b0 =>
 branch b0
 (K (.bool false) [(some (AObj.cells (kInstr op to ak an bk bn n) 80 7 false true)), (some (AObj.cells [(.int .i64 to), (.int .i64 n)] 3 1 false true))])
 (K (.bool true) [(some (AObj.cells (kInstr op to ak an bk bn n) 80 7 false true)), (some (AObj.cells [(.int .i64 to), (.int .i64 n)] 3 1 false true))]))))) := by kernel_rfl
theorem gP90_eq (N : Nd) (M : Mi) (w b : Int) (K : RK) : gP90 N M w b K =
 ((1 = 1) ∧
 ((1 = 1) ∧
 (M.own [(.int .i64 b)] (fun b0 =>
 branch b0
 (K (.bool false) [(some (AObj.cells [(.int .u64 w), (.int .i64 b)] 106 2 false true)), (some (AObj.cells [(.int .i64 b)] 3 1 false true))])
 (K (.bool true) [(some (AObj.cells [(.int .u64 w), (.int .i64 b)] 106 2 false true)), (some (AObj.cells [(.int .i64 b)] 3 1 false true))]))))) := by kernel_rfl
abbrev LRt := Code → Nat → List Value → List (Option AObj) → Prop → Prop → Prop
def sLoopR (L : LRt) : LpS := lpS [2] fun c n vals obs K => L c n vals obs (K .ret [.bool false] []) (K (.exit 0) [top] [])
def gRInts (N : Nd) (L : LRt) (rows : List Value) (K : RK) : Prop := wpe Tryz.prog N (howOf S0 Sp0 [] [(2, (22, ([0, 3], sLoopR L)))] [] []) 300 (.call 100 [dsl rows] h0) (retQ 100 K)
def gRIntsR (N : Nd) (rows : List Value) (i : Int) (back : Bk) (out : Ot) : Prop :=
  wpe Tryz.prog N (howOf S0 Sp0 [] [] [] []) 300 (.code false (loopIn Tryz.prog 100 2) (stOf 100 22 [0, 3] [] ([dsl rows, .int .i64 i], []))) (roundQ 100 [0, 3] [2] 22 [] back out)
set_option maxRecDepth 100000
theorem gRInts_eq (N : Nd) (L : LRt) (rows : List Value) (K : RK) : gRInts N L rows K =
 (L (loopIn Tryz.prog 100 2) 22 [(dsl rows), (.int .i64 (0 : Int))] [] (K (.bool false) []) (K (.bool true) [])) := by kernel_rfl
theorem gRIntsR_eq (N : Nd) (rows : List Value) (i : Int) (back : Bk) (out : Ot) : gRIntsR N rows i back out =
 (N.dlen rows (fun o0 =>
 N.cmp .lss .i64 i .i64 (Int.ofNat o0) (N.dget rows i 1 (fun l1 =>
 N.rdI .i64 l1 0 (fun z2 =>
 N.cmp .lss .i64 z2 .i64 (0 : Int) (nD ∧
 (out Exit.ret [(.bool false)] [])) (N.dget rows i 1 (fun l3 =>
 N.rdI .i64 l3 0 (fun z4 =>
 N.cmp .gtr .i64 z4 .i64 (2147483647 : Int) (nD ∧
 (out Exit.ret [(.bool false)] [])) (N.ari .add .i64 i .i64 (1 : Int) (fun z5 =>
 nD ∧
 (back [(dsl rows), (.int .i64 z5)] []))))))))) (nD ∧
 (out (Exit.exit 0) [(.chan (some 0))] [])))) := by kernel_rfl
abbrev LXt := Code → Nat → List Value → List (Option AObj) → Prop → Prop → Prop
def sLoopX (L : LXt) : LpS := lpS [1, 2] fun c n vals obs K => L c n vals obs (K .ret [top, .bool false] [none]) (K (.exit 0) [.pointer (some ⟨100, 0, none⟩), top] obs)
def gMayNode (N : Nd) (M : Mi) (MA : MCt) (id size : Int) (lo lw : Int) (lu so sw : Int) (arms : List Value) (ot : Int) (K : RK) : Prop := wpe Tryz.prog N (howOf S0 Sp0 [(64, sInts M)] [] [(85, sCt 86 MA)] []) 300 (.call 25 [.agg ⟨(kNode id size lo lw lu so sw arms ot)⟩] h0) (retQ 100 K)
set_option maxRecDepth 100000
theorem gMayNode_eq (N : Nd) (M : Mi) (MA : MCt) (id size : Int) (lo lw : Int) (lu so sw : Int) (arms : List Value) (ot : Int) (K : RK) : gMayNode N M MA id size lo lw lu so sw arms ot K =
 ((8 = 8) ∧
 ((8 = 8) ∧
 (M.own [(.int .i64 id), (.int .i64 size), (.int .i64 lo), (.int .i64 lw), (.int .i64 lu), (.int .i64 so), (.int .i64 sw), (.int .i64 ot)] (fun b0 =>
 branch b0
 (N.dlen arms (fun o1 =>
 N.cmp .leq .i64 (Int.ofNat o1) .i64 (32 : Int) (MA arms (fun b2 =>
 branch b2
 (K (.bool false) [(some (AObj.cells (kNode id size lo lw lu so sw arms ot) 27 9 false true)), (some (AObj.cells [(.int .i64 id), (.int .i64 size), (.int .i64 lo), (.int .i64 lw), (.int .i64 lu), (.int .i64 so), (.int .i64 sw), (.int .i64 ot)] 3 1 false true))])
 (K (.bool true) [(some (AObj.cells (kNode id size lo lw lu so sw arms ot) 27 9 false true)), (some (AObj.cells [(.int .i64 id), (.int .i64 size), (.int .i64 lo), (.int .i64 lw), (.int .i64 lu), (.int .i64 so), (.int .i64 sw), (.int .i64 ot)] 3 1 false true))]))) (K (.bool false) [(some (AObj.cells (kNode id size lo lw lu so sw arms ot) 27 9 false true)), (some (AObj.cells [(.int .i64 id), (.int .i64 size), (.int .i64 lo), (.int .i64 lw), (.int .i64 lu), (.int .i64 so), (.int .i64 sw), (.int .i64 ot)] 3 1 false true))])))
 (K (.bool false) [(some (AObj.cells (kNode id size lo lw lu so sw arms ot) 27 9 false true)), (some (AObj.cells [(.int .i64 id), (.int .i64 size), (.int .i64 lo), (.int .i64 lw), (.int .i64 lu), (.int .i64 so), (.int .i64 sw), (.int .i64 ot)] 3 1 false true))]))))) := by kernel_rfl
def gRMayNode (N : Nd) (M : Mi) (L : LXt) (id size : Int) (lo lw : Int) (lu so sw : Int) (arms : List Value) (ot : Int) (K : RK) : Prop := wpe Tryz.prog N (howOf S0 Sp0 [(100, sInts M)] [(2, (44, ([1, 3], sLoopX L)))] [] []) 300 (.call 37 [.agg ⟨(kNode id size lo lw lu so sw arms ot)⟩] h0) (retQ 100 K)
def gRMayNodeR (N : Nd) (M : Mi) (id size : Int) (lo lw : Int) (lu so sw : Int) (arms : List Value) (ot i : Int) (back : Bk) (out : Ot) : Prop :=
  wpe Tryz.prog N (WIn 100 M) 300 (.code false (loopIn Tryz.prog 37 2) (stOf 100 44 [1, 3] [] ([.pointer (some ⟨100, 0, none⟩), .int .i64 i], [some (.cells (kNode id size lo lw lu so sw arms ot) 27 9 false true)]))) (roundQ 100 [1, 3] [1, 2] 44 [] back out)
set_option maxRecDepth 100000
theorem gRMayNode_eq (N : Nd) (M : Mi) (L : LXt) (id size : Int) (lo lw : Int) (lu so sw : Int) (arms : List Value) (ot : Int) (K : RK) : gRMayNode N M L id size lo lw lu so sw arms ot K =
 (L (loopIn Tryz.prog 37 2) 44 [(.pointer (some ⟨100, 0, none⟩)), (.int .i64 (0 : Int))] [(some (AObj.cells (kNode id size lo lw lu so sw arms ot) 27 9 false true))] (K (.bool false) [none]) ((8 = 8) ∧
 ((8 = 8) ∧
 (M.own [(.int .i64 id), (.int .i64 size), (.int .i64 lo), (.int .i64 lw), (.int .i64 lu), (.int .i64 so), (.int .i64 sw), (.int .i64 ot)] (fun b0 =>
 branch b0
 (N.dlen arms (fun o1 =>
 N.cmp .leq .i64 (Int.ofNat o1) .i64 (32 : Int) (K (.bool true) [(some (AObj.cells (kNode id size lo lw lu so sw arms ot) 27 9 false true)), (some (AObj.cells [(.int .i64 id), (.int .i64 size), (.int .i64 lo), (.int .i64 lw), (.int .i64 lu), (.int .i64 so), (.int .i64 sw), (.int .i64 ot)] 3 1 false true))]) (K (.bool false) [(some (AObj.cells (kNode id size lo lw lu so sw arms ot) 27 9 false true)), (some (AObj.cells [(.int .i64 id), (.int .i64 size), (.int .i64 lo), (.int .i64 lw), (.int .i64 lu), (.int .i64 so), (.int .i64 sw), (.int .i64 ot)] 3 1 false true))])))
 (K (.bool false) [(some (AObj.cells (kNode id size lo lw lu so sw arms ot) 27 9 false true)), (some (AObj.cells [(.int .i64 id), (.int .i64 size), (.int .i64 lo), (.int .i64 lw), (.int .i64 lu), (.int .i64 so), (.int .i64 sw), (.int .i64 ot)] 3 1 false true))])))))) := by kernel_rfl
theorem gRMayNodeR_eq (N : Nd) (M : Mi) (id size : Int) (lo lw : Int) (lu so sw : Int) (arms : List Value) (ot i : Int) (back : Bk) (out : Ot) : gRMayNodeR N M id size lo lw lu so sw arms ot i back out =
 (N.dlen arms (fun o0 =>
 N.cmp .lss .i64 i .i64 (Int.ofNat o0) (N.dget arms i 2 (fun l1 =>
 N.rdI .u32 l1 0 (fun z2 =>
 N.rdI .i64 l1 1 (fun z3 =>
 (1 = 1) ∧
 ((1 = 1) ∧
 (M.own [(.int .i64 z3)] (fun b4 =>
 branch b4
 (N.ari .add .i64 i .i64 (1 : Int) (fun z5 =>
 nD ∧
 (back [(.pointer (some ⟨100, 0, none⟩)), (.int .i64 z5)] [(some (AObj.cells (kNode id size lo lw lu so sw arms ot) 27 9 false true)), (some (AObj.cells [(.int .i64 z3)] 3 1 false true))])))
 (nD ∧
 (out Exit.ret [(.pointer (some ⟨100, 0, none⟩)), (.bool false)] [(some (AObj.cells (kNode id size lo lw lu so sw arms ot) 27 9 false true)), (some (AObj.cells [(.int .i64 z3)] 3 1 false true))]))))))))) (nD ∧
 (out (Exit.exit 0) [(.pointer (some ⟨100, 0, none⟩)), (.chan (some 0))] [(some (AObj.cells (kNode id size lo lw lu so sw arms ot) 27 9 false true))])))) := by kernel_rfl
def gMayField (N : Nd) (M : Mi) (MA : MCt) (id base : Int) (node off wid : Int) (K : RK) : Prop := wpe Tryz.prog N (howOf S0 Sp0 [(64, sInts M)] [] [] []) 300 (.call 26 [.agg ⟨(kField id base node off wid)⟩] h0) (retQ 100 K)
set_option maxRecDepth 100000
theorem gMayField_eq (N : Nd) (M : Mi) (MA : MCt) (id base : Int) (node off wid : Int) (K : RK) : gMayField N M MA id base node off wid K =
 ((4 = 4) ∧
 ((4 = 4) ∧
 (M.own [(.int .i64 id), (.int .i64 node), (.int .i64 off), (.int .i64 wid)] (fun b0 =>
 K (.bool b0) [(some (AObj.cells (kField id base node off wid) 29 5 false true)), (some (AObj.cells [(.int .i64 id), (.int .i64 node), (.int .i64 off), (.int .i64 wid)] 3 1 false true))])))) := by kernel_rfl
def gRMayField (N : Nd) (M : Mi) (id base : Int) (node off wid : Int) (K : RK) : Prop := wpe Tryz.prog N (WIn 100 M) 300 (.call 38 [.agg ⟨(kField id base node off wid)⟩] h0) (retQ 100 K)
set_option maxRecDepth 100000
theorem gRMayField_eq (N : Nd) (M : Mi) (id base : Int) (node off wid : Int) (K : RK) : gRMayField N M id base node off wid K =
 ((4 = 4) ∧
 ((4 = 4) ∧
 (M.own [(.int .i64 id), (.int .i64 node), (.int .i64 off), (.int .i64 wid)] (fun b0 =>
 K (.bool b0) [(some (AObj.cells (kField id base node off wid) 29 5 false true)), (some (AObj.cells [(.int .i64 id), (.int .i64 node), (.int .i64 off), (.int .i64 wid)] 3 1 false true))])))) := by kernel_rfl
def gMayTable (N : Nd) (M : Mi) (MA : MCt) (id kind : Int) (keys : List Value) (cap miss : Int) (K : RK) : Prop := wpe Tryz.prog N (howOf S0 Sp0 [(64, sInts M)] [] [] []) 300 (.call 27 [.agg ⟨(kTable id kind keys cap miss)⟩] h0) (retQ 100 K)
set_option maxRecDepth 100000
theorem gMayTable_eq (N : Nd) (M : Mi) (MA : MCt) (id kind : Int) (keys : List Value) (cap miss : Int) (K : RK) : gMayTable N M MA id kind keys cap miss K =
 ((3 = 3) ∧
 ((3 = 3) ∧
 (M.own [(.int .i64 id), (.int .i64 cap), (.int .i64 miss)] (fun b0 =>
 branch b0
 (N.dlen keys (fun o1 =>
 N.cmp .leq .i64 (Int.ofNat o1) .i64 (4 : Int) (M.deep keys (fun b2 =>
 K (.bool b2) [(some (AObj.cells (kTable id kind keys cap miss) 32 5 false true)), (some (AObj.cells [(.int .i64 id), (.int .i64 cap), (.int .i64 miss)] 3 1 false true))])) (K (.bool false) [(some (AObj.cells (kTable id kind keys cap miss) 32 5 false true)), (some (AObj.cells [(.int .i64 id), (.int .i64 cap), (.int .i64 miss)] 3 1 false true))])))
 (K (.bool false) [(some (AObj.cells (kTable id kind keys cap miss) 32 5 false true)), (some (AObj.cells [(.int .i64 id), (.int .i64 cap), (.int .i64 miss)] 3 1 false true))]))))) := by kernel_rfl
def gRMayTable (N : Nd) (M : Mi) (id kind : Int) (keys : List Value) (cap miss : Int) (K : RK) : Prop := wpe Tryz.prog N (WIn 100 M) 300 (.call 39 [.agg ⟨(kTable id kind keys cap miss)⟩] h0) (retQ 100 K)
set_option maxRecDepth 100000
theorem gRMayTable_eq (N : Nd) (M : Mi) (id kind : Int) (keys : List Value) (cap miss : Int) (K : RK) : gRMayTable N M id kind keys cap miss K =
 ((3 = 3) ∧
 ((3 = 3) ∧
 (M.own [(.int .i64 id), (.int .i64 cap), (.int .i64 miss)] (fun b0 =>
 branch b0
 (N.dlen keys (fun o1 =>
 N.cmp .leq .i64 (Int.ofNat o1) .i64 (4 : Int) (M.deep keys (fun b2 =>
 K (.bool b2) [(some (AObj.cells (kTable id kind keys cap miss) 32 5 false true)), (some (AObj.cells [(.int .i64 id), (.int .i64 cap), (.int .i64 miss)] 3 1 false true))])) (K (.bool false) [(some (AObj.cells (kTable id kind keys cap miss) 32 5 false true)), (some (AObj.cells [(.int .i64 id), (.int .i64 cap), (.int .i64 miss)] 3 1 false true))])))
 (K (.bool false) [(some (AObj.cells (kTable id kind keys cap miss) 32 5 false true)), (some (AObj.cells [(.int .i64 id), (.int .i64 cap), (.int .i64 miss)] 3 1 false true))]))))) := by kernel_rfl
def gMayEntry (N : Nd) (M : Mi) (MA : MCt) (tab : Int) (key oth : ByteArray) (len prio blk : Int) (args : List Value) (idle hard cook : Int) (tell : Bool) (K : RK) : Prop := wpe Tryz.prog N (howOf S0 Sp0 [(64, sInts M)] [] [] []) 300 (.call 16 [.agg ⟨(kEntry tab key oth len prio blk args idle hard cook tell)⟩] h0) (retQ 100 K)
set_option maxRecDepth 100000
theorem gMayEntry_eq (N : Nd) (M : Mi) (MA : MCt) (tab : Int) (key oth : ByteArray) (len prio blk : Int) (args : List Value) (idle hard cook : Int) (tell : Bool) (K : RK) : gMayEntry N M MA tab key oth len prio blk args idle hard cook tell K =
 ((4 = 4) ∧
 ((4 = 4) ∧
 (M.own [(.int .i64 tab), (.int .i64 len), (.int .i64 prio), (.int .i64 blk)] (fun b0 =>
 branch b0
 (N.cmp .geq .i64 idle .i64 (0 : Int) (N.cmp .geq .i64 hard .i64 (0 : Int) (N.slen key (fun z1 =>
 N.cmp .leq .i64 z1 .i64 (32 : Int) (N.slen oth (fun z2 =>
 N.cmp .leq .i64 z2 .i64 (32 : Int) (N.dlen args (fun o3 =>
 N.cmp .leq .i64 (Int.ofNat o3) .i64 (4 : Int) (K (.bool true) [(some (AObj.cells (kEntry tab key oth len prio blk args idle hard cook tell) 34 11 false true)), (some (AObj.cells [(.int .i64 tab), (.int .i64 len), (.int .i64 prio), (.int .i64 blk)] 3 1 false true))]) (K (.bool false) [(some (AObj.cells (kEntry tab key oth len prio blk args idle hard cook tell) 34 11 false true)), (some (AObj.cells [(.int .i64 tab), (.int .i64 len), (.int .i64 prio), (.int .i64 blk)] 3 1 false true))]))) (K (.bool false) [(some (AObj.cells (kEntry tab key oth len prio blk args idle hard cook tell) 34 11 false true)), (some (AObj.cells [(.int .i64 tab), (.int .i64 len), (.int .i64 prio), (.int .i64 blk)] 3 1 false true))]))) (K (.bool false) [(some (AObj.cells (kEntry tab key oth len prio blk args idle hard cook tell) 34 11 false true)), (some (AObj.cells [(.int .i64 tab), (.int .i64 len), (.int .i64 prio), (.int .i64 blk)] 3 1 false true))]))) (K (.bool false) [(some (AObj.cells (kEntry tab key oth len prio blk args idle hard cook tell) 34 11 false true)), (some (AObj.cells [(.int .i64 tab), (.int .i64 len), (.int .i64 prio), (.int .i64 blk)] 3 1 false true))])) (K (.bool false) [(some (AObj.cells (kEntry tab key oth len prio blk args idle hard cook tell) 34 11 false true)), (some (AObj.cells [(.int .i64 tab), (.int .i64 len), (.int .i64 prio), (.int .i64 blk)] 3 1 false true))]))
 (K (.bool false) [(some (AObj.cells (kEntry tab key oth len prio blk args idle hard cook tell) 34 11 false true)), (some (AObj.cells [(.int .i64 tab), (.int .i64 len), (.int .i64 prio), (.int .i64 blk)] 3 1 false true))]))))) := by kernel_rfl
def gRMayEntry (N : Nd) (M : Mi) (tab : Int) (key oth : ByteArray) (len prio blk : Int) (args : List Value) (idle hard cook : Int) (tell : Bool) (K : RK) : Prop := wpe Tryz.prog N (WIn 100 M) 300 (.call 40 [.agg ⟨(kEntry tab key oth len prio blk args idle hard cook tell)⟩] h0) (retQ 100 K)
set_option maxRecDepth 100000
theorem gRMayEntry_eq (N : Nd) (M : Mi) (tab : Int) (key oth : ByteArray) (len prio blk : Int) (args : List Value) (idle hard cook : Int) (tell : Bool) (K : RK) : gRMayEntry N M tab key oth len prio blk args idle hard cook tell K =
 ((4 = 4) ∧
 ((4 = 4) ∧
 (M.own [(.int .i64 tab), (.int .i64 len), (.int .i64 prio), (.int .i64 blk)] (fun b0 =>
 branch b0
 (N.cmp .geq .i64 idle .i64 (0 : Int) (N.cmp .geq .i64 hard .i64 (0 : Int) (N.slen key (fun z1 =>
 N.cmp .leq .i64 z1 .i64 (32 : Int) (N.slen oth (fun z2 =>
 N.cmp .leq .i64 z2 .i64 (32 : Int) (N.dlen args (fun o3 =>
 N.cmp .leq .i64 (Int.ofNat o3) .i64 (4 : Int) (K (.bool true) [(some (AObj.cells (kEntry tab key oth len prio blk args idle hard cook tell) 34 11 false true)), (some (AObj.cells [(.int .i64 tab), (.int .i64 len), (.int .i64 prio), (.int .i64 blk)] 3 1 false true))]) (K (.bool false) [(some (AObj.cells (kEntry tab key oth len prio blk args idle hard cook tell) 34 11 false true)), (some (AObj.cells [(.int .i64 tab), (.int .i64 len), (.int .i64 prio), (.int .i64 blk)] 3 1 false true))]))) (K (.bool false) [(some (AObj.cells (kEntry tab key oth len prio blk args idle hard cook tell) 34 11 false true)), (some (AObj.cells [(.int .i64 tab), (.int .i64 len), (.int .i64 prio), (.int .i64 blk)] 3 1 false true))]))) (K (.bool false) [(some (AObj.cells (kEntry tab key oth len prio blk args idle hard cook tell) 34 11 false true)), (some (AObj.cells [(.int .i64 tab), (.int .i64 len), (.int .i64 prio), (.int .i64 blk)] 3 1 false true))]))) (K (.bool false) [(some (AObj.cells (kEntry tab key oth len prio blk args idle hard cook tell) 34 11 false true)), (some (AObj.cells [(.int .i64 tab), (.int .i64 len), (.int .i64 prio), (.int .i64 blk)] 3 1 false true))])) (K (.bool false) [(some (AObj.cells (kEntry tab key oth len prio blk args idle hard cook tell) 34 11 false true)), (some (AObj.cells [(.int .i64 tab), (.int .i64 len), (.int .i64 prio), (.int .i64 blk)] 3 1 false true))]))
 (K (.bool false) [(some (AObj.cells (kEntry tab key oth len prio blk args idle hard cook tell) 34 11 false true)), (some (AObj.cells [(.int .i64 tab), (.int .i64 len), (.int .i64 prio), (.int .i64 blk)] 3 1 false true))]))))) := by kernel_rfl
def gMayBlock (N : Nd) (M : Mi) (MA : MCt) (id : Int) (code : List Value) (K : RK) : Prop := wpe Tryz.prog N (howOf S0 Sp0 [(64, sInts M)] [] [(87, sCt 88 MA)] []) 300 (.call 28 [.agg ⟨[.int .i64 id, dsl code]⟩] h0) (retQ 100 K)
set_option maxRecDepth 100000
theorem gMayBlock_eq (N : Nd) (M : Mi) (MA : MCt) (id : Int) (code : List Value) (K : RK) : gMayBlock N M MA id code K =
 ((1 = 1) ∧
 ((1 = 1) ∧
 (M.own [(.int .i64 id)] (fun b0 =>
 branch b0
 (N.dlen code (fun o1 =>
 N.cmp .leq .i64 (Int.ofNat o1) .i64 (32 : Int) (MA code (fun b2 =>
 branch b2
 (K (.bool false) [(some (AObj.cells [(.int .i64 id), (dsl code)] 37 2 false true)), (some (AObj.cells [(.int .i64 id)] 3 1 false true))])
 (K (.bool true) [(some (AObj.cells [(.int .i64 id), (dsl code)] 37 2 false true)), (some (AObj.cells [(.int .i64 id)] 3 1 false true))]))) (K (.bool false) [(some (AObj.cells [(.int .i64 id), (dsl code)] 37 2 false true)), (some (AObj.cells [(.int .i64 id)] 3 1 false true))])))
 (K (.bool false) [(some (AObj.cells [(.int .i64 id), (dsl code)] 37 2 false true)), (some (AObj.cells [(.int .i64 id)] 3 1 false true))]))))) := by kernel_rfl
def gRMayBlock (N : Nd) (M : Mi) (L : LXt) (id : Int) (code : List Value) (K : RK) : Prop := wpe Tryz.prog N (howOf S0 Sp0 [(100, sInts M)] [(2, (36, ([1, 3], sLoopX L)))] [] []) 300 (.call 41 [.agg ⟨[.int .i64 id, dsl code]⟩] h0) (retQ 100 K)
def gRMayBlockR (N : Nd) (M : Mi) (id : Int) (code : List Value) (i : Int) (back : Bk) (out : Ot) : Prop :=
  wpe Tryz.prog N (WIn 100 M) 300 (.code false (loopIn Tryz.prog 41 2) (stOf 100 36 [1, 3] [] ([.pointer (some ⟨100, 0, none⟩), .int .i64 i], [some (.cells [.int .i64 id, dsl code] 37 2 false true)]))) (roundQ 100 [1, 3] [1, 2] 36 [] back out)
set_option maxRecDepth 100000
theorem gRMayBlock_eq (N : Nd) (M : Mi) (L : LXt) (id : Int) (code : List Value) (K : RK) : gRMayBlock N M L id code K =
 (L (loopIn Tryz.prog 41 2) 36 [(.pointer (some ⟨100, 0, none⟩)), (.int .i64 (0 : Int))] [(some (AObj.cells [(.int .i64 id), (dsl code)] 37 2 false true))] (K (.bool false) [none]) ((1 = 1) ∧
 ((1 = 1) ∧
 (M.own [(.int .i64 id)] (fun b0 =>
 branch b0
 (N.dlen code (fun o1 =>
 N.cmp .leq .i64 (Int.ofNat o1) .i64 (32 : Int) (K (.bool true) [(some (AObj.cells [(.int .i64 id), (dsl code)] 37 2 false true)), (some (AObj.cells [(.int .i64 id)] 3 1 false true))]) (K (.bool false) [(some (AObj.cells [(.int .i64 id), (dsl code)] 37 2 false true)), (some (AObj.cells [(.int .i64 id)] 3 1 false true))])))
 (K (.bool false) [(some (AObj.cells [(.int .i64 id), (dsl code)] 37 2 false true)), (some (AObj.cells [(.int .i64 id)] 3 1 false true))])))))) := by kernel_rfl
theorem gRMayBlockR_eq (N : Nd) (M : Mi) (id : Int) (code : List Value) (i : Int) (back : Bk) (out : Ot) : gRMayBlockR N M id code i back out =
 (N.dlen code (fun o0 =>
 N.cmp .lss .i64 i .i64 (Int.ofNat o0) (N.dget code i 7 (fun l1 =>
 N.rdI .u8 l1 0 (fun z2 =>
 N.rdI .i64 l1 1 (fun z3 =>
 N.rdI .u8 l1 2 (fun z4 =>
 N.rdI .u64 l1 3 (fun z5 =>
 N.rdI .u8 l1 4 (fun z6 =>
 N.rdI .u64 l1 5 (fun z7 =>
 N.rdI .i64 l1 6 (fun z8 =>
 N.dget code i 7 (fun l9 =>
 N.rdI .u8 l9 0 (fun z10 =>
 N.rdI .i64 l9 1 (fun z11 =>
 N.rdI .u8 l9 2 (fun z12 =>
 N.rdI .u64 l9 3 (fun z13 =>
 N.rdI .u8 l9 4 (fun z14 =>
 N.rdI .u64 l9 5 (fun z15 =>
 N.rdI .i64 l9 6 (fun z16 =>
 (2 = 2) ∧
 ((2 = 2) ∧
 (M.own [(.int .i64 z3), (.int .i64 z16)] (fun b17 =>
 branch b17
 (N.ari .add .i64 i .i64 (1 : Int) (fun z18 =>
 nD ∧
 (back [(.pointer (some ⟨100, 0, none⟩)), (.int .i64 z18)] [(some (AObj.cells [(.int .i64 id), (dsl code)] 37 2 false true)), (some (AObj.cells [(.int .i64 z3), (.int .i64 z16)] 3 1 false true))])))
 (nD ∧
 (out Exit.ret [(.pointer (some ⟨100, 0, none⟩)), (.bool false)] [(some (AObj.cells [(.int .i64 id), (dsl code)] 37 2 false true)), (some (AObj.cells [(.int .i64 z3), (.int .i64 z16)] 3 1 false true))])))))))))))))))))))))) (nD ∧
 (out (Exit.exit 0) [(.pointer (some ⟨100, 0, none⟩)), (.chan (some 0))] [(some (AObj.cells [(.int .i64 id), (dsl code)] 37 2 false true))])))) := by kernel_rfl
def gMayGroup (N : Nd) (M : Mi) (MA : MCt) (id kind fld : Int) (bks : List Value) (K : RK) : Prop := wpe Tryz.prog N (howOf S0 Sp0 [(64, sInts M)] [] [(89, sCt 90 MA)] []) 300 (.call 29 [.agg ⟨(kGroup id kind fld bks)⟩] h0) (retQ 100 K)
set_option maxRecDepth 100000
theorem gMayGroup_eq (N : Nd) (M : Mi) (MA : MCt) (id kind fld : Int) (bks : List Value) (K : RK) : gMayGroup N M MA id kind fld bks K =
 ((2 = 2) ∧
 ((2 = 2) ∧
 (M.own [(.int .i64 id), (.int .i64 fld)] (fun b0 =>
 branch b0
 (N.dlen bks (fun o1 =>
 N.cmp .leq .i64 (Int.ofNat o1) .i64 (16 : Int) (MA bks (fun b2 =>
 branch b2
 (K (.bool false) [(some (AObj.cells (kGroup id kind fld bks) 40 4 false true)), (some (AObj.cells [(.int .i64 id), (.int .i64 fld)] 3 1 false true))])
 (K (.bool true) [(some (AObj.cells (kGroup id kind fld bks) 40 4 false true)), (some (AObj.cells [(.int .i64 id), (.int .i64 fld)] 3 1 false true))]))) (K (.bool false) [(some (AObj.cells (kGroup id kind fld bks) 40 4 false true)), (some (AObj.cells [(.int .i64 id), (.int .i64 fld)] 3 1 false true))])))
 (K (.bool false) [(some (AObj.cells (kGroup id kind fld bks) 40 4 false true)), (some (AObj.cells [(.int .i64 id), (.int .i64 fld)] 3 1 false true))]))))) := by kernel_rfl
def gRMayGroup (N : Nd) (M : Mi) (L : LXt) (id kind fld : Int) (bks : List Value) (K : RK) : Prop := wpe Tryz.prog N (howOf S0 Sp0 [(100, sInts M)] [(2, (32, ([1, 3], sLoopX L)))] [] []) 300 (.call 42 [.agg ⟨(kGroup id kind fld bks)⟩] h0) (retQ 100 K)
def gRMayGroupR (N : Nd) (M : Mi) (id kind fld : Int) (bks : List Value) (i : Int) (back : Bk) (out : Ot) : Prop :=
  wpe Tryz.prog N (WIn 100 M) 300 (.code false (loopIn Tryz.prog 42 2) (stOf 100 32 [1, 3] [] ([.pointer (some ⟨100, 0, none⟩), .int .i64 i], [some (.cells (kGroup id kind fld bks) 40 4 false true)]))) (roundQ 100 [1, 3] [1, 2] 32 [] back out)
set_option maxRecDepth 100000
theorem gRMayGroup_eq (N : Nd) (M : Mi) (L : LXt) (id kind fld : Int) (bks : List Value) (K : RK) : gRMayGroup N M L id kind fld bks K =
 (L (loopIn Tryz.prog 42 2) 32 [(.pointer (some ⟨100, 0, none⟩)), (.int .i64 (0 : Int))] [(some (AObj.cells (kGroup id kind fld bks) 40 4 false true))] (K (.bool false) [none]) ((2 = 2) ∧
 ((2 = 2) ∧
 (M.own [(.int .i64 id), (.int .i64 fld)] (fun b0 =>
 branch b0
 (N.dlen bks (fun o1 =>
 N.cmp .leq .i64 (Int.ofNat o1) .i64 (16 : Int) (K (.bool true) [(some (AObj.cells (kGroup id kind fld bks) 40 4 false true)), (some (AObj.cells [(.int .i64 id), (.int .i64 fld)] 3 1 false true))]) (K (.bool false) [(some (AObj.cells (kGroup id kind fld bks) 40 4 false true)), (some (AObj.cells [(.int .i64 id), (.int .i64 fld)] 3 1 false true))])))
 (K (.bool false) [(some (AObj.cells (kGroup id kind fld bks) 40 4 false true)), (some (AObj.cells [(.int .i64 id), (.int .i64 fld)] 3 1 false true))])))))) := by kernel_rfl
theorem gRMayGroupR_eq (N : Nd) (M : Mi) (id kind fld : Int) (bks : List Value) (i : Int) (back : Bk) (out : Ot) : gRMayGroupR N M id kind fld bks i back out =
 (N.dlen bks (fun o0 =>
 N.cmp .lss .i64 i .i64 (Int.ofNat o0) (N.dget bks i 2 (fun l1 =>
 N.rdI .u64 l1 0 (fun z2 =>
 N.rdI .i64 l1 1 (fun z3 =>
 (1 = 1) ∧
 ((1 = 1) ∧
 (M.own [(.int .i64 z3)] (fun b4 =>
 branch b4
 (N.ari .add .i64 i .i64 (1 : Int) (fun z5 =>
 nD ∧
 (back [(.pointer (some ⟨100, 0, none⟩)), (.int .i64 z5)] [(some (AObj.cells (kGroup id kind fld bks) 40 4 false true)), (some (AObj.cells [(.int .i64 z3)] 3 1 false true))])))
 (nD ∧
 (out Exit.ret [(.pointer (some ⟨100, 0, none⟩)), (.bool false)] [(some (AObj.cells (kGroup id kind fld bks) 40 4 false true)), (some (AObj.cells [(.int .i64 z3)] 3 1 false true))]))))))))) (nD ∧
 (out (Exit.exit 0) [(.pointer (some ⟨100, 0, none⟩)), (.chan (some 0))] [(some (AObj.cells (kGroup id kind fld bks) 40 4 false true))])))) := by kernel_rfl
def gMayMeter (N : Nd) (M : Mi) (MA : MCt) (id rate burst : Int) (K : RK) : Prop := wpe Tryz.prog N (howOf S0 Sp0 [(64, sInts M)] [] [] []) 300 (.call 30 [.agg ⟨[.int .i64 id, .int .i64 rate, .int .i64 burst]⟩] h0) (retQ 100 K)
set_option maxRecDepth 100000
theorem gMayMeter_eq (N : Nd) (M : Mi) (MA : MCt) (id rate burst : Int) (K : RK) : gMayMeter N M MA id rate burst K =
 ((1 = 1) ∧
 ((1 = 1) ∧
 (M.own [(.int .i64 id)] (fun b0 =>
 branch b0
 (N.cmp .geq .i64 rate .i64 (0 : Int) (N.cmp .geq .i64 burst .i64 (0 : Int) (K (.bool true) [(some (AObj.cells [(.int .i64 id), (.int .i64 rate), (.int .i64 burst)] 42 3 false true)), (some (AObj.cells [(.int .i64 id)] 3 1 false true))]) (K (.bool false) [(some (AObj.cells [(.int .i64 id), (.int .i64 rate), (.int .i64 burst)] 42 3 false true)), (some (AObj.cells [(.int .i64 id)] 3 1 false true))])) (K (.bool false) [(some (AObj.cells [(.int .i64 id), (.int .i64 rate), (.int .i64 burst)] 42 3 false true)), (some (AObj.cells [(.int .i64 id)] 3 1 false true))]))
 (K (.bool false) [(some (AObj.cells [(.int .i64 id), (.int .i64 rate), (.int .i64 burst)] 42 3 false true)), (some (AObj.cells [(.int .i64 id)] 3 1 false true))]))))) := by kernel_rfl
def gRMayMeter (N : Nd) (M : Mi) (id rate burst : Int) (K : RK) : Prop := wpe Tryz.prog N (WIn 100 M) 300 (.call 43 [.agg ⟨[.int .i64 id, .int .i64 rate, .int .i64 burst]⟩] h0) (retQ 100 K)
set_option maxRecDepth 100000
theorem gRMayMeter_eq (N : Nd) (M : Mi) (id rate burst : Int) (K : RK) : gRMayMeter N M id rate burst K =
 ((1 = 1) ∧
 ((1 = 1) ∧
 (M.own [(.int .i64 id)] (fun b0 =>
 branch b0
 (N.cmp .geq .i64 rate .i64 (0 : Int) (N.cmp .geq .i64 burst .i64 (0 : Int) (K (.bool true) [(some (AObj.cells [(.int .i64 id), (.int .i64 rate), (.int .i64 burst)] 42 3 false true)), (some (AObj.cells [(.int .i64 id)] 3 1 false true))]) (K (.bool false) [(some (AObj.cells [(.int .i64 id), (.int .i64 rate), (.int .i64 burst)] 42 3 false true)), (some (AObj.cells [(.int .i64 id)] 3 1 false true))])) (K (.bool false) [(some (AObj.cells [(.int .i64 id), (.int .i64 rate), (.int .i64 burst)] 42 3 false true)), (some (AObj.cells [(.int .i64 id)] 3 1 false true))]))
 (K (.bool false) [(some (AObj.cells [(.int .i64 id), (.int .i64 rate), (.int .i64 burst)] 42 3 false true)), (some (AObj.cells [(.int .i64 id)] 3 1 false true))]))))) := by kernel_rfl
def gMayRegs (N : Nd) (M : Mi) (MA : MCt) (id size : Int) (K : RK) : Prop := wpe Tryz.prog N (howOf S0 Sp0 [(64, sInts M)] [] [] []) 300 (.call 31 [.agg ⟨[.int .i64 id, .int .i64 size]⟩] h0) (retQ 100 K)
set_option maxRecDepth 100000
theorem gMayRegs_eq (N : Nd) (M : Mi) (MA : MCt) (id size : Int) (K : RK) : gMayRegs N M MA id size K =
 ((2 = 2) ∧
 ((2 = 2) ∧
 (M.own [(.int .i64 id), (.int .i64 size)] (fun b0 =>
 K (.bool b0) [(some (AObj.cells [(.int .i64 id), (.int .i64 size)] 44 2 false true)), (some (AObj.cells [(.int .i64 id), (.int .i64 size)] 3 1 false true))])))) := by kernel_rfl
def gRMayRegs (N : Nd) (M : Mi) (id size : Int) (K : RK) : Prop := wpe Tryz.prog N (WIn 100 M) 300 (.call 44 [.agg ⟨[.int .i64 id, .int .i64 size]⟩] h0) (retQ 100 K)
set_option maxRecDepth 100000
theorem gRMayRegs_eq (N : Nd) (M : Mi) (id size : Int) (K : RK) : gRMayRegs N M id size K =
 ((2 = 2) ∧
 ((2 = 2) ∧
 (M.own [(.int .i64 id), (.int .i64 size)] (fun b0 =>
 K (.bool b0) [(some (AObj.cells [(.int .i64 id), (.int .i64 size)] 44 2 false true)), (some (AObj.cells [(.int .i64 id), (.int .i64 size)] 3 1 false true))])))) := by kernel_rfl
end
end Go.Proofs.YtblbaohcelldpaaGreat.Ob
