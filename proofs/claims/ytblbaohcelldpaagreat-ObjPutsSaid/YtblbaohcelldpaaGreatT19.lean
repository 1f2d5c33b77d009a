/- The reference's objects as bytes: what the code asks. -/
import Derived.Test.YtblbaohcelldpaaGreatT17
namespace Go.Proofs.YtblbaohcelldpaaGreat.Ob
open Go Go.Abs Go.Tlv
set_option linter.unusedVariables false
noncomputable section
def sLoopA (L : LLt) : LpS := lpS [1, 4, 5] fun c n vals obs K => match vals with
  | bx :: l :: _ => L c n vals obs (fun k ob => K (.exit 0) [bx, l, mkS (100 + obs.length) k] (obs ++ [ob]))
  | _ => False
def puR (M : Mr) (MB : MBt) (f : Nat) : PuL := [(f, sB MB), (101, sRNumT M), (106, sRText M), (130, sREnc M)]
def gRPutNode (N : Nd) (M : Mr) (MB : MBt) (MS : MSt) (L : LLt) (id size : Int) (lo lw : Int) (lu so sw : Int) (arms : List Value) (ot : Int) (K : RK) : Prop := wpe Tryz.prog N (howOf sy1 Sp0 [(129, sListS MS)] [(14, (71, ([1, 4, 5, 6], sLoopA L)))] (puR M MB 37) []) 300 (.call 45 [.agg ⟨(kNode id size lo lw lu so sw arms ot)⟩] h0) (retQ 100 K)
def gRPutNodeR (N : Nd) (M : Mr) (MF : PSt) (id size : Int) (lo lw : Int) (lu so sw : Int) (arms : List Value) (ot : Int) (rs : List Value) (k : Nat) (ob : Option AObj) (i : Int) (back : Bk) (out : Ot) : Prop :=
  wpe Tryz.prog N (howOf sy1 Sp0 [] [] [(102, sF MF)] []) 300 (.code false (loopIn Tryz.prog 45 14) (stOf 100 71 [1, 4, 5, 6] [] ([pX, dsl rs, mkS 101 k, .int .i64 i], [some (.cells (kNode id size lo lw lu so sw arms ot) 27 9 false true), ob]))) (roundQ 100 [1, 4, 5, 6] [1, 4, 5] 71 [] back out)
set_option maxRecDepth 100000
theorem gRPutNode_eq (N : Nd) (M : Mr) (MB : MBt) (MS : MSt) (L : LLt) (id size : Int) (lo lw : Int) (lu so sw : Int) (arms : List Value) (ot : Int) (K : RK) : gRPutNode N M MB MS L id size lo lw lu so sw arms ot K =
 (MB (.agg (Array.mk (kNode id size lo lw lu so sw arms ot))) (fun b0 =>
 branch b0
 (N.conv 3 23 .i64 id .u64 (fun z1 =>
 M.nu [] (1 : Int) z1 (fun l2 =>
 N.conv 3 23 .i64 size .u64 (fun z3 =>
 M.nu l2 (2 : Int) z3 (fun l4 =>
 N.conv 3 23 .i64 lo .u64 (fun z5 =>
 M.nu l4 (3 : Int) z5 (fun l6 =>
 N.conv 3 23 .i64 lw .u64 (fun z7 =>
 M.nu l6 (4 : Int) z7 (fun l8 =>
 N.conv 3 23 .i64 lu .u64 (fun z9 =>
 M.nu l8 (5 : Int) z9 (fun l10 =>
 N.conv 3 23 .i64 so .u64 (fun z11 =>
 M.nu l10 (6 : Int) z11 (fun l12 =>
 N.conv 3 23 .i64 sw .u64 (fun z13 =>
 M.nu l12 (7 : Int) z13 (fun l14 =>
 N.conv 3 23 .i64 ot .u64 (fun z15 =>
 M.nu l14 (8 : Int) z15 (fun l16 =>
 L (loopIn Tryz.prog 45 14) 71 [(.pointer (some ⟨100, 0, none⟩)), (dsl l16), (.slice none 0 0), (.int .i64 (0 : Int))] [(some (AObj.cells (kNode id size lo lw lu so sw arms ot) 27 9 false true))] (fun o17 l18 =>
 (o17 = o17) ∧
 (MS o17 l18 (fun s19 z20 =>
 M.tx l16 (9 : Int) s19 (fun l21 =>
 M.en l21 (fun s22 z23 =>
 K (.tuple (Array.mk [(.string s22), (.int .i64 (0 : Int))])) [(some (AObj.cells (kNode id size lo lw lu so sw arms ot) 27 9 false true)), l18]))))))))))))))))))))))
 (K (.tuple (Array.mk [(.string (bytesOf [])), (.int .i64 (3 : Int))])) [(some (AObj.cells (kNode id size lo lw lu so sw arms ot) 27 9 false true))]))) := by kernel_rfl
theorem gRPutNodeR_eq (N : Nd) (M : Mr) (MF : PSt) (id size : Int) (lo lw : Int) (lu so sw : Int) (arms : List Value) (ot : Int) (rs : List Value) (k : Nat) (ob : Option AObj) (i : Int) (back : Bk) (out : Ot) : gRPutNodeR N M MF id size lo lw lu so sw arms ot rs k ob i back out =
 (N.dlen arms (fun o0 =>
 N.cmp .lss .i64 i .i64 (Int.ofNat o0) (N.dget arms i 2 (fun l1 =>
 N.rdI .u32 l1 0 (fun z2 =>
 N.rdI .i64 l1 1 (fun z3 =>
 MF (.agg (Array.mk [(.int .u32 z2), (.int .i64 z3)])) (fun s4 =>
 N.base true k k ob 9 1 (fun l5 =>
 N.appX k l5 1 [(.string s4)] 1 16 (fun l6 o7 =>
 N.ari .add .i64 i .i64 (1 : Int) (fun z8 =>
 nD ∧
 (back [(.pointer (some ⟨100, 0, none⟩)), (dsl rs), (.slice (some ⟨103, 0, none⟩) o7 o7), (.int .i64 z8)] [(some (AObj.cells (kNode id size lo lw lu so sw arms ot) 27 9 false true)), none, (some (AObj.cells [(.string s4)] 9 1 false true)), (some (AObj.cells l6 9 1 true true))]))))))))) (nD ∧
 (out (Exit.exit 0) [(.pointer (some ⟨100, 0, none⟩)), (dsl rs), (.iface 1000000021 (.slice (some ⟨101, 0, none⟩) k k))] [(some (AObj.cells (kNode id size lo lw lu so sw arms ot) 27 9 false true)), ob])))) := by kernel_rfl
def gRPutField (N : Nd) (M : Mr) (MB : MBt) (id base : Int) (node off wid : Int) (K : RK) : Prop := wpe Tryz.prog N (howOf S0 Sp0 [] [] (puR M MB 38) []) 300 (.call 46 [.agg ⟨(kField id base node off wid)⟩] h0) (retQ 100 K)
set_option maxRecDepth 100000
theorem gRPutField_eq (N : Nd) (M : Mr) (MB : MBt) (id base : Int) (node off wid : Int) (K : RK) : gRPutField N M MB id base node off wid K =
 (MB (.agg (Array.mk (kField id base node off wid))) (fun b0 =>
 branch b0
 (N.conv 3 23 .i64 id .u64 (fun z1 =>
 M.nu [] (1 : Int) z1 (fun l2 =>
 N.conv 5 23 .u8 base .u64 (fun z3 =>
 M.nu l2 (2 : Int) z3 (fun l4 =>
 N.conv 3 23 .i64 node .u64 (fun z5 =>
 M.nu l4 (3 : Int) z5 (fun l6 =>
 N.conv 3 23 .i64 off .u64 (fun z7 =>
 M.nu l6 (4 : Int) z7 (fun l8 =>
 N.conv 3 23 .i64 wid .u64 (fun z9 =>
 M.nu l8 (5 : Int) z9 (fun l10 =>
 M.en l10 (fun s11 z12 =>
 K (.tuple (Array.mk [(.string s11), (.int .i64 (0 : Int))])) [(some (AObj.cells (kField id base node off wid) 29 5 false true))]))))))))))))
 (K (.tuple (Array.mk [(.string (bytesOf [])), (.int .i64 (3 : Int))])) [(some (AObj.cells (kField id base node off wid) 29 5 false true))]))) := by kernel_rfl
def gRPutTable (N : Nd) (M : Mr) (MB : MBt) (MS : MSt) (L : LLt) (id kind : Int) (keys : List Value) (cap miss : Int) (K : RK) : Prop := wpe Tryz.prog N (howOf sy1 Sp0 [(129, sListS MS)] [(8, (52, ([1, 4, 5, 6], sLoopA L)))] (puR M MB 39) []) 300 (.call 47 [.agg ⟨(kTable id kind keys cap miss)⟩] h0) (retQ 100 K)
def gRPutTableR (N : Nd) (M : Mr) (MF : PSt) (id kind : Int) (keys : List Value) (cap miss : Int) (rs : List Value) (k : Nat) (ob : Option AObj) (i : Int) (back : Bk) (out : Ot) : Prop :=
  wpe Tryz.prog N (howOf sy1 Sp0 [] [] [(105, sRNb M)] []) 300 (.code false (loopIn Tryz.prog 47 8) (stOf 100 52 [1, 4, 5, 6] [] ([pX, dsl rs, mkS 101 k, .int .i64 i], [some (.cells (kTable id kind keys cap miss) 32 5 false true), ob]))) (roundQ 100 [1, 4, 5, 6] [1, 4, 5] 52 [] back out)
set_option maxRecDepth 100000
theorem gRPutTable_eq (N : Nd) (M : Mr) (MB : MBt) (MS : MSt) (L : LLt) (id kind : Int) (keys : List Value) (cap miss : Int) (K : RK) : gRPutTable N M MB MS L id kind keys cap miss K =
 (MB (.agg (Array.mk (kTable id kind keys cap miss))) (fun b0 =>
 branch b0
 (N.conv 3 23 .i64 id .u64 (fun z1 =>
 M.nu [] (1 : Int) z1 (fun l2 =>
 N.conv 5 23 .u8 kind .u64 (fun z3 =>
 M.nu l2 (2 : Int) z3 (fun l4 =>
 L (loopIn Tryz.prog 47 8) 52 [(.pointer (some ⟨100, 0, none⟩)), (dsl l4), (.slice none 0 0), (.int .i64 (0 : Int))] [(some (AObj.cells (kTable id kind keys cap miss) 32 5 false true))] (fun o5 l6 =>
 (o5 = o5) ∧
 (MS o5 l6 (fun s7 z8 =>
 M.tx l4 (3 : Int) s7 (fun l9 =>
 N.conv 3 23 .i64 cap .u64 (fun z10 =>
 M.nu l9 (4 : Int) z10 (fun l11 =>
 N.conv 3 23 .i64 miss .u64 (fun z12 =>
 M.nu l11 (5 : Int) z12 (fun l13 =>
 M.en l13 (fun s14 z15 =>
 K (.tuple (Array.mk [(.string s14), (.int .i64 (0 : Int))])) [(some (AObj.cells (kTable id kind keys cap miss) 32 5 false true)), l6]))))))))))))))
 (K (.tuple (Array.mk [(.string (bytesOf [])), (.int .i64 (3 : Int))])) [(some (AObj.cells (kTable id kind keys cap miss) 32 5 false true))]))) := by kernel_rfl
theorem gRPutTableR_eq (N : Nd) (M : Mr) (MF : PSt) (id kind : Int) (keys : List Value) (cap miss : Int) (rs : List Value) (k : Nat) (ob : Option AObj) (i : Int) (back : Bk) (out : Ot) : gRPutTableR N M MF id kind keys cap miss rs k ob i back out =
 (N.dlen keys (fun o0 =>
 N.cmp .lss .i64 i .i64 (Int.ofNat o0) (N.dget keys i 1 (fun l1 =>
 N.rdI .i64 l1 0 (fun z2 =>
 N.conv 3 23 .i64 z2 .u64 (fun z3 =>
 M.nb z3 (fun s4 =>
 N.base true k k ob 9 1 (fun l5 =>
 N.appX k l5 1 [(.string s4)] 1 16 (fun l6 o7 =>
 N.ari .add .i64 i .i64 (1 : Int) (fun z8 =>
 nD ∧
 (back [(.pointer (some ⟨100, 0, none⟩)), (dsl rs), (.slice (some ⟨103, 0, none⟩) o7 o7), (.int .i64 z8)] [(some (AObj.cells (kTable id kind keys cap miss) 32 5 false true)), none, (some (AObj.cells [(.string s4)] 9 1 false true)), (some (AObj.cells l6 9 1 true true))]))))))))) (nD ∧
 (out (Exit.exit 0) [(.pointer (some ⟨100, 0, none⟩)), (dsl rs), (.iface 1000000021 (.slice (some ⟨101, 0, none⟩) k k))] [(some (AObj.cells (kTable id kind keys cap miss) 32 5 false true)), ob])))) := by kernel_rfl
def gRPutEntry (N : Nd) (M : Mr) (MB : MBt) (MS : MSt) (L : LLt) (tab : Int) (key oth : ByteArray) (len prio blk : Int) (args : List Value) (idle hard cook : Int) (tell : Bool) (K : RK) : Prop := wpe Tryz.prog N (howOf sy1 Sp0 [(129, sListS MS)] [(12, (77, ([1, 4, 5, 6], sLoopA L)))] (puR M MB 40) []) 300 (.call 48 [.agg ⟨(kEntry tab key oth len prio blk args idle hard cook tell)⟩] h0) (retQ 100 K)
def gRPutEntryR (N : Nd) (M : Mr) (MF : PSt) (tab : Int) (key oth : ByteArray) (len prio blk : Int) (args : List Value) (idle hard cook : Int) (tell : Bool) (rs : List Value) (k : Nat) (ob : Option AObj) (i : Int) (back : Bk) (out : Ot) : Prop :=
  wpe Tryz.prog N (howOf sy1 Sp0 [] [] [(105, sRNb M)] []) 300 (.code false (loopIn Tryz.prog 48 12) (stOf 100 77 [1, 4, 5, 6] [] ([pX, dsl rs, mkS 101 k, .int .i64 i], [some (.cells (kEntry tab key oth len prio blk args idle hard cook tell) 34 11 false true), ob]))) (roundQ 100 [1, 4, 5, 6] [1, 4, 5] 77 [] back out)
set_option maxRecDepth 100000
theorem gRPutEntry_eq (N : Nd) (M : Mr) (MB : MBt) (MS : MSt) (L : LLt) (tab : Int) (key oth : ByteArray) (len prio blk : Int) (args : List Value) (idle hard cook : Int) (tell : Bool) (K : RK) : gRPutEntry N M MB MS L tab key oth len prio blk args idle hard cook tell K =
 (MB (.agg (Array.mk (kEntry tab key oth len prio blk args idle hard cook tell))) (fun b0 =>
 branch b0
 (N.conv 3 23 .i64 tab .u64 (fun z1 =>
 M.nu [] (1 : Int) z1 (fun l2 =>
 M.tx l2 (2 : Int) key (fun l3 =>
 M.tx l3 (3 : Int) oth (fun l4 =>
 N.conv 3 23 .i64 len .u64 (fun z5 =>
 M.nu l4 (4 : Int) z5 (fun l6 =>
 N.conv 3 23 .i64 prio .u64 (fun z7 =>
 M.nu l6 (5 : Int) z7 (fun l8 =>
 N.conv 3 23 .i64 blk .u64 (fun z9 =>
 M.nu l8 (6 : Int) z9 (fun l10 =>
 L (loopIn Tryz.prog 48 12) 77 [(.pointer (some ⟨100, 0, none⟩)), (dsl l10), (.slice none 0 0), (.int .i64 (0 : Int))] [(some (AObj.cells (kEntry tab key oth len prio blk args idle hard cook tell) 34 11 false true))] (fun o11 l12 =>
 (o11 = o11) ∧
 (MS o11 l12 (fun s13 z14 =>
 M.tx l10 (7 : Int) s13 (fun l15 =>
 N.conv 2 23 .i64 idle .u64 (fun z16 =>
 M.nu l15 (8 : Int) z16 (fun l17 =>
 N.conv 2 23 .i64 hard .u64 (fun z18 =>
 M.nu l17 (9 : Int) z18 (fun l19 =>
 M.nu l19 (10 : Int) cook (fun l20 =>
 branch tell
 (M.nu l20 (11 : Int) (1 : Int) (fun l21 =>
 M.en l21 (fun s22 z23 =>
 K (.tuple (Array.mk [(.string s22), (.int .i64 (0 : Int))])) [(some (AObj.cells (kEntry tab key oth len prio blk args idle hard cook tell) 34 11 false true)), l12])))
 (M.en l20 (fun s21 z22 =>
 K (.tuple (Array.mk [(.string s21), (.int .i64 (0 : Int))])) [(some (AObj.cells (kEntry tab key oth len prio blk args idle hard cook tell) 34 11 false true)), l12]))))))))))))))))))))))
 (K (.tuple (Array.mk [(.string (bytesOf [])), (.int .i64 (3 : Int))])) [(some (AObj.cells (kEntry tab key oth len prio blk args idle hard cook tell) 34 11 false true))]))) := by kernel_rfl
theorem gRPutEntryR_eq (N : Nd) (M : Mr) (MF : PSt) (tab : Int) (key oth : ByteArray) (len prio blk : Int) (args : List Value) (idle hard cook : Int) (tell : Bool) (rs : List Value) (k : Nat) (ob : Option AObj) (i : Int) (back : Bk) (out : Ot) : gRPutEntryR N M MF tab key oth len prio blk args idle hard cook tell rs k ob i back out =
 (N.dlen args (fun o0 =>
 N.cmp .lss .i64 i .i64 (Int.ofNat o0) (N.dget args i 1 (fun l1 =>
 N.rdI .u64 l1 0 (fun z2 =>
 M.nb z2 (fun s3 =>
 N.base true k k ob 9 1 (fun l4 =>
 N.appX k l4 1 [(.string s3)] 1 16 (fun l5 o6 =>
 N.ari .add .i64 i .i64 (1 : Int) (fun z7 =>
 nD ∧
 (back [(.pointer (some ⟨100, 0, none⟩)), (dsl rs), (.slice (some ⟨103, 0, none⟩) o6 o6), (.int .i64 z7)] [(some (AObj.cells (kEntry tab key oth len prio blk args idle hard cook tell) 34 11 false true)), none, (some (AObj.cells [(.string s3)] 9 1 false true)), (some (AObj.cells l5 9 1 true true))])))))))) (nD ∧
 (out (Exit.exit 0) [(.pointer (some ⟨100, 0, none⟩)), (dsl rs), (.iface 1000000021 (.slice (some ⟨101, 0, none⟩) k k))] [(some (AObj.cells (kEntry tab key oth len prio blk args idle hard cook tell) 34 11 false true)), ob])))) := by kernel_rfl
def gRPutBlock (N : Nd) (M : Mr) (MB : MBt) (MS : MSt) (L : LLt) (id : Int) (code : List Value) (K : RK) : Prop := wpe Tryz.prog N (howOf sy1 Sp0 [(129, sListS MS)] [(7, (36, ([1, 4, 5, 6], sLoopA L)))] (puR M MB 41) []) 300 (.call 49 [.agg ⟨[.int .i64 id, dsl code]⟩] h0) (retQ 100 K)
def gRPutBlockR (N : Nd) (M : Mr) (MF : PSt) (id : Int) (code rs : List Value) (k : Nat) (ob : Option AObj) (i : Int) (back : Bk) (out : Ot) : Prop :=
  wpe Tryz.prog N (howOf sy1 Sp0 [] [] [(107, sF MF)] []) 300 (.code false (loopIn Tryz.prog 49 7) (stOf 100 36 [1, 4, 5, 6] [] ([pX, dsl rs, mkS 101 k, .int .i64 i], [some (.cells [.int .i64 id, dsl code] 37 2 false true), ob]))) (roundQ 100 [1, 4, 5, 6] [1, 4, 5] 36 [] back out)
set_option maxRecDepth 100000
theorem gRPutBlock_eq (N : Nd) (M : Mr) (MB : MBt) (MS : MSt) (L : LLt) (id : Int) (code : List Value) (K : RK) : gRPutBlock N M MB MS L id code K =
 (MB (.agg (Array.mk [(.int .i64 id), (dsl code)])) (fun b0 =>
 branch b0
 (N.conv 3 23 .i64 id .u64 (fun z1 =>
 M.nu [] (1 : Int) z1 (fun l2 =>
 L (loopIn Tryz.prog 49 7) 36 [(.pointer (some ⟨100, 0, none⟩)), (dsl l2), (.slice none 0 0), (.int .i64 (0 : Int))] [(some (AObj.cells [(.int .i64 id), (dsl code)] 37 2 false true))] (fun o3 l4 =>
 (o3 = o3) ∧
 (MS o3 l4 (fun s5 z6 =>
 M.tx l2 (2 : Int) s5 (fun l7 =>
 M.en l7 (fun s8 z9 =>
 K (.tuple (Array.mk [(.string s8), (.int .i64 (0 : Int))])) [(some (AObj.cells [(.int .i64 id), (dsl code)] 37 2 false true)), l4]))))))))
 (K (.tuple (Array.mk [(.string (bytesOf [])), (.int .i64 (3 : Int))])) [(some (AObj.cells [(.int .i64 id), (dsl code)] 37 2 false true))]))) := by kernel_rfl
theorem gRPutBlockR_eq (N : Nd) (M : Mr) (MF : PSt) (id : Int) (code rs : List Value) (k : Nat) (ob : Option AObj) (i : Int) (back : Bk) (out : Ot) : gRPutBlockR N M MF id code rs k ob i back out =
 (N.dlen code (fun o0 =>
 N.cmp .lss .i64 i .i64 (Int.ofNat o0) (N.dget code i 7 (fun l1 =>
 N.rdI .u8 l1 0 (fun z2 =>
 N.rdI .i64 l1 1 (fun z3 =>
 N.rdI .u8 l1 2 (fun z4 =>
 N.rdI .u64 l1 3 (fun z5 =>
 N.rdI .u8 l1 4 (fun z6 =>
 N.rdI .u64 l1 5 (fun z7 =>
 N.rdI .i64 l1 6 (fun z8 =>
 MF (.agg (Array.mk (kInstr z2 z3 z4 z5 z6 z7 z8))) (fun s9 =>
 N.base true k k ob 9 1 (fun l10 =>
 N.appX k l10 1 [(.string s9)] 1 16 (fun l11 o12 =>
 N.ari .add .i64 i .i64 (1 : Int) (fun z13 =>
 nD ∧
 (back [(.pointer (some ⟨100, 0, none⟩)), (dsl rs), (.slice (some ⟨103, 0, none⟩) o12 o12), (.int .i64 z13)] [(some (AObj.cells [(.int .i64 id), (dsl code)] 37 2 false true)), none, (some (AObj.cells [(.string s9)] 9 1 false true)), (some (AObj.cells l11 9 1 true true))])))))))))))))) (nD ∧
 (out (Exit.exit 0) [(.pointer (some ⟨100, 0, none⟩)), (dsl rs), (.iface 1000000021 (.slice (some ⟨101, 0, none⟩) k k))] [(some (AObj.cells [(.int .i64 id), (dsl code)] 37 2 false true)), ob])))) := by kernel_rfl
def gRPutGroup (N : Nd) (M : Mr) (MB : MBt) (MS : MSt) (L : LLt) (id kind fld : Int) (bks : List Value) (K : RK) : Prop := wpe Tryz.prog N (howOf sy1 Sp0 [(129, sListS MS)] [(9, (46, ([1, 4, 5, 6], sLoopA L)))] (puR M MB 42) []) 300 (.call 50 [.agg ⟨(kGroup id kind fld bks)⟩] h0) (retQ 100 K)
def gRPutGroupR (N : Nd) (M : Mr) (MF : PSt) (id kind fld : Int) (bks rs : List Value) (k : Nat) (ob : Option AObj) (i : Int) (back : Bk) (out : Ot) : Prop :=
  wpe Tryz.prog N (howOf sy1 Sp0 [] [] [(108, sF MF)] []) 300 (.code false (loopIn Tryz.prog 50 9) (stOf 100 46 [1, 4, 5, 6] [] ([pX, dsl rs, mkS 101 k, .int .i64 i], [some (.cells (kGroup id kind fld bks) 40 4 false true), ob]))) (roundQ 100 [1, 4, 5, 6] [1, 4, 5] 46 [] back out)
set_option maxRecDepth 100000
theorem gRPutGroup_eq (N : Nd) (M : Mr) (MB : MBt) (MS : MSt) (L : LLt) (id kind fld : Int) (bks : List Value) (K : RK) : gRPutGroup N M MB MS L id kind fld bks K =
 (MB (.agg (Array.mk (kGroup id kind fld bks))) (fun b0 =>
 branch b0
 (N.conv 3 23 .i64 id .u64 (fun z1 =>
 M.nu [] (1 : Int) z1 (fun l2 =>
 N.conv 5 23 .u8 kind .u64 (fun z3 =>
 M.nu l2 (2 : Int) z3 (fun l4 =>
 N.conv 3 23 .i64 fld .u64 (fun z5 =>
 M.nu l4 (3 : Int) z5 (fun l6 =>
 L (loopIn Tryz.prog 50 9) 46 [(.pointer (some ⟨100, 0, none⟩)), (dsl l6), (.slice none 0 0), (.int .i64 (0 : Int))] [(some (AObj.cells (kGroup id kind fld bks) 40 4 false true))] (fun o7 l8 =>
 (o7 = o7) ∧
 (MS o7 l8 (fun s9 z10 =>
 M.tx l6 (4 : Int) s9 (fun l11 =>
 M.en l11 (fun s12 z13 =>
 K (.tuple (Array.mk [(.string s12), (.int .i64 (0 : Int))])) [(some (AObj.cells (kGroup id kind fld bks) 40 4 false true)), l8]))))))))))))
 (K (.tuple (Array.mk [(.string (bytesOf [])), (.int .i64 (3 : Int))])) [(some (AObj.cells (kGroup id kind fld bks) 40 4 false true))]))) := by kernel_rfl
theorem gRPutGroupR_eq (N : Nd) (M : Mr) (MF : PSt) (id kind fld : Int) (bks rs : List Value) (k : Nat) (ob : Option AObj) (i : Int) (back : Bk) (out : Ot) : gRPutGroupR N M MF id kind fld bks rs k ob i back out =
 (N.dlen bks (fun o0 =>
 N.cmp .lss .i64 i .i64 (Int.ofNat o0) (N.dget bks i 2 (fun l1 =>
 N.rdI .u64 l1 0 (fun z2 =>
 N.rdI .i64 l1 1 (fun z3 =>
 MF (.agg (Array.mk [(.int .u64 z2), (.int .i64 z3)])) (fun s4 =>
 N.base true k k ob 9 1 (fun l5 =>
 N.appX k l5 1 [(.string s4)] 1 16 (fun l6 o7 =>
 N.ari .add .i64 i .i64 (1 : Int) (fun z8 =>
 nD ∧
 (back [(.pointer (some ⟨100, 0, none⟩)), (dsl rs), (.slice (some ⟨103, 0, none⟩) o7 o7), (.int .i64 z8)] [(some (AObj.cells (kGroup id kind fld bks) 40 4 false true)), none, (some (AObj.cells [(.string s4)] 9 1 false true)), (some (AObj.cells l6 9 1 true true))]))))))))) (nD ∧
 (out (Exit.exit 0) [(.pointer (some ⟨100, 0, none⟩)), (dsl rs), (.iface 1000000021 (.slice (some ⟨101, 0, none⟩) k k))] [(some (AObj.cells (kGroup id kind fld bks) 40 4 false true)), ob])))) := by kernel_rfl
def gRPutMeter (N : Nd) (M : Mr) (MB : MBt) (id rate burst : Int) (K : RK) : Prop := wpe Tryz.prog N (howOf S0 Sp0 [] [] (puR M MB 43) []) 300 (.call 51 [.agg ⟨[.int .i64 id, .int .i64 rate, .int .i64 burst]⟩] h0) (retQ 100 K)
set_option maxRecDepth 100000
theorem gRPutMeter_eq (N : Nd) (M : Mr) (MB : MBt) (id rate burst : Int) (K : RK) : gRPutMeter N M MB id rate burst K =
 (MB (.agg (Array.mk [(.int .i64 id), (.int .i64 rate), (.int .i64 burst)])) (fun b0 =>
 branch b0
 (N.conv 3 23 .i64 id .u64 (fun z1 =>
 M.nu [] (1 : Int) z1 (fun l2 =>
 N.conv 2 23 .i64 rate .u64 (fun z3 =>
 M.nu l2 (2 : Int) z3 (fun l4 =>
 N.conv 2 23 .i64 burst .u64 (fun z5 =>
 M.nu l4 (3 : Int) z5 (fun l6 =>
 M.en l6 (fun s7 z8 =>
 K (.tuple (Array.mk [(.string s7), (.int .i64 (0 : Int))])) [(some (AObj.cells [(.int .i64 id), (.int .i64 rate), (.int .i64 burst)] 42 3 false true))]))))))))
 (K (.tuple (Array.mk [(.string (bytesOf [])), (.int .i64 (3 : Int))])) [(some (AObj.cells [(.int .i64 id), (.int .i64 rate), (.int .i64 burst)] 42 3 false true))]))) := by kernel_rfl
def gRPutRegs (N : Nd) (M : Mr) (MB : MBt) (id size : Int) (K : RK) : Prop := wpe Tryz.prog N (howOf S0 Sp0 [] [] (puR M MB 44) []) 300 (.call 52 [.agg ⟨[.int .i64 id, .int .i64 size]⟩] h0) (retQ 100 K)
set_option maxRecDepth 100000
theorem gRPutRegs_eq (N : Nd) (M : Mr) (MB : MBt) (id size : Int) (K : RK) : gRPutRegs N M MB id size K =
 (MB (.agg (Array.mk [(.int .i64 id), (.int .i64 size)])) (fun b0 =>
 branch b0
 (N.conv 3 23 .i64 id .u64 (fun z1 =>
 M.nu [] (1 : Int) z1 (fun l2 =>
 N.conv 3 23 .i64 size .u64 (fun z3 =>
 M.nu l2 (2 : Int) z3 (fun l4 =>
 M.en l4 (fun s5 z6 =>
 K (.tuple (Array.mk [(.string s5), (.int .i64 (0 : Int))])) [(some (AObj.cells [(.int .i64 id), (.int .i64 size)] 44 2 false true))]))))))
 (K (.tuple (Array.mk [(.string (bytesOf [])), (.int .i64 (3 : Int))])) [(some (AObj.cells [(.int .i64 id), (.int .i64 size)] 44 2 false true))]))) := by kernel_rfl
end
end Go.Proofs.YtblbaohcelldpaaGreat.Ob
/- The reference's objects as bytes: what the code comes to. -/
namespace Go.Proofs.YtblbaohcelldpaaGreat.Ob
open Go Go.Abs Go.Tlv
set_option linter.unusedVariables false
set_option maxRecDepth 100000
noncomputable section
structure isR (b : Nat) (l : List At) : Prop where
  b : l.length ≤ b
  t : ∀ a ∈ l, a.t < 256
theorem isR0 : isR 0 [] := ⟨Nat.le_refl _, fun a ha => by cases ha⟩
theorem isR.step {b : Nat} {l : List At} (h : isR b l) {k : Nat} (s : ByteArray) (hk : k < 256) : isR (b + 1) (addT l k s) := by
  refine ⟨?_, ?_⟩
  · have := h.b
    unfold addT; split
    · omega
    · simp; omega
  · unfold addT; split
    · exact h.t
    · intro a ha
      rcases List.mem_append.1 ha with ha | ha
      · exact h.t a ha
      · simp only [List.mem_singleton] at ha; subst ha; exact hk
theorem nu_mk (k m : Nat) {b : Nat} {l : List At} {K : List Value → Prop} (h : isR b l) (hb : b < 1000) (hk : k < 256) (hm : m < 18446744073709551616) (hK : isR (b + 1) (addN l k m) → K (rowsA (addN l k m))) : MRr.nu (rowsA l) (k : Int) (m : Int) K :=
  ⟨l, k, m, rfl, rfl, rfl, hm, Nat.lt_of_le_of_lt h.b hb, hK (h.step _ hk)⟩
theorem tx_mk (k : Nat) {s : ByteArray} {b : Nat} {l : List At} {K : List Value → Prop} (h : isR b l) (hb : b < 1000) (hk : k < 256) (hK : isR (b + 1) (addT l k s) → K (rowsA (addT l k s))) : MRr.tx (rowsA l) (k : Int) s K :=
  ⟨l, k, rfl, rfl, Nat.lt_of_le_of_lt h.b hb, hK (h.step _ hk)⟩
theorem en_mk {b : Nat} {l : List At} {K : ByteArray → Int → Prop} (h : isR b l) (hK : K (bytesOf (encS l)) (encE 0 l : Int)) : MRr.en (rowsA l) K := ⟨l, rfl, h.t, hK⟩
theorem knRb : KnOk Tryz.prog 100 (WRb MRr) := kn_pu (pu2 pu101 pu130)
theorem rputArmC (x : Arm) (hw : wfArm x) : Is (gRPutArm (real Tryz.prog) MRr (x.v : Int) x.nx (PQ (.string (oneArm x)))) := by
  refine ⟨?_⟩
  rw [gRPutArm_eq]
  exact n_cv t22 (nu_mk 1 (u64N x.v) isR0 (by decide) (by decide) (u64N_lt _) (fun g0 => n_cv t3 (nu_mk 2 (u64N x.nx) g0 (by decide) (by decide) (u64N_lt _) (fun g1 => en_mk g1 (PQ.of rfl rfl)))))
theorem pu102 : PuOk Tryz.prog 100 102 (sF (MF (fun x : Arm => .agg ⟨cArm x⟩) wfArm oneArm)) := pu_one fun x hw B H =>
  pu_mk okp knRb lp_none rfl rfl (rputArmC x hw) B H
theorem rputInstrC (x : Instr) (hw : wfInstr x) : Is (gRPutInstr (real Tryz.prog) MRr (x.op : Int) x.to (x.ak : Int) (x.an : Int) (x.bk : Int) (x.bn : Int) x.n (PQ (.string (oneInstr x)))) := by
  refine ⟨?_⟩
  rw [gRPutInstr_eq]
  exact n_cv t5 (nu_mk 1 (u64N x.op) isR0 (by decide) (by decide) (u64N_lt _) (fun g0 => n_cv t3 (nu_mk 2 (u64N x.to) g0 (by decide) (by decide) (u64N_lt _) (fun g1 => n_cv t5 (nu_mk 3 (u64N x.ak) g1 (by decide) (by decide) (u64N_lt _) (fun g2 => nu_mk 4 x.an g2 (by decide) (by decide) hw.1 (fun g3 => n_cv t5 (nu_mk 5 (u64N x.bk) g3 (by decide) (by decide) (u64N_lt _) (fun g4 => nu_mk 6 x.bn g4 (by decide) (by decide) hw.2 (fun g5 => n_cv t3 (nu_mk 7 (u64N x.n) g5 (by decide) (by decide) (u64N_lt _) (fun g6 => en_mk g6 (PQ.of rfl rfl)))))))))))))
theorem pu107 : PuOk Tryz.prog 100 107 (sF (MF (fun x : Instr => .agg ⟨cInstr x⟩) wfInstr oneInstr)) := pu_one fun x hw B H =>
  pu_mk okp knRb lp_none rfl rfl (rputInstrC x hw) B H
theorem rputBucketC (x : Bucket) (hw : wfBucket x) : Is (gRPutBucket (real Tryz.prog) MRr (x.w : Int) x.b (PQ (.string (oneBucket x)))) := by
  refine ⟨?_⟩
  rw [gRPutBucket_eq]
  exact nu_mk 1 x.w isR0 (by decide) (by decide) hw (fun g0 => n_cv t3 (nu_mk 2 (u64N x.b) g0 (by decide) (by decide) (u64N_lt _) (fun g1 => en_mk g1 (PQ.of rfl rfl))))
theorem pu108 : PuOk Tryz.prog 100 108 (sF (MF (fun x : Bucket => .agg ⟨cBucket x⟩) wfBucket oneBucket)) := pu_one fun x hw B H =>
  pu_mk okp knRb lp_none rfl rfl (rputBucketC x hw) B H
def ISA {α : Type} (one : α → ByteArray) (ob : AObj) (rs : List Value) (l : List α) (i : {i : Nat // i ≤ l.length}) : List Value × List (Option AObj) :=
  ([pX, dsl rs, mkS 101 (tk one l i.1).length, .int .i64 (i.1 : Int)], [some ob, mo (strV (tk one l i.1)) 9 1])
def RSA {α : Type} (one : α → ByteArray) (ob : AObj) (rs : List Value) (l : List α) (e : Exit) (v : List Value) (o : List (Option AObj)) : Prop :=
  e = .exit 0 ∧ v = [pX, dsl rs, mkS 101 (l.map one).length] ∧ o = [some ob, mo (strV (l.map one)) 9 1]
def LSA {α : Type} (one : α → ByteArray) (f key nt : Nat) (ob : AObj) (l : List α) : LLt := fun code n vals obs A =>
  code = loopIn Tryz.prog f key ∧ n = nt ∧ (∃ rs, vals = [pX, dsl rs, .slice none 0 0, .int .i64 (0 : Int)]) ∧ obs = [some ob] ∧ A (l.map one).length (mo (strV (l.map one)) 9 1)
theorem obs_ok {ob : AObj} (hb : belowO (100 + 1) (some ob) = true) {objs : List (Option AObj)} (h0 : objs[0]? = some (some ob)) :
    ∀ (i : Nat) o, ([some ob] : List (Option AObj))[i]? = some (some o) → objs[i]? = some (some o) ∧ belowO (100 + 1) (some o) = true := by
  intro i o h
  cases i with
  | zero => simp only [List.getElem?_cons_zero, Option.some.injEq] at h; subst h; exact ⟨h0, hb⟩
  | succ i => simp at h
theorem knPR {sy : Sy} {lp : LpL} {MB : MBt} {f : Nat} (h : PuOk Tryz.prog 100 f (sB MB)) : KnOk Tryz.prog 100 (howOf sy Sp0 [(129, sListS MSr)] lp (puR MRr MB f) []) := kn_ok (sum1 ok129) (fun x hx => by
  simp only [puR, List.mem_cons, List.not_mem_nil, or_false] at hx
  rcases hx with rfl | rfl | rfl | rfl
  · exact h
  · exact pu101
  · exact pu106
  · exact pu130)
theorem knPR0 {sy : Sy} {lp : LpL} {MB : MBt} {f : Nat} (h : PuOk Tryz.prog 100 f (sB MB)) : KnOk Tryz.prog 100 (howOf sy Sp0 [] lp (puR MRr MB f) []) := kn_pu (fun x hx => by
  simp only [puR, List.mem_cons, List.not_mem_nil, or_false] at hx
  rcases hx with rfl | rfl | rfl | rfl
  · exact h
  · exact pu101
  · exact pu106
  · exact pu130)
theorem rndPNode (x : ONode) (hw : wfNode x) (hl : x.arms.length < 1000) (rs : List Value) (i : {i : Nat // i ≤ x.arms.length}) :
    Is (wpe Tryz.prog (real Tryz.prog) (howOf sy1 Sp0 [] [] [(102, sF (MF (fun x : Arm => .agg ⟨cArm x⟩) wfArm oneArm))] []) 300 (.code false (loopIn Tryz.prog 45 14) (stOf 100 71 [1, 4, 5, 6] [] (ISA oneArm (obNode x) rs x.arms i))) (roundQ 100 [1, 4, 5, 6] [1, 4, 5] 71 []
      (fun vals objs => ∃ a' : {i : Nat // i ≤ x.arms.length}, x.arms.length - a'.1 < x.arms.length - i.1 ∧ Wk 100 (100 + 1) vals objs (ISA oneArm (obNode x) rs x.arms a').1 (ISA oneArm (obNode x) rs x.arms a').2 ∧ ∀ e v o, RSA oneArm (obNode x) rs x.arms e v o → RSA oneArm (obNode x) rs x.arms e v o)
      (fun e vals objs => ∃ v o, Wk 100 (100 + 1) vals objs v o ∧ RSA oneArm (obNode x) rs x.arms e v o))) := by
  refine ⟨?_⟩
  obtain ⟨i, hi⟩ := i
  show gRPutNodeR (real Tryz.prog) MRr (MF (fun x : Arm => .agg ⟨cArm x⟩) wfArm oneArm) x.id x.size x.lo x.lw x.lu x.so x.sw (rowsOf cArm x.arms) x.ot rs (tk oneArm x.arms i).length (mo (strV (tk oneArm x.arms i)) 9 1) (i : Int) _ _
  rw [gRPutNodeR_eq]
  have hT : tops = 140737488355328 := rfl
  have htk := tk_len oneArm hi
  have hwl : ∀ y ∈ x.arms, wfArm y := (fun _ _ => trivial)
  refine n_dlen x.arms.length (rowsOf_len _ _) (n_ltN (fun hlt => ?_) (fun hge => ?_))
  · have hx : x.arms[i]? = some x.arms[i] := by simp [hlt]
    generalize x.arms[i] = y at hx
    have hwy := hwl y (List.mem_of_getElem? hx)
    have hx2 := tk_succ (one := oneArm) hx
    have hlen := congrArg List.length hx2
    rw [List.length_append, strV_len, strV_len] at hlen
    refine n_dget i rfl (rowsOf_get hx) rfl (n_rdI rfl (n_rdI rfl (⟨y, rfl, hwy, n_base_mo (by rw [strV_len, Nat.mul_one]) (by omega) (n_appX (by omega) rfl rfl (by omega) (by omega) (n_inc (by omega) ⟨rfl, ⟨i + 1, hlt⟩, ?_, ?_, fun _ _ _ h => h⟩))⟩)))
    · show x.arms.length - (i + 1) < x.arms.length - i
      omega
    · show Wk 100 (100 + 1) _ _ ([pX, dsl rs] ++ mkS (100 + 1) (tk oneArm x.arms (i + 1)).length :: _) ([some (obNode x)] ++ [mo (strV (tk oneArm x.arms (i + 1))) 9 1])
      rw [← hx2, mo_ne (by simp), ← hlen]
      exact wk_outG (k0 := 1) (j := 3) (va := [pX, dsl rs]) (by omega) rfl (by rw [hx2]; exact belowStr 0 _) rfl rfl (by simp) rfl (obs_ok rfl rfl)
  · have e : i = x.arms.length := by omega
    subst e
    refine ⟨rfl, [pX, dsl rs, mkS 101 (x.arms.map oneArm).length], [some (obNode x), mo (strV (x.arms.map oneArm)) 9 1], ?_, rfl, rfl, rfl⟩
    rw [tk_all]; exact Wk.refl _ _ _ _
theorem lpPNode (x : ONode) (hw : wfNode x) (hl : x.arms.length < 1000) : LoopOk Tryz.prog 100 [1, 4, 5, 6] (sLoopA (LSA oneArm 45 14 71 (obNode x) x.arms)) := by
  show LoopOk Tryz.prog 100 [1, 4, 5, 6] (lpS [1, 4, 5] _)
  refine lp_mk okp (W := howOf sy1 Sp0 [] [] [(102, sF (MF (fun x : Arm => .agg ⟨cArm x⟩) wfArm oneArm))] []) (kn_pu (pu1 pu102)) lp_none ?_
  intro c n vals obs K h
  split at h <;> try exact h.elim
  obtain ⟨hc, hn, ⟨rs, hv2⟩, ho, hA⟩ := h
  subst hc; subst hn; subst ho
  simp only [List.cons.injEq] at hv2
  obtain ⟨rfl, rfl, rfl⟩ := hv2
  refine ⟨{i : Nat // i ≤ x.arms.length}, 1, 300, fun a => x.arms.length - a.1, ISA oneArm (obNode x) rs x.arms, fun _ e v o => RSA oneArm (obNode x) rs x.arms e v o, ⟨0, Nat.zero_le _⟩, rfl, ?_, ?_, rndPNode x hw hl rs⟩
  · exact wk_nilG (va := [pX, dsl rs])
  · intro e v o hR
    obtain ⟨rfl, rfl, rfl⟩ := hR
    exact hA
theorem rputNodeC (x : ONode) (hf : fitNode x) (hw : wfNode x) (hl : x.arms.length < 1000) : Is (gRPutNode (real Tryz.prog) MRr (MBr vNode fitNode mayNode) MSr (LSA oneArm 45 14 71 (obNode x) x.arms) x.id x.size x.lo x.lw x.lu x.so x.sw (rowsOf cArm x.arms) x.ot (PQ (putV (mayNode x) (attsNode x)))) := by
  refine ⟨?_⟩
  rw [gRPutNode_eq]
  exact ⟨x, rfl, hf, branch_mk (fun hm => n_cv t3 (nu_mk 1 (u64N x.id) isR0 (by decide) (by decide) (u64N_lt _) (fun g0 => n_cv t3 (nu_mk 2 (u64N x.size) g0 (by decide) (by decide) (u64N_lt _) (fun g1 => n_cv t3 (nu_mk 3 (u64N x.lo) g1 (by decide) (by decide) (u64N_lt _) (fun g2 => n_cv t3 (nu_mk 4 (u64N x.lw) g2 (by decide) (by decide) (u64N_lt _) (fun g3 => n_cv t3 (nu_mk 5 (u64N x.lu) g3 (by decide) (by decide) (u64N_lt _) (fun g4 => n_cv t3 (nu_mk 6 (u64N x.so) g4 (by decide) (by decide) (u64N_lt _) (fun g5 => n_cv t3 (nu_mk 7 (u64N x.sw) g5 (by decide) (by decide) (u64N_lt _) (fun g6 => n_cv t3 (nu_mk 8 (u64N x.ot) g6 (by decide) (by decide) (u64N_lt _) (fun g7 => ⟨rfl, rfl, ⟨_, rfl⟩, rfl, rfl, x.arms.map oneArm, by rw [List.length_map]; exact hl, rfl, rfl, tx_mk 9 g7 (by decide) (by decide) (fun g8 => en_mk g8 (PQ.of (by rw [hm]; rfl) (putV_below _ _ _)))⟩))))))))))))))))) (fun hm => PQ.of (by rw [hm]; rfl) (putV_below _ _ _))⟩
theorem rputNodeH (x : ONode) (hf : fitNode x) (hw : wfNode x) (hl : x.arms.length < 1000) (B : Base) (H : Heap) : CallH Tryz.prog 100 B 45 [vNode x] H (.returned (putV (mayNode x) (attsNode x))) H :=
  pu_mk okp (knPR (pu_b rmayNodeH)) (lp1 (lpPNode x hw hl)) rfl (putV_below _ _ _) (rputNodeC x hf hw hl) B H
theorem rputFieldC (x : OField) (hf : fitField x) (hw : wfField x) : Is (gRPutField (real Tryz.prog) MRr (MBr vField fitField mayField) x.id (x.base : Int) x.node x.off x.wid (PQ (putV (mayField x) (attsField x)))) := by
  refine ⟨?_⟩
  rw [gRPutField_eq]
  exact ⟨x, rfl, hf, branch_mk (fun hm => n_cv t3 (nu_mk 1 (u64N x.id) isR0 (by decide) (by decide) (u64N_lt _) (fun g0 => n_cv t5 (nu_mk 2 (u64N x.base) g0 (by decide) (by decide) (u64N_lt _) (fun g1 => n_cv t3 (nu_mk 3 (u64N x.node) g1 (by decide) (by decide) (u64N_lt _) (fun g2 => n_cv t3 (nu_mk 4 (u64N x.off) g2 (by decide) (by decide) (u64N_lt _) (fun g3 => n_cv t3 (nu_mk 5 (u64N x.wid) g3 (by decide) (by decide) (u64N_lt _) (fun g4 => en_mk g4 (PQ.of (by rw [hm]; rfl) (putV_below _ _ _))))))))))))) (fun hm => PQ.of (by rw [hm]; rfl) (putV_below _ _ _))⟩
theorem rputFieldH (x : OField) (hf : fitField x) (hw : wfField x) (B : Base) (H : Heap) : CallH Tryz.prog 100 B 46 [vField x] H (.returned (putV (mayField x) (attsField x))) H :=
  pu_mk okp (knPR0 (pu_b rmayFieldH)) lp_none rfl (putV_below _ _ _) (rputFieldC x hf hw) B H
def obTable (x : OTable) : AObj := .cells [.int .i64 x.id, .int .u8 (x.kind : Int), dsl (rowsOf cInt x.keys), .int .i64 x.cap, .int .i64 x.miss] 32 5 false true
theorem rndPTable (x : OTable) (hw : wfTable x) (hl : x.keys.length < 1000) (rs : List Value) (i : {i : Nat // i ≤ x.keys.length}) :
    Is (wpe Tryz.prog (real Tryz.prog) (howOf sy1 Sp0 [] [] [(105, sRNb MRr)] []) 300 (.code false (loopIn Tryz.prog 47 8) (stOf 100 52 [1, 4, 5, 6] [] (ISA oneInt (obTable x) rs x.keys i))) (roundQ 100 [1, 4, 5, 6] [1, 4, 5] 52 []
      (fun vals objs => ∃ a' : {i : Nat // i ≤ x.keys.length}, x.keys.length - a'.1 < x.keys.length - i.1 ∧ Wk 100 (100 + 1) vals objs (ISA oneInt (obTable x) rs x.keys a').1 (ISA oneInt (obTable x) rs x.keys a').2 ∧ ∀ e v o, RSA oneInt (obTable x) rs x.keys e v o → RSA oneInt (obTable x) rs x.keys e v o)
      (fun e vals objs => ∃ v o, Wk 100 (100 + 1) vals objs v o ∧ RSA oneInt (obTable x) rs x.keys e v o))) := by
  refine ⟨?_⟩
  obtain ⟨i, hi⟩ := i
  show gRPutTableR (real Tryz.prog) MRr (MF (fun n : Int => .int .i64 n) wfInt oneInt) x.id (x.kind : Int) (rowsOf cInt x.keys) x.cap x.miss rs (tk oneInt x.keys i).length (mo (strV (tk oneInt x.keys i)) 9 1) (i : Int) _ _
  rw [gRPutTableR_eq]
  have hT : tops = 140737488355328 := rfl
  have htk := tk_len oneInt hi
  have hwl : ∀ y ∈ x.keys, wfInt y := (fun _ _ => trivial)
  refine n_dlen x.keys.length (rowsOf_len _ _) (n_ltN (fun hlt => ?_) (fun hge => ?_))
  · have hx : x.keys[i]? = some x.keys[i] := by simp [hlt]
    generalize x.keys[i] = y at hx
    have hwy := hwl y (List.mem_of_getElem? hx)
    have hx2 := tk_succ (one := oneInt) hx
    have hlen := congrArg List.length hx2
    rw [List.length_append, strV_len, strV_len] at hlen
    refine n_dget i rfl (rowsOf_get hx) rfl (n_rdI rfl (n_cv t3 ⟨u64N y, rfl, u64N_lt _, n_base_mo (by rw [strV_len, Nat.mul_one]) (by omega) (n_appX (by omega) rfl rfl (by omega) (by omega) (n_inc (by omega) ⟨rfl, ⟨i + 1, hlt⟩, ?_, ?_, fun _ _ _ h => h⟩))⟩))
    · show x.keys.length - (i + 1) < x.keys.length - i
      omega
    · show Wk 100 (100 + 1) _ _ ([pX, dsl rs] ++ mkS (100 + 1) (tk oneInt x.keys (i + 1)).length :: _) ([some (obTable x)] ++ [mo (strV (tk oneInt x.keys (i + 1))) 9 1])
      rw [← hx2, mo_ne (by simp), ← hlen]
      exact wk_outG (k0 := 1) (j := 3) (va := [pX, dsl rs]) (by omega) rfl (by rw [hx2]; exact belowStr 0 _) rfl rfl (by simp) rfl (obs_ok rfl rfl)
  · have e : i = x.keys.length := by omega
    subst e
    refine ⟨rfl, [pX, dsl rs, mkS 101 (x.keys.map oneInt).length], [some (obTable x), mo (strV (x.keys.map oneInt)) 9 1], ?_, rfl, rfl, rfl⟩
    rw [tk_all]; exact Wk.refl _ _ _ _
theorem lpPTable (x : OTable) (hw : wfTable x) (hl : x.keys.length < 1000) : LoopOk Tryz.prog 100 [1, 4, 5, 6] (sLoopA (LSA oneInt 47 8 52 (obTable x) x.keys)) := by
  show LoopOk Tryz.prog 100 [1, 4, 5, 6] (lpS [1, 4, 5] _)
  refine lp_mk okp (W := howOf sy1 Sp0 [] [] [(105, sRNb MRr)] []) (kn_pu (pu1 pu105)) lp_none ?_
  intro c n vals obs K h
  split at h <;> try exact h.elim
  obtain ⟨hc, hn, ⟨rs, hv2⟩, ho, hA⟩ := h
  subst hc; subst hn; subst ho
  simp only [List.cons.injEq] at hv2
  obtain ⟨rfl, rfl, rfl⟩ := hv2
  refine ⟨{i : Nat // i ≤ x.keys.length}, 1, 300, fun a => x.keys.length - a.1, ISA oneInt (obTable x) rs x.keys, fun _ e v o => RSA oneInt (obTable x) rs x.keys e v o, ⟨0, Nat.zero_le _⟩, rfl, ?_, ?_, rndPTable x hw hl rs⟩
  · exact wk_nilG (va := [pX, dsl rs])
  · intro e v o hR
    obtain ⟨rfl, rfl, rfl⟩ := hR
    exact hA
theorem rputTableC (x : OTable) (hf : fitTable x) (hw : wfTable x) (hl : x.keys.length < 1000) : Is (gRPutTable (real Tryz.prog) MRr (MBr vTable fitTable mayTable) MSr (LSA oneInt 47 8 52 (obTable x) x.keys) x.id (x.kind : Int) (rowsOf cInt x.keys) x.cap x.miss (PQ (putV (mayTable x) (attsTable x)))) := by
  refine ⟨?_⟩
  rw [gRPutTable_eq]
  exact ⟨x, rfl, hf, branch_mk (fun hm => n_cv t3 (nu_mk 1 (u64N x.id) isR0 (by decide) (by decide) (u64N_lt _) (fun g0 => n_cv t5 (nu_mk 2 (u64N x.kind) g0 (by decide) (by decide) (u64N_lt _) (fun g1 => ⟨rfl, rfl, ⟨_, rfl⟩, rfl, rfl, x.keys.map oneInt, by rw [List.length_map]; exact hl, rfl, rfl, tx_mk 3 g1 (by decide) (by decide) (fun g2 => n_cv t3 (nu_mk 4 (u64N x.cap) g2 (by decide) (by decide) (u64N_lt _) (fun g3 => n_cv t3 (nu_mk 5 (u64N x.miss) g3 (by decide) (by decide) (u64N_lt _) (fun g4 => en_mk g4 (PQ.of (by rw [hm]; rfl) (putV_below _ _ _)))))))⟩))))) (fun hm => PQ.of (by rw [hm]; rfl) (putV_below _ _ _))⟩
theorem rputTableH (x : OTable) (hf : fitTable x) (hw : wfTable x) (hl : x.keys.length < 1000) (B : Base) (H : Heap) : CallH Tryz.prog 100 B 47 [vTable x] H (.returned (putV (mayTable x) (attsTable x))) H :=
  pu_mk okp (knPR (pu_b rmayTableH)) (lp1 (lpPTable x hw hl)) rfl (putV_below _ _ _) (rputTableC x hf hw hl) B H
def obEntry (x : OEntry) : AObj := .cells [.int .i64 x.tab, .string x.key, .string x.oth, .int .i64 x.len, .int .i64 x.prio, .int .i64 x.blk, dsl (rowsOf cNat x.args), .int .i64 x.idle, .int .i64 x.hard, .int .u64 (x.cook : Int), .bool x.tell] 34 11 false true
theorem rndPEntry (x : OEntry) (hw : wfEntry x) (hl : x.args.length < 1000) (rs : List Value) (i : {i : Nat // i ≤ x.args.length}) :
    Is (wpe Tryz.prog (real Tryz.prog) (howOf sy1 Sp0 [] [] [(105, sRNb MRr)] []) 300 (.code false (loopIn Tryz.prog 48 12) (stOf 100 77 [1, 4, 5, 6] [] (ISA oneNat (obEntry x) rs x.args i))) (roundQ 100 [1, 4, 5, 6] [1, 4, 5] 77 []
      (fun vals objs => ∃ a' : {i : Nat // i ≤ x.args.length}, x.args.length - a'.1 < x.args.length - i.1 ∧ Wk 100 (100 + 1) vals objs (ISA oneNat (obEntry x) rs x.args a').1 (ISA oneNat (obEntry x) rs x.args a').2 ∧ ∀ e v o, RSA oneNat (obEntry x) rs x.args e v o → RSA oneNat (obEntry x) rs x.args e v o)
      (fun e vals objs => ∃ v o, Wk 100 (100 + 1) vals objs v o ∧ RSA oneNat (obEntry x) rs x.args e v o))) := by
  refine ⟨?_⟩
  obtain ⟨i, hi⟩ := i
  show gRPutEntryR (real Tryz.prog) MRr (MF (fun n : Int => .int .i64 n) wfInt oneInt) x.tab x.key x.oth x.len x.prio x.blk (rowsOf cNat x.args) x.idle x.hard (x.cook : Int) x.tell rs (tk oneNat x.args i).length (mo (strV (tk oneNat x.args i)) 9 1) (i : Int) _ _
  rw [gRPutEntryR_eq]
  have hT : tops = 140737488355328 := rfl
  have htk := tk_len oneNat hi
  have hwl : ∀ y ∈ x.args, wfNat y := hw.1
  refine n_dlen x.args.length (rowsOf_len _ _) (n_ltN (fun hlt => ?_) (fun hge => ?_))
  · have hx : x.args[i]? = some x.args[i] := by simp [hlt]
    generalize x.args[i] = y at hx
    have hwy := hwl y (List.mem_of_getElem? hx)
    have hx2 := tk_succ (one := oneNat) hx
    have hlen := congrArg List.length hx2
    rw [List.length_append, strV_len, strV_len] at hlen
    refine n_dget i rfl (rowsOf_get hx) rfl (n_rdI rfl (⟨y, rfl, hwy, n_base_mo (by rw [strV_len, Nat.mul_one]) (by omega) (n_appX (by omega) rfl rfl (by omega) (by omega) (n_inc (by omega) ⟨rfl, ⟨i + 1, hlt⟩, ?_, ?_, fun _ _ _ h => h⟩))⟩))
    · show x.args.length - (i + 1) < x.args.length - i
      omega
    · show Wk 100 (100 + 1) _ _ ([pX, dsl rs] ++ mkS (100 + 1) (tk oneNat x.args (i + 1)).length :: _) ([some (obEntry x)] ++ [mo (strV (tk oneNat x.args (i + 1))) 9 1])
      rw [← hx2, mo_ne (by simp), ← hlen]
      exact wk_outG (k0 := 1) (j := 3) (va := [pX, dsl rs]) (by omega) rfl (by rw [hx2]; exact belowStr 0 _) rfl rfl (by simp) rfl (obs_ok rfl rfl)
  · have e : i = x.args.length := by omega
    subst e
    refine ⟨rfl, [pX, dsl rs, mkS 101 (x.args.map oneNat).length], [some (obEntry x), mo (strV (x.args.map oneNat)) 9 1], ?_, rfl, rfl, rfl⟩
    rw [tk_all]; exact Wk.refl _ _ _ _
theorem lpPEntry (x : OEntry) (hw : wfEntry x) (hl : x.args.length < 1000) : LoopOk Tryz.prog 100 [1, 4, 5, 6] (sLoopA (LSA oneNat 48 12 77 (obEntry x) x.args)) := by
  show LoopOk Tryz.prog 100 [1, 4, 5, 6] (lpS [1, 4, 5] _)
  refine lp_mk okp (W := howOf sy1 Sp0 [] [] [(105, sRNb MRr)] []) (kn_pu (pu1 pu105)) lp_none ?_
  intro c n vals obs K h
  split at h <;> try exact h.elim
  obtain ⟨hc, hn, ⟨rs, hv2⟩, ho, hA⟩ := h
  subst hc; subst hn; subst ho
  simp only [List.cons.injEq] at hv2
  obtain ⟨rfl, rfl, rfl⟩ := hv2
  refine ⟨{i : Nat // i ≤ x.args.length}, 1, 300, fun a => x.args.length - a.1, ISA oneNat (obEntry x) rs x.args, fun _ e v o => RSA oneNat (obEntry x) rs x.args e v o, ⟨0, Nat.zero_le _⟩, rfl, ?_, ?_, rndPEntry x hw hl rs⟩
  · exact wk_nilG (va := [pX, dsl rs])
  · intro e v o hR
    obtain ⟨rfl, rfl, rfl⟩ := hR
    exact hA
theorem rputEntryC (x : OEntry) (hf : fitEntry x) (hw : wfEntry x) (hl : x.args.length < 1000) : Is (gRPutEntry (real Tryz.prog) MRr (MBr vEntry fitEntry mayEntry) MSr (LSA oneNat 48 12 77 (obEntry x) x.args) x.tab x.key x.oth x.len x.prio x.blk (rowsOf cNat x.args) x.idle x.hard (x.cook : Int) x.tell (PQ (putV (mayEntry x) (attsEntry x)))) := by
  refine ⟨?_⟩
  rw [gRPutEntry_eq]
  exact ⟨x, rfl, hf, branch_mk (fun hm => n_cv t3 (nu_mk 1 (u64N x.tab) isR0 (by decide) (by decide) (u64N_lt _) (fun g0 => tx_mk 2 g0 (by decide) (by decide) (fun g1 => tx_mk 3 g1 (by decide) (by decide) (fun g2 => n_cv t3 (nu_mk 4 (u64N x.len) g2 (by decide) (by decide) (u64N_lt _) (fun g3 => n_cv t3 (nu_mk 5 (u64N x.prio) g3 (by decide) (by decide) (u64N_lt _) (fun g4 => n_cv t3 (nu_mk 6 (u64N x.blk) g4 (by decide) (by decide) (u64N_lt _) (fun g5 => ⟨rfl, rfl, ⟨_, rfl⟩, rfl, rfl, x.args.map oneNat, by rw [List.length_map]; exact hl, rfl, rfl, tx_mk 7 g5 (by decide) (by decide) (fun g6 => n_cv t2 (nu_mk 8 (u64N x.idle) g6 (by decide) (by decide) (u64N_lt _) (fun g7 => n_cv t2 (nu_mk 9 (u64N x.hard) g7 (by decide) (by decide) (u64N_lt _) (fun g8 => nu_mk 10 x.cook g8 (by decide) (by decide) hw.2 (fun g9 => branch_mk (fun hb => nu_mk 11 1 g9 (by decide) (by decide) (by decide) (fun g10 => en_mk g10 (PQ.of (by rw [hm]; unfold putV attsEntry; rw [addB_t hb]) (putV_below _ _ _)))) (fun hb => en_mk g9 (PQ.of (by rw [hm]; unfold putV attsEntry; rw [addB_f hb]) (putV_below _ _ _)))))))))⟩))))))))))) (fun hm => PQ.of (by rw [hm]; rfl) (putV_below _ _ _))⟩
theorem rputEntryH (x : OEntry) (hf : fitEntry x) (hw : wfEntry x) (hl : x.args.length < 1000) (B : Base) (H : Heap) : CallH Tryz.prog 100 B 48 [vEntry x] H (.returned (putV (mayEntry x) (attsEntry x))) H :=
  pu_mk okp (knPR (pu_b rmayEntryH)) (lp1 (lpPEntry x hw hl)) rfl (putV_below _ _ _) (rputEntryC x hf hw hl) B H
theorem rndPBlock (x : OBlock) (hw : wfBlock x) (hl : x.code.length < 1000) (rs : List Value) (i : {i : Nat // i ≤ x.code.length}) :
    Is (wpe Tryz.prog (real Tryz.prog) (howOf sy1 Sp0 [] [] [(107, sF (MF (fun x : Instr => .agg ⟨cInstr x⟩) wfInstr oneInstr))] []) 300 (.code false (loopIn Tryz.prog 49 7) (stOf 100 36 [1, 4, 5, 6] [] (ISA oneInstr (obBlock x) rs x.code i))) (roundQ 100 [1, 4, 5, 6] [1, 4, 5] 36 []
      (fun vals objs => ∃ a' : {i : Nat // i ≤ x.code.length}, x.code.length - a'.1 < x.code.length - i.1 ∧ Wk 100 (100 + 1) vals objs (ISA oneInstr (obBlock x) rs x.code a').1 (ISA oneInstr (obBlock x) rs x.code a').2 ∧ ∀ e v o, RSA oneInstr (obBlock x) rs x.code e v o → RSA oneInstr (obBlock x) rs x.code e v o)
      (fun e vals objs => ∃ v o, Wk 100 (100 + 1) vals objs v o ∧ RSA oneInstr (obBlock x) rs x.code e v o))) := by
  refine ⟨?_⟩
  obtain ⟨i, hi⟩ := i
  show gRPutBlockR (real Tryz.prog) MRr (MF (fun x : Instr => .agg ⟨cInstr x⟩) wfInstr oneInstr) x.id (rowsOf cInstr x.code) rs (tk oneInstr x.code i).length (mo (strV (tk oneInstr x.code i)) 9 1) (i : Int) _ _
  rw [gRPutBlockR_eq]
  have hT : tops = 140737488355328 := rfl
  have htk := tk_len oneInstr hi
  have hwl : ∀ y ∈ x.code, wfInstr y := hw
  refine n_dlen x.code.length (rowsOf_len _ _) (n_ltN (fun hlt => ?_) (fun hge => ?_))
  · have hx : x.code[i]? = some x.code[i] := by simp [hlt]
    generalize x.code[i] = y at hx
    have hwy := hwl y (List.mem_of_getElem? hx)
    have hx2 := tk_succ (one := oneInstr) hx
    have hlen := congrArg List.length hx2
    rw [List.length_append, strV_len, strV_len] at hlen
    refine n_dget i rfl (rowsOf_get hx) rfl (n_rdI rfl (n_rdI rfl (n_rdI rfl (n_rdI rfl (n_rdI rfl (n_rdI rfl (n_rdI rfl (⟨y, rfl, hwy, n_base_mo (by rw [strV_len, Nat.mul_one]) (by omega) (n_appX (by omega) rfl rfl (by omega) (by omega) (n_inc (by omega) ⟨rfl, ⟨i + 1, hlt⟩, ?_, ?_, fun _ _ _ h => h⟩))⟩))))))))
    · show x.code.length - (i + 1) < x.code.length - i
      omega
    · show Wk 100 (100 + 1) _ _ ([pX, dsl rs] ++ mkS (100 + 1) (tk oneInstr x.code (i + 1)).length :: _) ([some (obBlock x)] ++ [mo (strV (tk oneInstr x.code (i + 1))) 9 1])
      rw [← hx2, mo_ne (by simp), ← hlen]
      exact wk_outG (k0 := 1) (j := 3) (va := [pX, dsl rs]) (by omega) rfl (by rw [hx2]; exact belowStr 0 _) rfl rfl (by simp) rfl (obs_ok rfl rfl)
  · have e : i = x.code.length := by omega
    subst e
    refine ⟨rfl, [pX, dsl rs, mkS 101 (x.code.map oneInstr).length], [some (obBlock x), mo (strV (x.code.map oneInstr)) 9 1], ?_, rfl, rfl, rfl⟩
    rw [tk_all]; exact Wk.refl _ _ _ _
theorem lpPBlock (x : OBlock) (hw : wfBlock x) (hl : x.code.length < 1000) : LoopOk Tryz.prog 100 [1, 4, 5, 6] (sLoopA (LSA oneInstr 49 7 36 (obBlock x) x.code)) := by
  show LoopOk Tryz.prog 100 [1, 4, 5, 6] (lpS [1, 4, 5] _)
  refine lp_mk okp (W := howOf sy1 Sp0 [] [] [(107, sF (MF (fun x : Instr => .agg ⟨cInstr x⟩) wfInstr oneInstr))] []) (kn_pu (pu1 pu107)) lp_none ?_
  intro c n vals obs K h
  split at h <;> try exact h.elim
  obtain ⟨hc, hn, ⟨rs, hv2⟩, ho, hA⟩ := h
  subst hc; subst hn; subst ho
  simp only [List.cons.injEq] at hv2
  obtain ⟨rfl, rfl, rfl⟩ := hv2
  refine ⟨{i : Nat // i ≤ x.code.length}, 1, 300, fun a => x.code.length - a.1, ISA oneInstr (obBlock x) rs x.code, fun _ e v o => RSA oneInstr (obBlock x) rs x.code e v o, ⟨0, Nat.zero_le _⟩, rfl, ?_, ?_, rndPBlock x hw hl rs⟩
  · exact wk_nilG (va := [pX, dsl rs])
  · intro e v o hR
    obtain ⟨rfl, rfl, rfl⟩ := hR
    exact hA
theorem rputBlockC (x : OBlock) (hf : fitBlock x) (hw : wfBlock x) (hl : x.code.length < 1000) : Is (gRPutBlock (real Tryz.prog) MRr (MBr vBlock fitBlock mayBlock) MSr (LSA oneInstr 49 7 36 (obBlock x) x.code) x.id (rowsOf cInstr x.code) (PQ (putV (mayBlock x) (attsBlock x)))) := by
  refine ⟨?_⟩
  rw [gRPutBlock_eq]
  exact ⟨x, rfl, hf, branch_mk (fun hm => n_cv t3 (nu_mk 1 (u64N x.id) isR0 (by decide) (by decide) (u64N_lt _) (fun g0 => ⟨rfl, rfl, ⟨_, rfl⟩, rfl, rfl, x.code.map oneInstr, by rw [List.length_map]; exact hl, rfl, rfl, tx_mk 2 g0 (by decide) (by decide) (fun g1 => en_mk g1 (PQ.of (by rw [hm]; rfl) (putV_below _ _ _)))⟩))) (fun hm => PQ.of (by rw [hm]; rfl) (putV_below _ _ _))⟩
theorem rputBlockH (x : OBlock) (hf : fitBlock x) (hw : wfBlock x) (hl : x.code.length < 1000) (B : Base) (H : Heap) : CallH Tryz.prog 100 B 49 [vBlock x] H (.returned (putV (mayBlock x) (attsBlock x))) H :=
  pu_mk okp (knPR (pu_b rmayBlockH)) (lp1 (lpPBlock x hw hl)) rfl (putV_below _ _ _) (rputBlockC x hf hw hl) B H
theorem rndPGroup (x : OGroup) (hw : wfGroup x) (hl : x.bks.length < 1000) (rs : List Value) (i : {i : Nat // i ≤ x.bks.length}) :
    Is (wpe Tryz.prog (real Tryz.prog) (howOf sy1 Sp0 [] [] [(108, sF (MF (fun x : Bucket => .agg ⟨cBucket x⟩) wfBucket oneBucket))] []) 300 (.code false (loopIn Tryz.prog 50 9) (stOf 100 46 [1, 4, 5, 6] [] (ISA oneBucket (obGroup x) rs x.bks i))) (roundQ 100 [1, 4, 5, 6] [1, 4, 5] 46 []
      (fun vals objs => ∃ a' : {i : Nat // i ≤ x.bks.length}, x.bks.length - a'.1 < x.bks.length - i.1 ∧ Wk 100 (100 + 1) vals objs (ISA oneBucket (obGroup x) rs x.bks a').1 (ISA oneBucket (obGroup x) rs x.bks a').2 ∧ ∀ e v o, RSA oneBucket (obGroup x) rs x.bks e v o → RSA oneBucket (obGroup x) rs x.bks e v o)
      (fun e vals objs => ∃ v o, Wk 100 (100 + 1) vals objs v o ∧ RSA oneBucket (obGroup x) rs x.bks e v o))) := by
  refine ⟨?_⟩
  obtain ⟨i, hi⟩ := i
  show gRPutGroupR (real Tryz.prog) MRr (MF (fun x : Bucket => .agg ⟨cBucket x⟩) wfBucket oneBucket) x.id (x.kind : Int) x.fld (rowsOf cBucket x.bks) rs (tk oneBucket x.bks i).length (mo (strV (tk oneBucket x.bks i)) 9 1) (i : Int) _ _
  rw [gRPutGroupR_eq]
  have hT : tops = 140737488355328 := rfl
  have htk := tk_len oneBucket hi
  have hwl : ∀ y ∈ x.bks, wfBucket y := hw
  refine n_dlen x.bks.length (rowsOf_len _ _) (n_ltN (fun hlt => ?_) (fun hge => ?_))
  · have hx : x.bks[i]? = some x.bks[i] := by simp [hlt]
    generalize x.bks[i] = y at hx
    have hwy := hwl y (List.mem_of_getElem? hx)
    have hx2 := tk_succ (one := oneBucket) hx
    have hlen := congrArg List.length hx2
    rw [List.length_append, strV_len, strV_len] at hlen
    refine n_dget i rfl (rowsOf_get hx) rfl (n_rdI rfl (n_rdI rfl (⟨y, rfl, hwy, n_base_mo (by rw [strV_len, Nat.mul_one]) (by omega) (n_appX (by omega) rfl rfl (by omega) (by omega) (n_inc (by omega) ⟨rfl, ⟨i + 1, hlt⟩, ?_, ?_, fun _ _ _ h => h⟩))⟩)))
    · show x.bks.length - (i + 1) < x.bks.length - i
      omega
    · show Wk 100 (100 + 1) _ _ ([pX, dsl rs] ++ mkS (100 + 1) (tk oneBucket x.bks (i + 1)).length :: _) ([some (obGroup x)] ++ [mo (strV (tk oneBucket x.bks (i + 1))) 9 1])
      rw [← hx2, mo_ne (by simp), ← hlen]
      exact wk_outG (k0 := 1) (j := 3) (va := [pX, dsl rs]) (by omega) rfl (by rw [hx2]; exact belowStr 0 _) rfl rfl (by simp) rfl (obs_ok rfl rfl)
  · have e : i = x.bks.length := by omega
    subst e
    refine ⟨rfl, [pX, dsl rs, mkS 101 (x.bks.map oneBucket).length], [some (obGroup x), mo (strV (x.bks.map oneBucket)) 9 1], ?_, rfl, rfl, rfl⟩
    rw [tk_all]; exact Wk.refl _ _ _ _
theorem lpPGroup (x : OGroup) (hw : wfGroup x) (hl : x.bks.length < 1000) : LoopOk Tryz.prog 100 [1, 4, 5, 6] (sLoopA (LSA oneBucket 50 9 46 (obGroup x) x.bks)) := by
  show LoopOk Tryz.prog 100 [1, 4, 5, 6] (lpS [1, 4, 5] _)
  refine lp_mk okp (W := howOf sy1 Sp0 [] [] [(108, sF (MF (fun x : Bucket => .agg ⟨cBucket x⟩) wfBucket oneBucket))] []) (kn_pu (pu1 pu108)) lp_none ?_
  intro c n vals obs K h
  split at h <;> try exact h.elim
  obtain ⟨hc, hn, ⟨rs, hv2⟩, ho, hA⟩ := h
  subst hc; subst hn; subst ho
  simp only [List.cons.injEq] at hv2
  obtain ⟨rfl, rfl, rfl⟩ := hv2
  refine ⟨{i : Nat // i ≤ x.bks.length}, 1, 300, fun a => x.bks.length - a.1, ISA oneBucket (obGroup x) rs x.bks, fun _ e v o => RSA oneBucket (obGroup x) rs x.bks e v o, ⟨0, Nat.zero_le _⟩, rfl, ?_, ?_, rndPGroup x hw hl rs⟩
  · exact wk_nilG (va := [pX, dsl rs])
  · intro e v o hR
    obtain ⟨rfl, rfl, rfl⟩ := hR
    exact hA
theorem rputGroupC (x : OGroup) (hf : fitGroup x) (hw : wfGroup x) (hl : x.bks.length < 1000) : Is (gRPutGroup (real Tryz.prog) MRr (MBr vGroup fitGroup mayGroup) MSr (LSA oneBucket 50 9 46 (obGroup x) x.bks) x.id (x.kind : Int) x.fld (rowsOf cBucket x.bks) (PQ (putV (mayGroup x) (attsGroup x)))) := by
  refine ⟨?_⟩
  rw [gRPutGroup_eq]
  exact ⟨x, rfl, hf, branch_mk (fun hm => n_cv t3 (nu_mk 1 (u64N x.id) isR0 (by decide) (by decide) (u64N_lt _) (fun g0 => n_cv t5 (nu_mk 2 (u64N x.kind) g0 (by decide) (by decide) (u64N_lt _) (fun g1 => n_cv t3 (nu_mk 3 (u64N x.fld) g1 (by decide) (by decide) (u64N_lt _) (fun g2 => ⟨rfl, rfl, ⟨_, rfl⟩, rfl, rfl, x.bks.map oneBucket, by rw [List.length_map]; exact hl, rfl, rfl, tx_mk 4 g2 (by decide) (by decide) (fun g3 => en_mk g3 (PQ.of (by rw [hm]; rfl) (putV_below _ _ _)))⟩))))))) (fun hm => PQ.of (by rw [hm]; rfl) (putV_below _ _ _))⟩
theorem rputGroupH (x : OGroup) (hf : fitGroup x) (hw : wfGroup x) (hl : x.bks.length < 1000) (B : Base) (H : Heap) : CallH Tryz.prog 100 B 50 [vGroup x] H (.returned (putV (mayGroup x) (attsGroup x))) H :=
  pu_mk okp (knPR (pu_b rmayGroupH)) (lp1 (lpPGroup x hw hl)) rfl (putV_below _ _ _) (rputGroupC x hf hw hl) B H
theorem rputMeterC (x : OMeter) (hf : fitMeter x) (hw : wfMeter x) : Is (gRPutMeter (real Tryz.prog) MRr (MBr vMeter fitMeter mayMeter) x.id x.rate x.burst (PQ (putV (mayMeter x) (attsMeter x)))) := by
  refine ⟨?_⟩
  rw [gRPutMeter_eq]
  exact ⟨x, rfl, hf, branch_mk (fun hm => n_cv t3 (nu_mk 1 (u64N x.id) isR0 (by decide) (by decide) (u64N_lt _) (fun g0 => n_cv t2 (nu_mk 2 (u64N x.rate) g0 (by decide) (by decide) (u64N_lt _) (fun g1 => n_cv t2 (nu_mk 3 (u64N x.burst) g1 (by decide) (by decide) (u64N_lt _) (fun g2 => en_mk g2 (PQ.of (by rw [hm]; rfl) (putV_below _ _ _))))))))) (fun hm => PQ.of (by rw [hm]; rfl) (putV_below _ _ _))⟩
theorem rputMeterH (x : OMeter) (hf : fitMeter x) (hw : wfMeter x) (B : Base) (H : Heap) : CallH Tryz.prog 100 B 51 [vMeter x] H (.returned (putV (mayMeter x) (attsMeter x))) H :=
  pu_mk okp (knPR0 (pu_b rmayMeterH)) lp_none rfl (putV_below _ _ _) (rputMeterC x hf hw) B H
theorem rputRegsC (x : ORegs) (hf : fitRegs x) (hw : wfRegs x) : Is (gRPutRegs (real Tryz.prog) MRr (MBr vRegs fitRegs mayRegs) x.id x.size (PQ (putV (mayRegs x) (attsRegs x)))) := by
  refine ⟨?_⟩
  rw [gRPutRegs_eq]
  exact ⟨x, rfl, hf, branch_mk (fun hm => n_cv t3 (nu_mk 1 (u64N x.id) isR0 (by decide) (by decide) (u64N_lt _) (fun g0 => n_cv t3 (nu_mk 2 (u64N x.size) g0 (by decide) (by decide) (u64N_lt _) (fun g1 => en_mk g1 (PQ.of (by rw [hm]; rfl) (putV_below _ _ _))))))) (fun hm => PQ.of (by rw [hm]; rfl) (putV_below _ _ _))⟩
theorem rputRegsH (x : ORegs) (hf : fitRegs x) (hw : wfRegs x) (B : Base) (H : Heap) : CallH Tryz.prog 100 B 52 [vRegs x] H (.returned (putV (mayRegs x) (attsRegs x))) H :=
  pu_mk okp (knPR0 (pu_b rmayRegsH)) lp_none rfl (putV_below _ _ _) (rputRegsC x hf hw) B H
end
end Go.Proofs.YtblbaohcelldpaaGreat.Ob
