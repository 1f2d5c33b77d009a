/- Lists as bytes, and in writers: what the code asks. -/
import Derived.Test.YtblbaohcelldpaaGreatT8
namespace Go.Proofs.YtblbaohcelldpaaGreat.Ob
open Go Go.Abs Go.Tlv
set_option linter.unusedVariables false
noncomputable section
def cStr (s : ByteArray) : List Value := [.string s]
def gList (N : Nd) (L : LEt) (rs : List Value) (K : RK) : Prop := wpe Tryz.prog N (howOf sy0 Sp0 [] [(3, (26, ([4, 7, 8, 9], sLoopE L)))] [] []) 300 (.call 125 [dsl rs] h0) (retQ 100 K)
def gListR (N : Nd) (k : Nat) (ob : Option AObj) (rs : List Value) (n i : Int) (back : Bk) (out : Ot) : Prop :=
  wpe Tryz.prog N WS 300 (.code false (loopIn Tryz.prog 125 3) (stOf 100 26 [4, 7, 8, 9] [] ([mkS 100 k, dsl rs, .int .i64 n, .int .i64 i], [ob]))) (roundQ 100 [4, 7, 8, 9] [2, 3, 4] 26 [] back out)
set_option maxRecDepth 100000
theorem gList_eq (N : Nd) (L : LEt) (rs : List Value) (K : RK) : gList N L rs K =
 (N.dlen rs (fun o0 =>
 L (loopIn Tryz.prog 125 3) 26 [(.slice none 0 0), (dsl rs), (.int .i64 (Int.ofNat o0)), (.int .i64 (0 : Int))] [] (fun o1 l2 =>
 N.strM o1 l2 (fun s3 =>
 K (.tuple (Array.mk [(.string s3), (.int .i64 (0 : Int))])) [l2])) (fun z1 =>
 K (.tuple (Array.mk [(.string (bytesOf [])), (.int .i64 z1)])) []))) := by kernel_rfl
theorem gListR_eq (N : Nd) (k : Nat) (ob : Option AObj) (rs : List Value) (n i : Int) (back : Bk) (out : Ot) : gListR N k ob rs n i back out =
 (N.cmp .lss .i64 i .i64 n (N.dget rs i 1 (fun l0 =>
 N.rdS l0 0 (fun s1 =>
 N.slen s1 (fun z2 =>
 N.cmp .gtr .i64 z2 .i64 (65535 : Int) (nD ∧
 (out Exit.ret [(.string (bytesOf [])), (.int .i64 (5 : Int)), (.iface 1000000021 (.slice (some ⟨100, 0, none⟩) k k))] [ob])) (N.slen s1 (fun z3 =>
 N.ari .shr .i64 z3 .u64 (8 : Int) (fun z4 =>
 N.conv 3 5 .i64 z4 .u8 (fun z5 =>
 N.conv 3 5 .i64 z3 .u8 (fun z6 =>
 N.base true k k ob 5 1 (fun l7 =>
 N.appX k l7 2 [(.int .u8 z5), (.int .u8 z6)] 1 1 (fun l8 o9 =>
 N.base false o9 o9 (some (AObj.cells l8 5 1 true true)) 5 1 (fun l10 =>
 N.appS o9 l10 s1 1 (N.ari .add .i64 i .i64 (1 : Int) (fun z11 =>
 nD ∧
 (back [(.slice (some ⟨102, 0, none⟩) o9 o9), (dsl rs), (.int .i64 n), (.int .i64 z11)] [none, (some (AObj.cells [(.int .u8 z5), (.int .u8 z6)] 5 1 false true)), (some (AObj.cells l8 5 1 true true))]))) (fun l11 o12 =>
 N.ari .add .i64 i .i64 (1 : Int) (fun z13 =>
 nD ∧
 (back [(.slice (some ⟨103, 0, none⟩) o12 o12), (dsl rs), (.int .i64 n), (.int .i64 z13)] [none, (some (AObj.cells [(.int .u8 z5), (.int .u8 z6)] 5 1 false true)), none, (some (AObj.cells l11 5 1 true true))]))))))))))))))) (nD ∧
 (out (Exit.exit 0) [(.chan (some 0)), (.chan (some 0)), (.iface 1000000021 (.slice (some ⟨100, 0, none⟩) k k))] [ob]))) := by kernel_rfl
abbrev MSt := Nat → Option AObj → (ByteArray → Int → Prop) → Prop
def sListS (M : MSt) : List Value → Heap → VK → Prop
  | [.iface t (.slice (some ⟨b, 0, none⟩) k k')], H, K => match Nat.beq t mkM with
    | true => k' = k ∧ M k (H.get b) fun s e => K (.tuple ⟨[.string s, .int .i64 e]⟩) H
    | false => False
  | _, _, _ => False
abbrev LLt := Code → Nat → List Value → List (Option AObj) → (Nat → Option AObj → Prop) → Prop
def sLoopL (L : LLt) : LpS := lpS [0, 1, 8] fun c n vals obs K => match vals with
  | pw :: kd :: _ => L c n vals obs (fun k ob => K (.exit 0) [pw, kd, mkS (100 + obs.length) k] (obs ++ [ob]))
  | _ => False
def syAt (a : Nat) : Sy := fun b => match Nat.beq b a with | true => some true | false => none
def sy12 : Sy := fun b => match Nat.beq b 101 || Nat.beq b 102 with | true => some true | false => none
abbrev PSt := Value → (ByteArray → Prop) → Prop
def sF (M : PSt) : List Value → (Value → Prop) → Prop
  | [a], K => M a fun s => K (.string s)
  | _, _ => False
def gL0Arm (N : Nd) (M : Mw) (MS : MSt) (L : LLt) (kind : Int) (rows : List Value) (K : RK) : Prop := wpe Tryz.prog N (howOf sy1 Sp0 [(125, sListS MS), (96, sText M)] [(2, (35, ([0, 1, 3, 8, 13, 14, 15], sLoopL L)))] [] []) 300 (.call 91 [pW, .int .u8 kind, dsl rows, .func (.func 92) ⟨[]⟩ ⟨[]⟩] hW0) (retQ 100 K)
def gL1Arm (N : Nd) (M : Mw) (MS : MSt) (L : LLt) (len : Nat) (vs : List Value) (kind : Int) (rows : List Value) (K : RK) : Prop := wpe Tryz.prog N (howOf sy12 Sp0 [(125, sListS MS), (96, sText M)] [(2, (35, ([0, 1, 3, 8, 13, 14, 15], sLoopL L)))] [] []) 300 (.call 91 [pW, .int .u8 kind, dsl rows, .func (.func 92) ⟨[]⟩ ⟨[]⟩] (hW1 len vs)) (retQ 100 K)
def gL0ArmR (N : Nd) (M : PSt) (o1 : Option AObj) (k : Nat) (ob : Option AObj) (kind : Int) (rs : List Value) (n i : Int) (back : Bk) (out : Ot) : Prop :=
  wpe Tryz.prog N (howOf sy1 Sp0 [] [] [(92, sF M)] []) 300 (.code false (loopIn Tryz.prog 91 2) (stOf 100 35 [0, 1, 3, 8, 13, 14, 15] [] ([pW, .int .u8 kind, .func (.func 92) ⟨[]⟩ ⟨[]⟩, mkS 101 k, dsl rs, .int .i64 n, .int .i64 i], [o1, ob]))) (roundQ 100 [0, 1, 3, 8, 13, 14, 15] [0, 1, 8] 35 [] back out)
def gL1ArmR (N : Nd) (M : PSt) (o1 o2 : Option AObj) (k : Nat) (ob : Option AObj) (kind : Int) (rs : List Value) (n i : Int) (back : Bk) (out : Ot) : Prop :=
  wpe Tryz.prog N (howOf sy12 Sp0 [] [] [(92, sF M)] []) 300 (.code false (loopIn Tryz.prog 91 2) (stOf 100 35 [0, 1, 3, 8, 13, 14, 15] [] ([pW, .int .u8 kind, .func (.func 92) ⟨[]⟩ ⟨[]⟩, mkS 102 k, dsl rs, .int .i64 n, .int .i64 i], [o1, o2, ob]))) (roundQ 100 [0, 1, 3, 8, 13, 14, 15] [0, 1, 8] 35 [] back out)
set_option maxRecDepth 100000
theorem gL0Arm_eq (N : Nd) (M : Mw) (MS : MSt) (L : LLt) (kind : Int) (rows : List Value) (K : RK) : gL0Arm N M MS L kind rows K =
 (N.dlen rows (fun o0 =>
 L (loopIn Tryz.prog 91 2) 35 [(.pointer (some ⟨100, 0, none⟩)), (.int .u8 kind), (.func (Fn.func 92) ⟨[]⟩ ⟨[]⟩), (.slice none 0 0), (dsl rows), (.int .i64 (Int.ofNat o0)), (.int .i64 (0 : Int))] [oW0] (fun o1 l2 =>
 (o1 = o1) ∧
 (MS o1 l2 (fun s3 z4 =>
 (oW0 = oW0) ∧
 (M.t0 kind s3 (K (.tuple ⟨[]⟩) [oW0, l2]) (fun l5 =>
 K (.tuple ⟨[]⟩) [(oW1 102 1), l2, (oA l5)]))))))) := by kernel_rfl
theorem gL1Arm_eq (N : Nd) (M : Mw) (MS : MSt) (L : LLt) (len : Nat) (vs : List Value) (kind : Int) (rows : List Value) (K : RK) : gL1Arm N M MS L len vs kind rows K =
 (N.dlen rows (fun o0 =>
 L (loopIn Tryz.prog 91 2) 35 [(.pointer (some ⟨100, 0, none⟩)), (.int .u8 kind), (.func (Fn.func 92) ⟨[]⟩ ⟨[]⟩), (.slice none 0 0), (dsl rows), (.int .i64 (Int.ofNat o0)), (.int .i64 (0 : Int))] [(oW1 101 len), (oA vs)] (fun o1 l2 =>
 (o1 = o1) ∧
 (MS o1 l2 (fun s3 z4 =>
 (len = len) ∧
 (M.t1 len vs kind s3 (fun o5 l6 =>
 K (.tuple ⟨[]⟩) [(oW1 103 o5), none, l2, (oA l6)]))))))) := by kernel_rfl
theorem gL0ArmR_eq (N : Nd) (M : PSt) (o1 : Option AObj) (k : Nat) (ob : Option AObj) (kind : Int) (rs : List Value) (n i : Int) (back : Bk) (out : Ot) : gL0ArmR N M o1 k ob kind rs n i back out =
 (N.cmp .lss .i64 i .i64 n (N.dget rs i 2 (fun l0 =>
 N.rdI .u32 l0 0 (fun z1 =>
 N.rdI .i64 l0 1 (fun z2 =>
 M (.agg (Array.mk [(.int .u32 z1), (.int .i64 z2)])) (fun s3 =>
 N.base true k k ob 9 1 (fun l4 =>
 N.appX k l4 1 [(.string s3)] 1 16 (fun l5 o6 =>
 N.ari .add .i64 i .i64 (1 : Int) (fun z7 =>
 nD ∧
 (back [(.pointer (some ⟨100, 0, none⟩)), (.int .u8 kind), (.func (Fn.func 92) ⟨[]⟩ ⟨[]⟩), (.slice (some ⟨104, 0, none⟩) o6 o6), (dsl rs), (.int .i64 n), (.int .i64 z7)] [o1, none, (some (AObj.cells [(.int .u32 z1), (.int .i64 z2)] 69 2 false true)), (some (AObj.cells [(.string s3)] 9 1 false true)), (some (AObj.cells l5 9 1 true true))]))))))))) (nD ∧
 (out (Exit.exit 0) [(.pointer (some ⟨100, 0, none⟩)), (.int .u8 kind), (.iface 1000000021 (.slice (some ⟨101, 0, none⟩) k k))] [o1, ob]))) := by kernel_rfl
theorem gL1ArmR_eq (N : Nd) (M : PSt) (o1 o2 : Option AObj) (k : Nat) (ob : Option AObj) (kind : Int) (rs : List Value) (n i : Int) (back : Bk) (out : Ot) : gL1ArmR N M o1 o2 k ob kind rs n i back out =
 (N.cmp .lss .i64 i .i64 n (N.dget rs i 2 (fun l0 =>
 N.rdI .u32 l0 0 (fun z1 =>
 N.rdI .i64 l0 1 (fun z2 =>
 M (.agg (Array.mk [(.int .u32 z1), (.int .i64 z2)])) (fun s3 =>
 N.base true k k ob 9 1 (fun l4 =>
 N.appX k l4 1 [(.string s3)] 1 16 (fun l5 o6 =>
 N.ari .add .i64 i .i64 (1 : Int) (fun z7 =>
 nD ∧
 (back [(.pointer (some ⟨100, 0, none⟩)), (.int .u8 kind), (.func (Fn.func 92) ⟨[]⟩ ⟨[]⟩), (.slice (some ⟨105, 0, none⟩) o6 o6), (dsl rs), (.int .i64 n), (.int .i64 z7)] [o1, o2, none, (some (AObj.cells [(.int .u32 z1), (.int .i64 z2)] 69 2 false true)), (some (AObj.cells [(.string s3)] 9 1 false true)), (some (AObj.cells l5 9 1 true true))]))))))))) (nD ∧
 (out (Exit.exit 0) [(.pointer (some ⟨100, 0, none⟩)), (.int .u8 kind), (.iface 1000000021 (.slice (some ⟨102, 0, none⟩) k k))] [o1, o2, ob]))) := by kernel_rfl
def gL0Instr (N : Nd) (M : Mw) (MS : MSt) (L : LLt) (kind : Int) (rows : List Value) (K : RK) : Prop := wpe Tryz.prog N (howOf sy1 Sp0 [(125, sListS MS), (96, sText M)] [(2, (35, ([0, 1, 3, 8, 13, 14, 15], sLoopL L)))] [] []) 300 (.call 82 [pW, .int .u8 kind, dsl rows, .func (.func 83) ⟨[]⟩ ⟨[]⟩] hW0) (retQ 100 K)
def gL1Instr (N : Nd) (M : Mw) (MS : MSt) (L : LLt) (len : Nat) (vs : List Value) (kind : Int) (rows : List Value) (K : RK) : Prop := wpe Tryz.prog N (howOf sy12 Sp0 [(125, sListS MS), (96, sText M)] [(2, (35, ([0, 1, 3, 8, 13, 14, 15], sLoopL L)))] [] []) 300 (.call 82 [pW, .int .u8 kind, dsl rows, .func (.func 83) ⟨[]⟩ ⟨[]⟩] (hW1 len vs)) (retQ 100 K)
def gL0InstrR (N : Nd) (M : PSt) (o1 : Option AObj) (k : Nat) (ob : Option AObj) (kind : Int) (rs : List Value) (n i : Int) (back : Bk) (out : Ot) : Prop :=
  wpe Tryz.prog N (howOf sy1 Sp0 [] [] [(83, sF M)] []) 300 (.code false (loopIn Tryz.prog 82 2) (stOf 100 35 [0, 1, 3, 8, 13, 14, 15] [] ([pW, .int .u8 kind, .func (.func 83) ⟨[]⟩ ⟨[]⟩, mkS 101 k, dsl rs, .int .i64 n, .int .i64 i], [o1, ob]))) (roundQ 100 [0, 1, 3, 8, 13, 14, 15] [0, 1, 8] 35 [] back out)
def gL1InstrR (N : Nd) (M : PSt) (o1 o2 : Option AObj) (k : Nat) (ob : Option AObj) (kind : Int) (rs : List Value) (n i : Int) (back : Bk) (out : Ot) : Prop :=
  wpe Tryz.prog N (howOf sy12 Sp0 [] [] [(83, sF M)] []) 300 (.code false (loopIn Tryz.prog 82 2) (stOf 100 35 [0, 1, 3, 8, 13, 14, 15] [] ([pW, .int .u8 kind, .func (.func 83) ⟨[]⟩ ⟨[]⟩, mkS 102 k, dsl rs, .int .i64 n, .int .i64 i], [o1, o2, ob]))) (roundQ 100 [0, 1, 3, 8, 13, 14, 15] [0, 1, 8] 35 [] back out)
set_option maxRecDepth 100000
theorem gL0Instr_eq (N : Nd) (M : Mw) (MS : MSt) (L : LLt) (kind : Int) (rows : List Value) (K : RK) : gL0Instr N M MS L kind rows K =
 (N.dlen rows (fun o0 =>
 L (loopIn Tryz.prog 82 2) 35 [(.pointer (some ⟨100, 0, none⟩)), (.int .u8 kind), (.func (Fn.func 83) ⟨[]⟩ ⟨[]⟩), (.slice none 0 0), (dsl rows), (.int .i64 (Int.ofNat o0)), (.int .i64 (0 : Int))] [oW0] (fun o1 l2 =>
 (o1 = o1) ∧
 (MS o1 l2 (fun s3 z4 =>
 (oW0 = oW0) ∧
 (M.t0 kind s3 (K (.tuple ⟨[]⟩) [oW0, l2]) (fun l5 =>
 K (.tuple ⟨[]⟩) [(oW1 102 1), l2, (oA l5)]))))))) := by kernel_rfl
theorem gL1Instr_eq (N : Nd) (M : Mw) (MS : MSt) (L : LLt) (len : Nat) (vs : List Value) (kind : Int) (rows : List Value) (K : RK) : gL1Instr N M MS L len vs kind rows K =
 (N.dlen rows (fun o0 =>
 L (loopIn Tryz.prog 82 2) 35 [(.pointer (some ⟨100, 0, none⟩)), (.int .u8 kind), (.func (Fn.func 83) ⟨[]⟩ ⟨[]⟩), (.slice none 0 0), (dsl rows), (.int .i64 (Int.ofNat o0)), (.int .i64 (0 : Int))] [(oW1 101 len), (oA vs)] (fun o1 l2 =>
 (o1 = o1) ∧
 (MS o1 l2 (fun s3 z4 =>
 (len = len) ∧
 (M.t1 len vs kind s3 (fun o5 l6 =>
 K (.tuple ⟨[]⟩) [(oW1 103 o5), none, l2, (oA l6)]))))))) := by kernel_rfl
theorem gL0InstrR_eq (N : Nd) (M : PSt) (o1 : Option AObj) (k : Nat) (ob : Option AObj) (kind : Int) (rs : List Value) (n i : Int) (back : Bk) (out : Ot) : gL0InstrR N M o1 k ob kind rs n i back out =
 (N.cmp .lss .i64 i .i64 n (N.dget rs i 7 (fun l0 =>
 N.rdI .u8 l0 0 (fun z1 =>
 N.rdI .i64 l0 1 (fun z2 =>
 N.rdI .u8 l0 2 (fun z3 =>
 N.rdI .u64 l0 3 (fun z4 =>
 N.rdI .u8 l0 4 (fun z5 =>
 N.rdI .u64 l0 5 (fun z6 =>
 N.rdI .i64 l0 6 (fun z7 =>
 M (.agg (Array.mk (kInstr z1 z2 z3 z4 z5 z6 z7))) (fun s8 =>
 N.base true k k ob 9 1 (fun l9 =>
 N.appX k l9 1 [(.string s8)] 1 16 (fun l10 o11 =>
 N.ari .add .i64 i .i64 (1 : Int) (fun z12 =>
 nD ∧
 (back [(.pointer (some ⟨100, 0, none⟩)), (.int .u8 kind), (.func (Fn.func 83) ⟨[]⟩ ⟨[]⟩), (.slice (some ⟨104, 0, none⟩) o11 o11), (dsl rs), (.int .i64 n), (.int .i64 z12)] [o1, none, (some (AObj.cells (kInstr z1 z2 z3 z4 z5 z6 z7) 80 7 false true)), (some (AObj.cells [(.string s8)] 9 1 false true)), (some (AObj.cells l10 9 1 true true))])))))))))))))) (nD ∧
 (out (Exit.exit 0) [(.pointer (some ⟨100, 0, none⟩)), (.int .u8 kind), (.iface 1000000021 (.slice (some ⟨101, 0, none⟩) k k))] [o1, ob]))) := by kernel_rfl
theorem gL1InstrR_eq (N : Nd) (M : PSt) (o1 o2 : Option AObj) (k : Nat) (ob : Option AObj) (kind : Int) (rs : List Value) (n i : Int) (back : Bk) (out : Ot) : gL1InstrR N M o1 o2 k ob kind rs n i back out =
 (N.cmp .lss .i64 i .i64 n (N.dget rs i 7 (fun l0 =>
 N.rdI .u8 l0 0 (fun z1 =>
 N.rdI .i64 l0 1 (fun z2 =>
 N.rdI .u8 l0 2 (fun z3 =>
 N.rdI .u64 l0 3 (fun z4 =>
 N.rdI .u8 l0 4 (fun z5 =>
 N.rdI .u64 l0 5 (fun z6 =>
 N.rdI .i64 l0 6 (fun z7 =>
 M (.agg (Array.mk (kInstr z1 z2 z3 z4 z5 z6 z7))) (fun s8 =>
 N.base true k k ob 9 1 (fun l9 =>
 N.appX k l9 1 [(.string s8)] 1 16 (fun l10 o11 =>
 N.ari .add .i64 i .i64 (1 : Int) (fun z12 =>
 nD ∧
 (back [(.pointer (some ⟨100, 0, none⟩)), (.int .u8 kind), (.func (Fn.func 83) ⟨[]⟩ ⟨[]⟩), (.slice (some ⟨105, 0, none⟩) o11 o11), (dsl rs), (.int .i64 n), (.int .i64 z12)] [o1, o2, none, (some (AObj.cells (kInstr z1 z2 z3 z4 z5 z6 z7) 80 7 false true)), (some (AObj.cells [(.string s8)] 9 1 false true)), (some (AObj.cells l10 9 1 true true))])))))))))))))) (nD ∧
 (out (Exit.exit 0) [(.pointer (some ⟨100, 0, none⟩)), (.int .u8 kind), (.iface 1000000021 (.slice (some ⟨102, 0, none⟩) k k))] [o1, o2, ob]))) := by kernel_rfl
def gL0Bucket (N : Nd) (M : Mw) (MS : MSt) (L : LLt) (kind : Int) (rows : List Value) (K : RK) : Prop := wpe Tryz.prog N (howOf sy1 Sp0 [(125, sListS MS), (96, sText M)] [(2, (35, ([0, 1, 3, 8, 13, 14, 15], sLoopL L)))] [] []) 300 (.call 98 [pW, .int .u8 kind, dsl rows, .func (.func 99) ⟨[]⟩ ⟨[]⟩] hW0) (retQ 100 K)
def gL1Bucket (N : Nd) (M : Mw) (MS : MSt) (L : LLt) (len : Nat) (vs : List Value) (kind : Int) (rows : List Value) (K : RK) : Prop := wpe Tryz.prog N (howOf sy12 Sp0 [(125, sListS MS), (96, sText M)] [(2, (35, ([0, 1, 3, 8, 13, 14, 15], sLoopL L)))] [] []) 300 (.call 98 [pW, .int .u8 kind, dsl rows, .func (.func 99) ⟨[]⟩ ⟨[]⟩] (hW1 len vs)) (retQ 100 K)
def gL0BucketR (N : Nd) (M : PSt) (o1 : Option AObj) (k : Nat) (ob : Option AObj) (kind : Int) (rs : List Value) (n i : Int) (back : Bk) (out : Ot) : Prop :=
  wpe Tryz.prog N (howOf sy1 Sp0 [] [] [(99, sF M)] []) 300 (.code false (loopIn Tryz.prog 98 2) (stOf 100 35 [0, 1, 3, 8, 13, 14, 15] [] ([pW, .int .u8 kind, .func (.func 99) ⟨[]⟩ ⟨[]⟩, mkS 101 k, dsl rs, .int .i64 n, .int .i64 i], [o1, ob]))) (roundQ 100 [0, 1, 3, 8, 13, 14, 15] [0, 1, 8] 35 [] back out)
def gL1BucketR (N : Nd) (M : PSt) (o1 o2 : Option AObj) (k : Nat) (ob : Option AObj) (kind : Int) (rs : List Value) (n i : Int) (back : Bk) (out : Ot) : Prop :=
  wpe Tryz.prog N (howOf sy12 Sp0 [] [] [(99, sF M)] []) 300 (.code false (loopIn Tryz.prog 98 2) (stOf 100 35 [0, 1, 3, 8, 13, 14, 15] [] ([pW, .int .u8 kind, .func (.func 99) ⟨[]⟩ ⟨[]⟩, mkS 102 k, dsl rs, .int .i64 n, .int .i64 i], [o1, o2, ob]))) (roundQ 100 [0, 1, 3, 8, 13, 14, 15] [0, 1, 8] 35 [] back out)
set_option maxRecDepth 100000
theorem gL0Bucket_eq (N : Nd) (M : Mw) (MS : MSt) (L : LLt) (kind : Int) (rows : List Value) (K : RK) : gL0Bucket N M MS L kind rows K =
 (N.dlen rows (fun o0 =>
 L (loopIn Tryz.prog 98 2) 35 [(.pointer (some ⟨100, 0, none⟩)), (.int .u8 kind), (.func (Fn.func 99) ⟨[]⟩ ⟨[]⟩), (.slice none 0 0), (dsl rows), (.int .i64 (Int.ofNat o0)), (.int .i64 (0 : Int))] [oW0] (fun o1 l2 =>
 (o1 = o1) ∧
 (MS o1 l2 (fun s3 z4 =>
 (oW0 = oW0) ∧
 (M.t0 kind s3 (K (.tuple ⟨[]⟩) [oW0, l2]) (fun l5 =>
 K (.tuple ⟨[]⟩) [(oW1 102 1), l2, (oA l5)]))))))) := by kernel_rfl
theorem gL1Bucket_eq (N : Nd) (M : Mw) (MS : MSt) (L : LLt) (len : Nat) (vs : List Value) (kind : Int) (rows : List Value) (K : RK) : gL1Bucket N M MS L len vs kind rows K =
 (N.dlen rows (fun o0 =>
 L (loopIn Tryz.prog 98 2) 35 [(.pointer (some ⟨100, 0, none⟩)), (.int .u8 kind), (.func (Fn.func 99) ⟨[]⟩ ⟨[]⟩), (.slice none 0 0), (dsl rows), (.int .i64 (Int.ofNat o0)), (.int .i64 (0 : Int))] [(oW1 101 len), (oA vs)] (fun o1 l2 =>
 (o1 = o1) ∧
 (MS o1 l2 (fun s3 z4 =>
 (len = len) ∧
 (M.t1 len vs kind s3 (fun o5 l6 =>
 K (.tuple ⟨[]⟩) [(oW1 103 o5), none, l2, (oA l6)]))))))) := by kernel_rfl
theorem gL0BucketR_eq (N : Nd) (M : PSt) (o1 : Option AObj) (k : Nat) (ob : Option AObj) (kind : Int) (rs : List Value) (n i : Int) (back : Bk) (out : Ot) : gL0BucketR N M o1 k ob kind rs n i back out =
 (N.cmp .lss .i64 i .i64 n (N.dget rs i 2 (fun l0 =>
 N.rdI .u64 l0 0 (fun z1 =>
 N.rdI .i64 l0 1 (fun z2 =>
 M (.agg (Array.mk [(.int .u64 z1), (.int .i64 z2)])) (fun s3 =>
 N.base true k k ob 9 1 (fun l4 =>
 N.appX k l4 1 [(.string s3)] 1 16 (fun l5 o6 =>
 N.ari .add .i64 i .i64 (1 : Int) (fun z7 =>
 nD ∧
 (back [(.pointer (some ⟨100, 0, none⟩)), (.int .u8 kind), (.func (Fn.func 99) ⟨[]⟩ ⟨[]⟩), (.slice (some ⟨104, 0, none⟩) o6 o6), (dsl rs), (.int .i64 n), (.int .i64 z7)] [o1, none, (some (AObj.cells [(.int .u64 z1), (.int .i64 z2)] 106 2 false true)), (some (AObj.cells [(.string s3)] 9 1 false true)), (some (AObj.cells l5 9 1 true true))]))))))))) (nD ∧
 (out (Exit.exit 0) [(.pointer (some ⟨100, 0, none⟩)), (.int .u8 kind), (.iface 1000000021 (.slice (some ⟨101, 0, none⟩) k k))] [o1, ob]))) := by kernel_rfl
theorem gL1BucketR_eq (N : Nd) (M : PSt) (o1 o2 : Option AObj) (k : Nat) (ob : Option AObj) (kind : Int) (rs : List Value) (n i : Int) (back : Bk) (out : Ot) : gL1BucketR N M o1 o2 k ob kind rs n i back out =
 (N.cmp .lss .i64 i .i64 n (N.dget rs i 2 (fun l0 =>
 N.rdI .u64 l0 0 (fun z1 =>
 N.rdI .i64 l0 1 (fun z2 =>
 M (.agg (Array.mk [(.int .u64 z1), (.int .i64 z2)])) (fun s3 =>
 N.base true k k ob 9 1 (fun l4 =>
 N.appX k l4 1 [(.string s3)] 1 16 (fun l5 o6 =>
 N.ari .add .i64 i .i64 (1 : Int) (fun z7 =>
 nD ∧
 (back [(.pointer (some ⟨100, 0, none⟩)), (.int .u8 kind), (.func (Fn.func 99) ⟨[]⟩ ⟨[]⟩), (.slice (some ⟨105, 0, none⟩) o6 o6), (dsl rs), (.int .i64 n), (.int .i64 z7)] [o1, o2, none, (some (AObj.cells [(.int .u64 z1), (.int .i64 z2)] 106 2 false true)), (some (AObj.cells [(.string s3)] 9 1 false true)), (some (AObj.cells l5 9 1 true true))]))))))))) (nD ∧
 (out (Exit.exit 0) [(.pointer (some ⟨100, 0, none⟩)), (.int .u8 kind), (.iface 1000000021 (.slice (some ⟨102, 0, none⟩) k k))] [o1, o2, ob]))) := by kernel_rfl
def gL0Int (N : Nd) (M : Mw) (MS : MSt) (L : LLt) (kind : Int) (rows : List Value) (K : RK) : Prop := wpe Tryz.prog N (howOf sy1 Sp0 [(125, sListS MS), (96, sText M)] [(2, (35, ([0, 1, 3, 8, 13, 14, 15], sLoopL L)))] [] []) 300 (.call 93 [pW, .int .u8 kind, dsl rows, .func (.func 94) ⟨[]⟩ ⟨[]⟩] hW0) (retQ 100 K)
def gL1Int (N : Nd) (M : Mw) (MS : MSt) (L : LLt) (len : Nat) (vs : List Value) (kind : Int) (rows : List Value) (K : RK) : Prop := wpe Tryz.prog N (howOf sy12 Sp0 [(125, sListS MS), (96, sText M)] [(2, (35, ([0, 1, 3, 8, 13, 14, 15], sLoopL L)))] [] []) 300 (.call 93 [pW, .int .u8 kind, dsl rows, .func (.func 94) ⟨[]⟩ ⟨[]⟩] (hW1 len vs)) (retQ 100 K)
def gL0IntR (N : Nd) (M : PSt) (o1 : Option AObj) (k : Nat) (ob : Option AObj) (kind : Int) (rs : List Value) (n i : Int) (back : Bk) (out : Ot) : Prop :=
  wpe Tryz.prog N (howOf sy1 Sp0 [] [] [(94, sF M)] []) 300 (.code false (loopIn Tryz.prog 93 2) (stOf 100 35 [0, 1, 3, 8, 13, 14, 15] [] ([pW, .int .u8 kind, .func (.func 94) ⟨[]⟩ ⟨[]⟩, mkS 101 k, dsl rs, .int .i64 n, .int .i64 i], [o1, ob]))) (roundQ 100 [0, 1, 3, 8, 13, 14, 15] [0, 1, 8] 35 [] back out)
def gL1IntR (N : Nd) (M : PSt) (o1 o2 : Option AObj) (k : Nat) (ob : Option AObj) (kind : Int) (rs : List Value) (n i : Int) (back : Bk) (out : Ot) : Prop :=
  wpe Tryz.prog N (howOf sy12 Sp0 [] [] [(94, sF M)] []) 300 (.code false (loopIn Tryz.prog 93 2) (stOf 100 35 [0, 1, 3, 8, 13, 14, 15] [] ([pW, .int .u8 kind, .func (.func 94) ⟨[]⟩ ⟨[]⟩, mkS 102 k, dsl rs, .int .i64 n, .int .i64 i], [o1, o2, ob]))) (roundQ 100 [0, 1, 3, 8, 13, 14, 15] [0, 1, 8] 35 [] back out)
set_option maxRecDepth 100000
theorem gL0Int_eq (N : Nd) (M : Mw) (MS : MSt) (L : LLt) (kind : Int) (rows : List Value) (K : RK) : gL0Int N M MS L kind rows K =
 (N.dlen rows (fun o0 =>
 L (loopIn Tryz.prog 93 2) 35 [(.pointer (some ⟨100, 0, none⟩)), (.int .u8 kind), (.func (Fn.func 94) ⟨[]⟩ ⟨[]⟩), (.slice none 0 0), (dsl rows), (.int .i64 (Int.ofNat o0)), (.int .i64 (0 : Int))] [oW0] (fun o1 l2 =>
 (o1 = o1) ∧
 (MS o1 l2 (fun s3 z4 =>
 (oW0 = oW0) ∧
 (M.t0 kind s3 (K (.tuple ⟨[]⟩) [oW0, l2]) (fun l5 =>
 K (.tuple ⟨[]⟩) [(oW1 102 1), l2, (oA l5)]))))))) := by kernel_rfl
theorem gL1Int_eq (N : Nd) (M : Mw) (MS : MSt) (L : LLt) (len : Nat) (vs : List Value) (kind : Int) (rows : List Value) (K : RK) : gL1Int N M MS L len vs kind rows K =
 (N.dlen rows (fun o0 =>
 L (loopIn Tryz.prog 93 2) 35 [(.pointer (some ⟨100, 0, none⟩)), (.int .u8 kind), (.func (Fn.func 94) ⟨[]⟩ ⟨[]⟩), (.slice none 0 0), (dsl rows), (.int .i64 (Int.ofNat o0)), (.int .i64 (0 : Int))] [(oW1 101 len), (oA vs)] (fun o1 l2 =>
 (o1 = o1) ∧
 (MS o1 l2 (fun s3 z4 =>
 (len = len) ∧
 (M.t1 len vs kind s3 (fun o5 l6 =>
 K (.tuple ⟨[]⟩) [(oW1 103 o5), none, l2, (oA l6)]))))))) := by kernel_rfl
theorem gL0IntR_eq (N : Nd) (M : PSt) (o1 : Option AObj) (k : Nat) (ob : Option AObj) (kind : Int) (rs : List Value) (n i : Int) (back : Bk) (out : Ot) : gL0IntR N M o1 k ob kind rs n i back out =
 (N.cmp .lss .i64 i .i64 n (N.dget rs i 1 (fun l0 =>
 N.rdI .i64 l0 0 (fun z1 =>
 M (.int .i64 z1) (fun s2 =>
 N.base true k k ob 9 1 (fun l3 =>
 N.appX k l3 1 [(.string s2)] 1 16 (fun l4 o5 =>
 N.ari .add .i64 i .i64 (1 : Int) (fun z6 =>
 nD ∧
 (back [(.pointer (some ⟨100, 0, none⟩)), (.int .u8 kind), (.func (Fn.func 94) ⟨[]⟩ ⟨[]⟩), (.slice (some ⟨103, 0, none⟩) o5 o5), (dsl rs), (.int .i64 n), (.int .i64 z6)] [o1, none, (some (AObj.cells [(.string s2)] 9 1 false true)), (some (AObj.cells l4 9 1 true true))])))))))) (nD ∧
 (out (Exit.exit 0) [(.pointer (some ⟨100, 0, none⟩)), (.int .u8 kind), (.iface 1000000021 (.slice (some ⟨101, 0, none⟩) k k))] [o1, ob]))) := by kernel_rfl
theorem gL1IntR_eq (N : Nd) (M : PSt) (o1 o2 : Option AObj) (k : Nat) (ob : Option AObj) (kind : Int) (rs : List Value) (n i : Int) (back : Bk) (out : Ot) : gL1IntR N M o1 o2 k ob kind rs n i back out =
 (N.cmp .lss .i64 i .i64 n (N.dget rs i 1 (fun l0 =>
 N.rdI .i64 l0 0 (fun z1 =>
 M (.int .i64 z1) (fun s2 =>
 N.base true k k ob 9 1 (fun l3 =>
 N.appX k l3 1 [(.string s2)] 1 16 (fun l4 o5 =>
 N.ari .add .i64 i .i64 (1 : Int) (fun z6 =>
 nD ∧
 (back [(.pointer (some ⟨100, 0, none⟩)), (.int .u8 kind), (.func (Fn.func 94) ⟨[]⟩ ⟨[]⟩), (.slice (some ⟨104, 0, none⟩) o5 o5), (dsl rs), (.int .i64 n), (.int .i64 z6)] [o1, o2, none, (some (AObj.cells [(.string s2)] 9 1 false true)), (some (AObj.cells l4 9 1 true true))])))))))) (nD ∧
 (out (Exit.exit 0) [(.pointer (some ⟨100, 0, none⟩)), (.int .u8 kind), (.iface 1000000021 (.slice (some ⟨102, 0, none⟩) k k))] [o1, o2, ob]))) := by kernel_rfl
def gL0Nat (N : Nd) (M : Mw) (MS : MSt) (L : LLt) (kind : Int) (rows : List Value) (K : RK) : Prop := wpe Tryz.prog N (howOf sy1 Sp0 [(125, sListS MS), (96, sText M)] [(2, (35, ([0, 1, 3, 8, 13, 14, 15], sLoopL L)))] [] []) 300 (.call 97 [pW, .int .u8 kind, dsl rows, .func (.func 95) ⟨[]⟩ ⟨[]⟩] hW0) (retQ 100 K)
def gL1Nat (N : Nd) (M : Mw) (MS : MSt) (L : LLt) (len : Nat) (vs : List Value) (kind : Int) (rows : List Value) (K : RK) : Prop := wpe Tryz.prog N (howOf sy12 Sp0 [(125, sListS MS), (96, sText M)] [(2, (35, ([0, 1, 3, 8, 13, 14, 15], sLoopL L)))] [] []) 300 (.call 97 [pW, .int .u8 kind, dsl rows, .func (.func 95) ⟨[]⟩ ⟨[]⟩] (hW1 len vs)) (retQ 100 K)
def gL0NatR (N : Nd) (M : PSt) (o1 : Option AObj) (k : Nat) (ob : Option AObj) (kind : Int) (rs : List Value) (n i : Int) (back : Bk) (out : Ot) : Prop :=
  wpe Tryz.prog N (howOf sy1 Sp0 [] [] [(95, sF M)] []) 300 (.code false (loopIn Tryz.prog 97 2) (stOf 100 35 [0, 1, 3, 8, 13, 14, 15] [] ([pW, .int .u8 kind, .func (.func 95) ⟨[]⟩ ⟨[]⟩, mkS 101 k, dsl rs, .int .i64 n, .int .i64 i], [o1, ob]))) (roundQ 100 [0, 1, 3, 8, 13, 14, 15] [0, 1, 8] 35 [] back out)
def gL1NatR (N : Nd) (M : PSt) (o1 o2 : Option AObj) (k : Nat) (ob : Option AObj) (kind : Int) (rs : List Value) (n i : Int) (back : Bk) (out : Ot) : Prop :=
  wpe Tryz.prog N (howOf sy12 Sp0 [] [] [(95, sF M)] []) 300 (.code false (loopIn Tryz.prog 97 2) (stOf 100 35 [0, 1, 3, 8, 13, 14, 15] [] ([pW, .int .u8 kind, .func (.func 95) ⟨[]⟩ ⟨[]⟩, mkS 102 k, dsl rs, .int .i64 n, .int .i64 i], [o1, o2, ob]))) (roundQ 100 [0, 1, 3, 8, 13, 14, 15] [0, 1, 8] 35 [] back out)
set_option maxRecDepth 100000
theorem gL0Nat_eq (N : Nd) (M : Mw) (MS : MSt) (L : LLt) (kind : Int) (rows : List Value) (K : RK) : gL0Nat N M MS L kind rows K =
 (N.dlen rows (fun o0 =>
 L (loopIn Tryz.prog 97 2) 35 [(.pointer (some ⟨100, 0, none⟩)), (.int .u8 kind), (.func (Fn.func 95) ⟨[]⟩ ⟨[]⟩), (.slice none 0 0), (dsl rows), (.int .i64 (Int.ofNat o0)), (.int .i64 (0 : Int))] [oW0] (fun o1 l2 =>
 (o1 = o1) ∧
 (MS o1 l2 (fun s3 z4 =>
 (oW0 = oW0) ∧
 (M.t0 kind s3 (K (.tuple ⟨[]⟩) [oW0, l2]) (fun l5 =>
 K (.tuple ⟨[]⟩) [(oW1 102 1), l2, (oA l5)]))))))) := by kernel_rfl
theorem gL1Nat_eq (N : Nd) (M : Mw) (MS : MSt) (L : LLt) (len : Nat) (vs : List Value) (kind : Int) (rows : List Value) (K : RK) : gL1Nat N M MS L len vs kind rows K =
 (N.dlen rows (fun o0 =>
 L (loopIn Tryz.prog 97 2) 35 [(.pointer (some ⟨100, 0, none⟩)), (.int .u8 kind), (.func (Fn.func 95) ⟨[]⟩ ⟨[]⟩), (.slice none 0 0), (dsl rows), (.int .i64 (Int.ofNat o0)), (.int .i64 (0 : Int))] [(oW1 101 len), (oA vs)] (fun o1 l2 =>
 (o1 = o1) ∧
 (MS o1 l2 (fun s3 z4 =>
 (len = len) ∧
 (M.t1 len vs kind s3 (fun o5 l6 =>
 K (.tuple ⟨[]⟩) [(oW1 103 o5), none, l2, (oA l6)]))))))) := by kernel_rfl
theorem gL0NatR_eq (N : Nd) (M : PSt) (o1 : Option AObj) (k : Nat) (ob : Option AObj) (kind : Int) (rs : List Value) (n i : Int) (back : Bk) (out : Ot) : gL0NatR N M o1 k ob kind rs n i back out =
 (N.cmp .lss .i64 i .i64 n (N.dget rs i 1 (fun l0 =>
 N.rdI .u64 l0 0 (fun z1 =>
 M (.int .u64 z1) (fun s2 =>
 N.base true k k ob 9 1 (fun l3 =>
 N.appX k l3 1 [(.string s2)] 1 16 (fun l4 o5 =>
 N.ari .add .i64 i .i64 (1 : Int) (fun z6 =>
 nD ∧
 (back [(.pointer (some ⟨100, 0, none⟩)), (.int .u8 kind), (.func (Fn.func 95) ⟨[]⟩ ⟨[]⟩), (.slice (some ⟨103, 0, none⟩) o5 o5), (dsl rs), (.int .i64 n), (.int .i64 z6)] [o1, none, (some (AObj.cells [(.string s2)] 9 1 false true)), (some (AObj.cells l4 9 1 true true))])))))))) (nD ∧
 (out (Exit.exit 0) [(.pointer (some ⟨100, 0, none⟩)), (.int .u8 kind), (.iface 1000000021 (.slice (some ⟨101, 0, none⟩) k k))] [o1, ob]))) := by kernel_rfl
theorem gL1NatR_eq (N : Nd) (M : PSt) (o1 o2 : Option AObj) (k : Nat) (ob : Option AObj) (kind : Int) (rs : List Value) (n i : Int) (back : Bk) (out : Ot) : gL1NatR N M o1 o2 k ob kind rs n i back out =
 (N.cmp .lss .i64 i .i64 n (N.dget rs i 1 (fun l0 =>
 N.rdI .u64 l0 0 (fun z1 =>
 M (.int .u64 z1) (fun s2 =>
 N.base true k k ob 9 1 (fun l3 =>
 N.appX k l3 1 [(.string s2)] 1 16 (fun l4 o5 =>
 N.ari .add .i64 i .i64 (1 : Int) (fun z6 =>
 nD ∧
 (back [(.pointer (some ⟨100, 0, none⟩)), (.int .u8 kind), (.func (Fn.func 95) ⟨[]⟩ ⟨[]⟩), (.slice (some ⟨104, 0, none⟩) o5 o5), (dsl rs), (.int .i64 n), (.int .i64 z6)] [o1, o2, none, (some (AObj.cells [(.string s2)] 9 1 false true)), (some (AObj.cells l4 9 1 true true))])))))))) (nD ∧
 (out (Exit.exit 0) [(.pointer (some ⟨100, 0, none⟩)), (.int .u8 kind), (.iface 1000000021 (.slice (some ⟨102, 0, none⟩) k k))] [o1, o2, ob]))) := by kernel_rfl
def gPutArm (N : Nd) (M : Mw) (v nx : Int) (K : RK) : Prop := wpe Tryz.prog N (howOf S0 Sp0 [(80, sNumW M), (81, sBytes M)] [] [] []) 300 (.call 92 [.agg ⟨[.int .u32 v, .int .i64 nx]⟩] h0) (retQ 100 K)
def gPutInstr (N : Nd) (M : Mw) (op to ak an bk bn n : Int) (K : RK) : Prop := wpe Tryz.prog N (howOf S0 Sp0 [(80, sNumW M), (81, sBytes M)] [] [] []) 300 (.call 83 [.agg ⟨(kInstr op to ak an bk bn n)⟩] h0) (retQ 100 K)
def gPutBucket (N : Nd) (M : Mw) (w b : Int) (K : RK) : Prop := wpe Tryz.prog N (howOf S0 Sp0 [(80, sNumW M), (81, sBytes M)] [] [] []) 300 (.call 99 [.agg ⟨[.int .u64 w, .int .i64 b]⟩] h0) (retQ 100 K)
def gPutInt (N : Nd) (M : Mw) (n : Int) (K : RK) : Prop := wpe Tryz.prog N (WN M) 300 (.call 94 [.int .i64 n] h0) (retQ 100 K)
set_option maxRecDepth 100000
theorem gPutArm_eq (N : Nd) (M : Mw) (v nx : Int) (K : RK) : gPutArm N M v nx K =
 (N.conv 22 23 .u32 v .u64 (fun z0 =>
 (oW0 = oW0) ∧
 (M.n0 (1 : Int) z0 (N.conv 3 23 .i64 nx .u64 (fun z1 =>
 (oW0 = oW0) ∧
 (M.n0 (2 : Int) z1 ((oW0 = oW0) ∧
 (K (.string (bytesOf [])) [(some (AObj.cells [(.int .u32 v), (.int .i64 nx)] 69 2 false true)), oW0])) (fun l2 =>
 (1 = 1) ∧
 (M.bt 1 l2 (fun s3 =>
 K (.string s3) [(some (AObj.cells [(.int .u32 v), (.int .i64 nx)] 69 2 false true)), (oW1 102 1), (oA l2)])))))) (fun l1 =>
 N.conv 3 23 .i64 nx .u64 (fun z2 =>
 (1 = 1) ∧
 (M.n1 1 l1 (2 : Int) z2 (fun o3 l4 =>
 (o3 = o3) ∧
 (M.bt o3 l4 (fun s5 =>
 K (.string s5) [(some (AObj.cells [(.int .u32 v), (.int .i64 nx)] 69 2 false true)), (oW1 103 o3), none, (oA l4)]))))))))) := by kernel_rfl
theorem gPutInstr_eq (N : Nd) (M : Mw) (op to : Int) (ak an : Int) (bk bn n : Int) (K : RK) : gPutInstr N M op to ak an bk bn n K =
 (N.conv 5 23 .u8 op .u64 (fun z0 =>
 (oW0 = oW0) ∧
 (M.n0 (1 : Int) z0 (N.conv 3 23 .i64 to .u64 (fun z1 =>
 (oW0 = oW0) ∧
 (M.n0 (2 : Int) z1 (N.conv 5 23 .u8 ak .u64 (fun z2 =>
 (oW0 = oW0) ∧
 (M.n0 (3 : Int) z2 ((oW0 = oW0) ∧
 (M.n0 (4 : Int) an (N.conv 5 23 .u8 bk .u64 (fun z3 =>
 (oW0 = oW0) ∧
 (M.n0 (5 : Int) z3 ((oW0 = oW0) ∧
 (M.n0 (6 : Int) bn (N.conv 3 23 .i64 n .u64 (fun z4 =>
 (oW0 = oW0) ∧
 (M.n0 (7 : Int) z4 ((oW0 = oW0) ∧
 (K (.string (bytesOf [])) [(some (AObj.cells (kInstr op to ak an bk bn n) 80 7 false true)), oW0])) (fun l5 =>
 (1 = 1) ∧
 (M.bt 1 l5 (fun s6 =>
 K (.string s6) [(some (AObj.cells (kInstr op to ak an bk bn n) 80 7 false true)), (oW1 102 1), (oA l5)])))))) (fun l4 =>
 N.conv 3 23 .i64 n .u64 (fun z5 =>
 (1 = 1) ∧
 (M.n1 1 l4 (7 : Int) z5 (fun o6 l7 =>
 (o6 = o6) ∧
 (M.bt o6 l7 (fun s8 =>
 K (.string s8) [(some (AObj.cells (kInstr op to ak an bk bn n) 80 7 false true)), (oW1 103 o6), none, (oA l7)])))))))) (fun l4 =>
 (1 = 1) ∧
 (M.n1 1 l4 (6 : Int) bn (fun o5 l6 =>
 N.conv 3 23 .i64 n .u64 (fun z7 =>
 (o5 = o5) ∧
 (M.n1 o5 l6 (7 : Int) z7 (fun o8 l9 =>
 (o8 = o8) ∧
 (M.bt o8 l9 (fun s10 =>
 K (.string s10) [(some (AObj.cells (kInstr op to ak an bk bn n) 80 7 false true)), (oW1 104 o8), none, none, (oA l9)]))))))))))) (fun l3 =>
 N.conv 5 23 .u8 bk .u64 (fun z4 =>
 (1 = 1) ∧
 (M.n1 1 l3 (5 : Int) z4 (fun o5 l6 =>
 (o5 = o5) ∧
 (M.n1 o5 l6 (6 : Int) bn (fun o7 l8 =>
 N.conv 3 23 .i64 n .u64 (fun z9 =>
 (o7 = o7) ∧
 (M.n1 o7 l8 (7 : Int) z9 (fun o10 l11 =>
 (o10 = o10) ∧
 (M.bt o10 l11 (fun s12 =>
 K (.string s12) [(some (AObj.cells (kInstr op to ak an bk bn n) 80 7 false true)), (oW1 105 o10), none, none, none, (oA l11)]))))))))))))) (fun l3 =>
 (1 = 1) ∧
 (M.n1 1 l3 (4 : Int) an (fun o4 l5 =>
 N.conv 5 23 .u8 bk .u64 (fun z6 =>
 (o4 = o4) ∧
 (M.n1 o4 l5 (5 : Int) z6 (fun o7 l8 =>
 (o7 = o7) ∧
 (M.n1 o7 l8 (6 : Int) bn (fun o9 l10 =>
 N.conv 3 23 .i64 n .u64 (fun z11 =>
 (o9 = o9) ∧
 (M.n1 o9 l10 (7 : Int) z11 (fun o12 l13 =>
 (o12 = o12) ∧
 (M.bt o12 l13 (fun s14 =>
 K (.string s14) [(some (AObj.cells (kInstr op to ak an bk bn n) 80 7 false true)), (oW1 106 o12), none, none, none, none, (oA l13)])))))))))))))))) (fun l2 =>
 N.conv 5 23 .u8 ak .u64 (fun z3 =>
 (1 = 1) ∧
 (M.n1 1 l2 (3 : Int) z3 (fun o4 l5 =>
 (o4 = o4) ∧
 (M.n1 o4 l5 (4 : Int) an (fun o6 l7 =>
 N.conv 5 23 .u8 bk .u64 (fun z8 =>
 (o6 = o6) ∧
 (M.n1 o6 l7 (5 : Int) z8 (fun o9 l10 =>
 (o9 = o9) ∧
 (M.n1 o9 l10 (6 : Int) bn (fun o11 l12 =>
 N.conv 3 23 .i64 n .u64 (fun z13 =>
 (o11 = o11) ∧
 (M.n1 o11 l12 (7 : Int) z13 (fun o14 l15 =>
 (o14 = o14) ∧
 (M.bt o14 l15 (fun s16 =>
 K (.string s16) [(some (AObj.cells (kInstr op to ak an bk bn n) 80 7 false true)), (oW1 107 o14), none, none, none, none, none, (oA l15)]))))))))))))))))))) (fun l1 =>
 N.conv 3 23 .i64 to .u64 (fun z2 =>
 (1 = 1) ∧
 (M.n1 1 l1 (2 : Int) z2 (fun o3 l4 =>
 N.conv 5 23 .u8 ak .u64 (fun z5 =>
 (o3 = o3) ∧
 (M.n1 o3 l4 (3 : Int) z5 (fun o6 l7 =>
 (o6 = o6) ∧
 (M.n1 o6 l7 (4 : Int) an (fun o8 l9 =>
 N.conv 5 23 .u8 bk .u64 (fun z10 =>
 (o8 = o8) ∧
 (M.n1 o8 l9 (5 : Int) z10 (fun o11 l12 =>
 (o11 = o11) ∧
 (M.n1 o11 l12 (6 : Int) bn (fun o13 l14 =>
 N.conv 3 23 .i64 n .u64 (fun z15 =>
 (o13 = o13) ∧
 (M.n1 o13 l14 (7 : Int) z15 (fun o16 l17 =>
 (o16 = o16) ∧
 (M.bt o16 l17 (fun s18 =>
 K (.string s18) [(some (AObj.cells (kInstr op to ak an bk bn n) 80 7 false true)), (oW1 108 o16), none, none, none, none, none, none, (oA l17)])))))))))))))))))))))) := by kernel_rfl
theorem gPutBucket_eq (N : Nd) (M : Mw) (w b : Int) (K : RK) : gPutBucket N M w b K =
 ((oW0 = oW0) ∧
 (M.n0 (1 : Int) w (N.conv 3 23 .i64 b .u64 (fun z0 =>
 (oW0 = oW0) ∧
 (M.n0 (2 : Int) z0 ((oW0 = oW0) ∧
 (K (.string (bytesOf [])) [(some (AObj.cells [(.int .u64 w), (.int .i64 b)] 106 2 false true)), oW0])) (fun l1 =>
 (1 = 1) ∧
 (M.bt 1 l1 (fun s2 =>
 K (.string s2) [(some (AObj.cells [(.int .u64 w), (.int .i64 b)] 106 2 false true)), (oW1 102 1), (oA l1)])))))) (fun l0 =>
 N.conv 3 23 .i64 b .u64 (fun z1 =>
 (1 = 1) ∧
 (M.n1 1 l0 (2 : Int) z1 (fun o2 l3 =>
 (o2 = o2) ∧
 (M.bt o2 l3 (fun s4 =>
 K (.string s4) [(some (AObj.cells [(.int .u64 w), (.int .i64 b)] 106 2 false true)), (oW1 103 o2), none, (oA l3)])))))))) := by kernel_rfl
theorem gPutInt_eq (N : Nd) (M : Mw) (n : Int) (K : RK) : gPutInt N M n K =
 (N.conv 3 23 .i64 n .u64 (fun z0 =>
 M.nb z0 (fun s1 =>
 K (.string s1) []))) := by kernel_rfl
end
end Go.Proofs.YtblbaohcelldpaaGreat.Ob
