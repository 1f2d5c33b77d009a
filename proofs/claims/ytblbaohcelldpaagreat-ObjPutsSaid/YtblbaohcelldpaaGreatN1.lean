/- The program's operands are such as the evaluator takes. -/
import Derived.Test.YtblbaohcelldpaaGreatWB
import Derived.Test.YtblbaohcelldpaaGreatProg
import Derived.KernelRfl
namespace Go.Proofs.YtblbaohcelldpaaGreat
open Go Go.Abs
set_option linter.unusedVariables false
theorem okp : okProg Tryz.prog 100 = true := by kernel_rfl
abbrev kNode (x0 : Int) (x1 : Int) (x2 : Int) (x3 : Int) (x4 : Int) (x5 : Int) (x6 : Int) (x7 : List Value) (x8 : Int) : List Value := [.int .i64 x0, .int .i64 x1, .int .i64 x2, .int .i64 x3, .int .i64 x4, .int .i64 x5, .int .i64 x6, dsl x7, .int .i64 x8]
abbrev kField (x0 : Int) (x1 : Int) (x2 : Int) (x3 : Int) (x4 : Int) : List Value := [.int .i64 x0, .int .u8 x1, .int .i64 x2, .int .i64 x3, .int .i64 x4]
abbrev kTable (x0 : Int) (x1 : Int) (x2 : List Value) (x3 : Int) (x4 : Int) : List Value := [.int .i64 x0, .int .u8 x1, dsl x2, .int .i64 x3, .int .i64 x4]
abbrev kEntry (x0 : Int) (x1 : ByteArray) (x2 : ByteArray) (x3 : Int) (x4 : Int) (x5 : Int) (x6 : List Value) (x7 : Int) (x8 : Int) (x9 : Int) (x10 : Bool) : List Value := [.int .i64 x0, .string x1, .string x2, .int .i64 x3, .int .i64 x4, .int .i64 x5, dsl x6, .int .i64 x7, .int .i64 x8, .int .u64 x9, .bool x10]
abbrev kGroup (x0 : Int) (x1 : Int) (x2 : Int) (x3 : List Value) : List Value := [.int .i64 x0, .int .u8 x1, .int .i64 x2, dsl x3]
abbrev kInstr (x0 : Int) (x1 : Int) (x2 : Int) (x3 : Int) (x4 : Int) (x5 : Int) (x6 : Int) : List Value := [.int .u8 x0, .int .i64 x1, .int .u8 x2, .int .u64 x3, .int .u8 x4, .int .u64 x5, .int .i64 x6]
abbrev cM (x0 : Int) (x1 : Int) (x2 : Int) (x3 : Int) (x4 : Int) (x5 : Int) (x6 : Int) (x7 : Int) (x8 : Int) (x9 : ByteArray) (x10 : List Value) (x11 : Int) (x12 : Int) (x13 : Int) (x14 : Int) (x15 : Int) (x16 : Int) (x17 : Int) (x18 : List Value) (x19 : Int) (x20 : Int) (x21 : Int) (x22 : Int) (x23 : Int) (x24 : Int) (x25 : Int) (x26 : Int) (x27 : List Value) (x28 : Int) (x29 : Int) (x30 : Int) (x31 : ByteArray) (x32 : ByteArray) (x33 : Int) (x34 : Int) (x35 : Int) (x36 : List Value) (x37 : Int) (x38 : Int) (x39 : Int) (x40 : Bool) (x41 : Int) (x42 : List Value) (x43 : Int) (x44 : Int) (x45 : Int) (x46 : List Value) (x47 : Int) (x48 : Int) (x49 : Int) (x50 : Int) (x51 : Int) : List Value := [.int .u8 x0, .int .u32 x1, .int .i64 x2, .int .i64 x3, .int .i64 x4, .int .i64 x5, .int .i64 x6, .int .u64 x7, .int .u64 x8, .string x9, dsl x10, .int .i64 x11, .int .i64 x12, .int .i64 x13, .int .i64 x14, .int .i64 x15, .int .i64 x16, .int .i64 x17, dsl x18, .int .i64 x19, .int .i64 x20, .int .u8 x21, .int .i64 x22, .int .i64 x23, .int .i64 x24, .int .i64 x25, .int .u8 x26, dsl x27, .int .i64 x28, .int .i64 x29, .int .i64 x30, .string x31, .string x32, .int .i64 x33, .int .i64 x34, .int .i64 x35, dsl x36, .int .i64 x37, .int .i64 x38, .int .u64 x39, .bool x40, .int .i64 x41, dsl x42, .int .i64 x43, .int .u8 x44, .int .i64 x45, dsl x46, .int .i64 x47, .int .i64 x48, .int .i64 x49, .int .i64 x50, .int .i64 x51]
abbrev cO (x0 : Int) (x1 : Int) (x2 : Int) (x3 : Int) (x4 : Int) (x5 : Int) (x6 : Int) (x7 : Int) (x8 : Int) (x9 : ByteArray) (x10 : List Value) (x11 : Int) (x12 : Int) (x13 : Int) (x14 : Int) (x15 : Int) (x16 : Int) (x17 : Int) (x18 : Value) (x19 : Int) (x20 : Int) (x21 : Int) (x22 : Int) (x23 : Int) (x24 : Int) (x25 : Int) (x26 : Int) (x27 : Value) (x28 : Int) (x29 : Int) (x30 : Int) (x31 : ByteArray) (x32 : ByteArray) (x33 : Int) (x34 : Int) (x35 : Int) (x36 : Value) (x37 : Int) (x38 : Int) (x39 : Int) (x40 : Bool) (x41 : Int) (x42 : Value) (x43 : Int) (x44 : Int) (x45 : Int) (x46 : Value) (x47 : Int) (x48 : Int) (x49 : Int) (x50 : Int) (x51 : Int) : List Value := [.int .u8 x0, .int .u32 x1, .int .i64 x2, .int .i64 x3, .int .i64 x4, .int .i64 x5, .int .i64 x6, .int .u64 x7, .int .u64 x8, .string x9, dsl x10, .int .i64 x11, .int .i64 x12, .int .i64 x13, .int .i64 x14, .int .i64 x15, .int .i64 x16, .int .i64 x17, x18, .int .i64 x19, .int .i64 x20, .int .u8 x21, .int .i64 x22, .int .i64 x23, .int .i64 x24, .int .i64 x25, .int .u8 x26, x27, .int .i64 x28, .int .i64 x29, .int .i64 x30, .string x31, .string x32, .int .i64 x33, .int .i64 x34, .int .i64 x35, x36, .int .i64 x37, .int .i64 x38, .int .u64 x39, .bool x40, .int .i64 x41, x42, .int .i64 x43, .int .u8 x44, .int .i64 x45, x46, .int .i64 x47, .int .i64 x48, .int .i64 x49, .int .i64 x50, .int .i64 x51]
abbrev oW0 : Option AObj := some (.cells [.slice none 0 0] 131 1 false true)
abbrev oW1 (n k : Nat) : Option AObj := some (.cells [.slice (some ⟨n, 0, none⟩) k k] 131 1 false true)
abbrev oA (l : List Value) : Option AObj := some (.cells l 166 2 true true)
abbrev o2 (o : Option AObj) : List (Option AObj) := [o, o]
abbrev o3 (o : Option AObj) : List (Option AObj) := [o, o, o]
abbrev lfO (K : Value → List (Option AObj) → Prop) (c : List Value) (r : List (Option AObj)) : Prop := K (.agg ⟨c⟩) (some (.cells c 46 52 false true) :: some (.cells c 46 52 false true) :: r)
abbrev nD : Prop := ([] : List Deferred) = []
abbrev Bk := List Value → List (Option AObj) → Prop
abbrev Ot := Exit → List Value → List (Option AObj) → Prop
end Go.Proofs.YtblbaohcelldpaaGreat
