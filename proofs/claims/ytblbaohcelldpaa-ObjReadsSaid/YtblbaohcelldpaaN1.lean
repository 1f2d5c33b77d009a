/- The program's operands are such as the evaluator takes. -/
import Derived.Test.YtblbaohcelldpaaWA
import Derived.Test.YtblbaohcelldpaaProg
import Derived.KernelRfl
set_option linter.all false
namespace Go.Proofs.Ytblbaohcelldpaa
open Go Go.Abs
namespace Ob
abbrev nD:Prop:=([]:List Deferred)=[]
def pA(n:Nat):Value := .pointer (some ⟨n,0,none⟩)
abbrev cl1(n:Nat):Value := .func (.func n) ⟨[]⟩ ⟨[pA 101]⟩
abbrev Bk:=List Value->List (Option AObj)->Prop
abbrev Ot:=Exit->List Value->List (Option AObj)->Prop
abbrev Ov:=Exit->List Value->Prop
abbrev qq0(x0:Int)(x1:ByteArray):Option AObj:=some (.cells [.int .u8 x0,.string x1] 152 2 false true)
abbrev qq1(x0:Int)(x1 x2:ByteArray)(x3 x4 x5:Int)(x6:List Value)(x7 x8 x9:Int)(x10:Bool):Option AObj:=some (.cells [.int .i64 x0,.string x1,.string x2,.int .i64 x3,.int .i64 x4,.int .i64 x5,dsl x6,.int .i64 x7,.int .i64 x8,.int .u64 x9,.bool x10] 34 11 false true)
abbrev qq2(x0:ByteArray):Option AObj:=some (.cells [.string x0,.bool true] 154 2 false true)
abbrev qq3(x0:ByteArray):Option AObj:=some (.cells [.string x0,.bool false] 154 2 false true)
abbrev qq4(x0 x1 x2 x3 x4 x5 x6:Int)(x7:List Value)(x8:Int):Option AObj:=some (.cells [.int .i64 x0,.int .i64 x1,.int .i64 x2,.int .i64 x3,.int .i64 x4,.int .i64 x5,.int .i64 x6,dsl x7,.int .i64 x8] 27 9 false true)
abbrev qq5(x0 x1 x2 x3 x4 x5 x6:Int):Option AObj:=some (.cells [.int .u8 x0,.int .i64 x1,.int .u8 x2,.int .u64 x3,.int .u8 x4,.int .u64 x5,.int .i64 x6] 70 7 false true)
abbrev qq6(x0 x1:Int)(x2:List Value)(x3 x4:Int):Option AObj:=some (.cells [.int .i64 x0,.int .u8 x1,dsl x2,.int .i64 x3,.int .i64 x4] 32 5 false true)
abbrev qq7(x0 x1 x2:Int)(x3:List Value):Option AObj:=some (.cells [.int .i64 x0,.int .u8 x1,.int .i64 x2,dsl x3] 40 4 false true)
abbrev qq8(x0 x1 x2 x3 x4:Int):Option AObj:=some (.cells [.int .i64 x0,.int .u8 x1,.int .i64 x2,.int .i64 x3,.int .i64 x4] 29 5 false true)
abbrev qq9(x0:ByteArray)(x1:Bool):Option AObj:=some (.cells [.string x0,.bool x1] 154 2 false true)
abbrev qq10(x0:Int)(x1:List Value):Option AObj:=some (.cells [.int .i64 x0,dsl x1] 37 2 false true)
abbrev qq11:Option AObj:=some (.cells [.int .i64 0] 59 1 false true)
abbrev qq12(x0 x1:Int):Option AObj:=some (.cells [.int .u32 x0,.int .i64 x1] 76 2 false true)
abbrev qq13(x0 x1:Int):Option AObj:=some (.cells [.int .u64 x0,.int .i64 x1] 82 2 false true)
abbrev qq14(x0 x1 x2:Int):Option AObj:=some (.cells [.int .i64 x0,.int .i64 x1,.int .i64 x2] 42 3 false true)
abbrev qq15(x0:ByteArray):Option AObj:=some (.cells [.string x0] 171 1 false true)
abbrev rq16:Value := .agg ⟨[.int .i64 0,.string (bytesOf []),.string (bytesOf []),.int .i64 0,.int .i64 0,.int .i64 0,.slice none 0 0,.int .i64 0,.int .i64 0,.int .u64 0,.bool false]⟩
abbrev rq17:Value := .agg ⟨[.int .i64 0,.int .i64 0,.int .i64 0,.int .i64 0,.int .i64 0,.int .i64 0,.int .i64 0,.slice none 0 0,.int .i64 0]⟩
abbrev qq18:Option AObj:=some (.cells [.int .i64 0,.string (bytesOf []),.string (bytesOf []),.int .i64 0,.int .i64 0,.int .i64 0,.slice none 0 0,.int .i64 0,.int .i64 0,.int .u64 0,.bool false] 34 11 false true)
abbrev qq19(x0 x1:Int):Option AObj:=some (.cells [.int .i64 x0,.int .i64 x1] 44 2 false true)
abbrev qq20:Option AObj:=some (.cells [.int .u8 0,.int .i64 0,.int .u8 0,.int .u64 0,.int .u8 0,.int .u64 0,.int .i64 0] 70 7 false true)
end Ob
theorem okp:okProg Try.prog 100=true:=by kernel_rfl
end Go.Proofs.Ytblbaohcelldpaa
