/- . -/
import Derived.Test.YtblbaohcelldpaaGreatDoorWA
import Derived.Test.YtblbaohcelldpaaGreatDoorProg
import Derived.KernelRfl
set_option linter.all false
namespace Go.Proofs.Ob
open Go Go.Abs
abbrev nD:Prop:=([]:List Deferred)=[]
def pA(n:Nat):Value := .pointer (some ⟨n,0,none⟩)
abbrev cl1(n:Nat):Value := .func (.func n) ⟨[]⟩ ⟨[pA 101]⟩
abbrev Lv:=List Value
abbrev Lo:=List (Option AJ)
abbrev Bk:=List Value->List (Option AJ)->Prop
abbrev Ot:=Exit->List Value->List (Option AJ)->Prop
abbrev Ov:=Exit->List Value->Prop
abbrev qq0(x0:Int)(x1:ByteArray):Option AJ:=some (.cells [.int .u8 x0,.string x1] 94 2 false true)
abbrev qq1(x0:Int)(x1 x2:ByteArray)(x3 x4 x5:Int)(x6:List Value)(x7 x8 x9:Int)(x10:Bool):Option AJ:=some (.cells [.int .i64 x0,.string x1,.string x2,.int .i64 x3,.int .i64 x4,.int .i64 x5,dsl x6,.int .i64 x7,.int .i64 x8,.int .u64 x9,.bool x10] 39 11 false true)
abbrev qq2(x0:ByteArray):Option AJ:=some (.cells [.string x0,.bool true] 244 2 false true)
abbrev qq3(x0:ByteArray):Option AJ:=some (.cells [.string x0,.bool false] 244 2 false true)
abbrev qq4(x0 x1 x2 x3 x4 x5 x6:Int)(x7:List Value)(x8:Int):Option AJ:=some (.cells [.int .i64 x0,.int .i64 x1,.int .i64 x2,.int .i64 x3,.int .i64 x4,.int .i64 x5,.int .i64 x6,dsl x7,.int .i64 x8] 32 9 false true)
abbrev qq5(x0 x1 x2 x3 x4 x5 x6:Int):Option AJ:=some (.cells [.int .u8 x0,.int .i64 x1,.int .u8 x2,.int .u64 x3,.int .u8 x4,.int .u64 x5,.int .i64 x6] 66 7 false true)
abbrev qq6(x0 x1:Int)(x2:List Value)(x3 x4:Int):Option AJ:=some (.cells [.int .i64 x0,.int .u8 x1,dsl x2,.int .i64 x3,.int .i64 x4] 37 5 false true)
abbrev qq7(x0 x1 x2:Int)(x3:List Value):Option AJ:=some (.cells [.int .i64 x0,.int .u8 x1,.int .i64 x2,dsl x3] 45 4 false true)
abbrev qq8(x0 x1 x2 x3 x4:Int):Option AJ:=some (.cells [.int .i64 x0,.int .u8 x1,.int .i64 x2,.int .i64 x3,.int .i64 x4] 34 5 false true)
abbrev qq9(x0:ByteArray)(x1:Bool):Option AJ:=some (.cells [.string x0,.bool x1] 244 2 false true)
abbrev XX(x0:Int)(x1:List Value):Option AJ:=some (.cells [.int .i64 x0,dsl x1] 42 2 false true)
abbrev TM:Option AJ:=some (.cells [.int .i64 0] 53 1 false true)
abbrev ZP(x0 x1:Int):Option AJ:=some (.cells [.int .u32 x0,.int .i64 x1] 61 2 false true)
abbrev eO(x0 x1:Int):Option AJ:=some (.cells [.int .u64 x0,.int .i64 x1] 181 2 false true)
abbrev sP(x0 x1 x2:Int):Option AJ:=some (.cells [.int .i64 x0,.int .i64 x1,.int .i64 x2] 47 3 false true)
abbrev Y3(x0:ByteArray):Option AJ:=some (.cells [.string x0] 124 1 false true)
abbrev AH7:Value := .agg ⟨[.int .i64 0,.string (bytesOf []),.string (bytesOf []),.int .i64 0,.int .i64 0,.int .i64 0,.slice none 0 0,.int .i64 0,.int .i64 0,.int .u64 0,.bool false]⟩
abbrev AH8:Value := .agg ⟨[.int .i64 0,.int .i64 0,.int .i64 0,.int .i64 0,.int .i64 0,.int .i64 0,.int .i64 0,.slice none 0 0,.int .i64 0]⟩
abbrev AJW:Option AJ:=some (.cells [.int .i64 0,.string (bytesOf []),.string (bytesOf []),.int .i64 0,.int .i64 0,.int .i64 0,.slice none 0 0,.int .i64 0,.int .i64 0,.int .u64 0,.bool false] 39 11 false true)
abbrev AA8(x0 x1:Int):Option AJ:=some (.cells [.int .i64 x0,.int .i64 x1] 49 2 false true)
abbrev AHY:Option AJ:=some (.cells [.int .u8 0,.int .i64 0,.int .u8 0,.int .u64 0,.int .u8 0,.int .u64 0,.int .i64 0] 66 7 false true)
theorem okp:CV Tryz.prog 100=true:=by kernel_rfl
end Go.Proofs.Ob
