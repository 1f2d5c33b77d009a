/- . -/
import Derived.Test.YtblbaohcelldpaaGreatDoorWB
import Derived.Test.YtblbaohcelldpaaGreatDoorProg
import Derived.KernelRfl
set_option linter.all false
namespace Go.Proofs.Ob
open Go Go.Abs
abbrev nD:Prop:=([]:List Deferred)=[]
def pA(n:Nat):Value := .pointer (some ⟨n,0,none⟩)
abbrev cl1(n:Nat):Value := .func (.func n) ⟨[]⟩ ⟨[pA 101]⟩
abbrev Lv:=List Value
abbrev Lo:=List (Option AA)
abbrev Bk:=List Value->List (Option AA)->Prop
abbrev Ot:=Exit->List Value->List (Option AA)->Prop
abbrev Ov:=Exit->List Value->Prop
abbrev qq0(x0:Int)(x1 x2:ByteArray)(x3 x4 x5:Int)(x6:List Value)(x7 x8 x9:Int)(x10:Bool):Option AA:=some (.cells [.int .i64 x0,.string x1,.string x2,.int .i64 x3,.int .i64 x4,.int .i64 x5,dsl x6,.int .i64 x7,.int .i64 x8,.int .u64 x9,.bool x10] 39 11 false true)
abbrev qq1:Option AA:=some (.cells [.slice none 0 0] 196 1 false true)
abbrev qq2(x0:Value):Option AA:=some (.cells [x0] 196 1 false true)
abbrev qq3(x0 x1 x2 x3 x4 x5 x6:Int)(x7:List Value)(x8:Int):Option AA:=some (.cells [.int .i64 x0,.int .i64 x1,.int .i64 x2,.int .i64 x3,.int .i64 x4,.int .i64 x5,.int .i64 x6,dsl x7,.int .i64 x8] 32 9 false true)
abbrev qq4(x0 x1:Int)(x2:List Value)(x3 x4:Int):Option AA:=some (.cells [.int .i64 x0,.int .u8 x1,dsl x2,.int .i64 x3,.int .i64 x4] 37 5 false true)
abbrev qq5(x0 x1 x2:Int)(x3:List Value):Option AA:=some (.cells [.int .i64 x0,.int .u8 x1,.int .i64 x2,dsl x3] 45 4 false true)
abbrev qq6(x0:Int)(x1:ByteArray):Option AA:=some (.cells [.int .u8 x0,.string x1] 94 2 false true)
abbrev qq7(x0 x1 x2 x3 x4 x5 x6:Int):Option AA:=some (.cells [.int .u8 x0,.int .i64 x1,.int .u8 x2,.int .u64 x3,.int .u8 x4,.int .u64 x5,.int .i64 x6] 66 7 false true)
abbrev qq8(x0:Int)(x1:List Value):Option AA:=some (.cells [.int .i64 x0,dsl x1] 42 2 false true)
abbrev qq9(x0 x1 x2 x3:Int):Option AA:=some (.cells [.int .i64 x0,.int .i64 x1,.int .i64 x2,.int .i64 x3] 3 1 false true)
abbrev TJ(x0 x1 x2:Int):Option AA:=some (.cells [.int .i64 x0,.int .i64 x1,.int .i64 x2] 47 3 false true)
abbrev WY(x0 x1 x2 x3 x4:Int):Option AA:=some (.cells [.int .i64 x0,.int .u8 x1,.int .i64 x2,.int .i64 x3,.int .i64 x4] 34 5 false true)
abbrev RJ(x0:Int):Option AA:=some (.cells [.int .i64 x0] 3 1 false true)
abbrev UY(x0 x1 x2 x3 x4 x5 x6 x7:Int):Option AA:=some (.cells [.int .i64 x0,.int .i64 x1,.int .i64 x2,.int .i64 x3,.int .i64 x4,.int .i64 x5,.int .i64 x6,.int .i64 x7] 3 1 false true)
abbrev VM(x0 x1:Int):Option AA:=some (.cells [.int .i64 x0,.int .i64 x1] 3 1 false true)
abbrev TK(x0:ByteArray):Option AA:=some (.cells [.string x0] 9 1 false true)
abbrev WZ(x0 x1:Int):Option AA:=some (.cells [.int .i64 x0,.int .i64 x1] 49 2 false true)
abbrev AAj(x0 x1:Int):Option AA:=some (.cells [.int .u32 x0,.int .i64 x1] 61 2 false true)
abbrev YF(x0 x1:Int):Option AA:=some (.cells [.int .u64 x0,.int .i64 x1] 181 2 false true)
abbrev kV(x0 x1 x2:Int):Option AA:=some (.cells [.int .i64 x0,.int .i64 x1,.int .i64 x2] 3 1 false true)
abbrev AKF(x0 x1:Int):Option AA:=some (.cells [.int .u8 x0,.int .u8 x1] 5 1 false true)
theorem okp:D8 Tryz.prog 100=true:=by kernel_rfl
end Go.Proofs.Ob
