/- A message's attributes: what the code asks. -/
import Derived.Test.YtblbaohcelldpaaGreatDoorU8
import Derived.Test.YtblbaohcelldpaaGreatDoorS6
set_option linter.all false
namespace Go.Proofs.YtblbaohcelldpaaGreatDoor.Ob
open Go Go.Abs Go.Tlv
set_option maxRecDepth 100000
noncomputable section
def fn2(f a b:Nat):Value := .func (.func f) ⟨[]⟩ ⟨[pA a,pA b]⟩
def bx(l:List Value)(t:Nat):Option AObj:=some (.cells l t 1 false true)
def bp(l:List Value):Option AObj:=some (.cells l 91 2 false true)
def allP:Option AObj:=some (.cells [.nilFunc,.nilFunc,fn2 139 102 103,fn2 141 103 102,fn2 139 105 106,fn2 141 106 105,fn2 139 108 109,fn2 141 109 108,fn2 139 111 112,fn2 141 112 111,fn2 139 114 115,fn2 141 115 114,fn2 143 117 118,fn2 144 118 117,fn2 143 120 121,fn2 144 121 120,fnV 145,fnV 146,fnV 147,fnV 149,fn2 151 126 125,fn2 152 127 125,fn2 163 130 129,fn2 164 131 129,fn2 168 134 133,fn2 169 135 133,fn2 175 138 137,fn2 176 139 137,fn2 186 142 141,fn2 187 143 141,fn2 194 146 145,fn2 195 147 145,fn2 202 150 149,fn2 203 151 149,fn2 206 154 153,fn2 207 155 153] 92 36 false true)
def pObjs:List (Option AObj):=[allP,bx [fnV 75] 128,bx [.int .u64 2147483647] 28,bp [fn2 139 102 103,fn2 141 103 102],bx [fnV 76] 128,bx [.int .u64 2147483647] 28,bp [fn2 139 105 106,fn2 141 106 105],bx [fnV 77] 128,bx [.int .u64 2147483647] 28,bp [fn2 139 108 109,fn2 141 109 108],bx [fnV 78] 128,bx [.int .u64 2147483647] 28,bp [fn2 139 111 112,fn2 141 112 111],bx [fnV 79] 128,bx [.int .u64 2147483647] 28,bp [fn2 139 114 115,fn2 141 115 114],bx [fnV 81] 131,bx [.int .u64 18446744073709551615] 28,bp [fn2 143 117 118,fn2 144 118 117],bx [fnV 82] 131,bx [.int .u64 18446744073709551615] 28,bp [fn2 143 120 121,fn2 144 121 120],bp [fnV 145,fnV 146],bp [fnV 147,fnV 149],bx [fnV 86] 135,bx [fnV 87] 136,bx [fnV 88] 137,bp [fn2 151 126 125,fn2 152 127 125],bx [fnV 90] 140,bx [fnV 91] 141,bx [fnV 92] 142,bp [fn2 163 130 129,fn2 164 131 129],bx [fnV 94] 145,bx [fnV 95] 146,bx [fnV 96] 147,bp [fn2 168 134 133,fn2 169 135 133],bx [fnV 98] 150,bx [fnV 99] 151,bx [fnV 100] 152,bp [fn2 175 138 137,fn2 176 139 137],bx [fnV 102] 155,bx [fnV 103] 156,bx [fnV 104] 157,bp [fn2 186 142 141,fn2 187 143 141],bx [fnV 106] 160,bx [fnV 107] 161,bx [fnV 108] 162,bp [fn2 194 146 145,fn2 195 147 145],bx [fnV 110] 165,bx [fnV 111] 166,bx [fnV 112] 167,bp [fn2 202 150 149,fn2 203 151 149],bx [fnV 114] 170,bx [fnV 115] 171,bx [fnV 116] 172,bp [fn2 206 154 153,fn2 207 155 153],allP]
def lM(x:OMsg):List Value:=match vMsg x with
 | .agg ⟨l⟩=>l
 |_=>[]
def cM(x:OMsg):AObj := .cells (lM x) 51 52 false true
abbrev LAx:=Code->Nat->List Value->List (Option AObj)->(Nat->Option AObj->Prop)->Prop->Prop
def holes:List (Option AObj):=List.replicate 58 none
def sLpA(L:LAx):LpS:=lpS [2,3,4] fun c n vals obs K=>L c n vals obs (fun k ob=>K (.exit 0) [top,top,mkS 158 k] (holes++[ob])) (K .ret [.slice none 0 0,.bool false,top] holes)
def noV:Value := .tuple ⟨[.slice none 0 0,.bool false]⟩
def gAtt(N:Nd)(L:LAx)(x:OMsg)(K:RK):Prop:=wpe Tryz.prog N (howOf Z0 Zp [] [(6,(48,([1,4,5,6],sLpA L)))] [] []) 1000 (.call 35 [vMsg x] h0) (retQ 100 K)
theorem gAtt_eq(N:Nd)(L:LAx)(x:OMsg)(K:RK):gAtt N L x K=N.cmp .geq .u8 (x.a0:Int) .u8 1 (N.cmp .leq .u8 (x.a0:Int) .u8 46 (L (loopIn Tryz.prog 35 6) 48 [pA 100,.slice none 0 0,pA 157,.int .u8 1] (some (cM x)::pObjs)
 (fun k ob=>K (.tuple ⟨[mkS 158 k,.bool true]⟩) (holes++[ob])) (K noV holes)) (K noV [some (cM x)])) (K noV [some (cM x)]):=by kernel_rfl
abbrev MNm:=Int->(ByteArray->Prop)->Prop
def sNm(M:MNm):List Value->(Value->Prop)->Prop
 | [.int .u64 n],K=>M n fun s=>K (.string s)
 |_,_=>False
abbrev MOf:=Int->Int->Prop->Prop->Prop
def sOf(M:MOf):List Value->(Value->Prop)->Prop
 | [.int .u8 k,.int .u8 t],K=>M k t (K (.bool true)) (K (.bool false))
 |_,_=>False
abbrev MPx:=Value->(ByteArray->Prop)->Prop->Prop
def sPx(M:MPx):List Value->(Value->Prop)->Prop
 | [a],K=>M a (fun s=>K (.tuple ⟨[.string s,.int .i64 0]⟩)) (K (.tuple ⟨[.string (bytesOf []),.int .i64 3]⟩))
 |_,_=>False
abbrev MW2:=List Value->(ByteArray->Bool->Prop)->Prop
def sWd(M:MW2):List Value->Heap->VK->Prop
 | [.pointer (some ⟨b,0,none⟩)],H,K=>match Nat.ble 100 b&&Nat.ble (b+1) H.next,H.get b with
  |true,some (.cells vs _ _ _ _)=>M vs fun s b=>K (.tuple ⟨[.string s,.bool b]⟩) H
  |_,_=>False
 |_,_,_=>False
structure MAt where
 n:MNm
 o:MOf
 w:MW2
 p0:MPx
 p1:MPx
 p2:MPx
 p3:MPx
 p4:MPx
 p5:MPx
 p6:MPx
 p7:MPx
def puA(M:MAt):PuL:=[(140,sNm M.n),(34,sOf M.o),(87,sPx M.p0),(91,sPx M.p1),(95,sPx M.p2),(99,sPx M.p3),(103,sPx M.p4),(107,sPx M.p5),(111,sPx M.p6),(115,sPx M.p7)]
def syO:Sy:=fun b=>match Nat.beq b 158 with|true=>some true|false=>none
def gAttR(N:Nd)(M:MAt)(x:OMsg)(k:Nat)(ob:Option AObj)(back:List Value->List (Option AObj)->Prop)(out:Exit->List Value->List (Option AObj)->Prop)(t:Int):Prop:=
 wpe Tryz.prog N (howOf syO Zp [(147,sWd M.w)] [] (puA M) [(48,15),(48,17),(21,20)]) 300 (.code false (loopIn Tryz.prog 35 6) (stOf 100 48 [1,4,5,6] [] ([pA 100,mkS 158 k,pA 157,.int .u8 t],some (cM x)::(pObjs++[ob])))) (roundQ 100 [1,4,5,6] [2,3,4] 48 [] back out)
def gotA(N:Nd)(M:MAt)(x:OMsg)(k:Nat)(ob:Option AObj)(t:Int)(s:ByteArray)(A R:Prop)(B:List Value->Nat->Prop):Prop:=
 N.scmp .neq s (bytesOf []) (M.o (x.a0:Int) t (N.scmp .neq s (bytesOf []) (N.base true k k ob 94 2 fun vs=>N.appX k vs 1 [.int .u8 t,.string s] 2 24 B) A) R) (N.scmp .neq s (bytesOf []) (N.base true k k ob 94 2 fun vs=>N.appX k vs 1 [.int .u8 t,.string s] 2 24 B) A)
theorem gAttR1_eq(N:Nd)(M:MAt)(x:OMsg)(k:Nat)(ob:Option AObj)(back:Bk)(out:Ot):gAttR N M x k ob back out 1=(N.conv 3 28 .i64 x.a2 .u64 fun z=>M.n z fun s=>N.cmp .leq .u64 z .u64 2147483647 (gotA N M x k ob 1 s (([]:List Deferred)=[]/\back [pA 100,mkS 158 k,pA 157,.int .u8 2] (some (cM x)::(pObjs++[ob]))) (([]:List Deferred)=[]/\out .ret [.slice none 0 0,.bool false,mkS 158 k] (some (cM x)::(pObjs++[ob]))) (fun vs' k'=>([]:List Deferred)=[]/\back [pA 100,.slice (some ⟨160,0,none⟩) k' k',pA 157,.int .u8 2] (some (cM x)::(pObjs++[none,some (.cells [.int .u8 1,.string s] 94 2 false true),some (.cells vs' 94 2 true true)])))) (([]:List Deferred)=[]/\out .ret [.slice none 0 0,.bool false,mkS 158 k] (some (cM x)::(pObjs++[ob])))):=by kernel_rfl
theorem gAttR2_eq(N:Nd)(M:MAt)(x:OMsg)(k:Nat)(ob:Option AObj)(back:Bk)(out:Ot):gAttR N M x k ob back out 2=(N.conv 3 28 .i64 x.a3 .u64 fun z=>M.n z fun s=>N.cmp .leq .u64 z .u64 2147483647 (gotA N M x k ob 2 s (([]:List Deferred)=[]/\back [pA 100,mkS 158 k,pA 157,.int .u8 3] (some (cM x)::(pObjs++[ob]))) (([]:List Deferred)=[]/\out .ret [.slice none 0 0,.bool false,mkS 158 k] (some (cM x)::(pObjs++[ob]))) (fun vs' k'=>([]:List Deferred)=[]/\back [pA 100,.slice (some ⟨160,0,none⟩) k' k',pA 157,.int .u8 3] (some (cM x)::(pObjs++[none,some (.cells [.int .u8 2,.string s] 94 2 false true),some (.cells vs' 94 2 true true)])))) (([]:List Deferred)=[]/\out .ret [.slice none 0 0,.bool false,mkS 158 k] (some (cM x)::(pObjs++[ob])))):=by kernel_rfl
theorem gAttR3_eq(N:Nd)(M:MAt)(x:OMsg)(k:Nat)(ob:Option AObj)(back:Bk)(out:Ot):gAttR N M x k ob back out 3=(N.conv 3 28 .i64 x.a4 .u64 fun z=>M.n z fun s=>N.cmp .leq .u64 z .u64 2147483647 (gotA N M x k ob 3 s (([]:List Deferred)=[]/\back [pA 100,mkS 158 k,pA 157,.int .u8 4] (some (cM x)::(pObjs++[ob]))) (([]:List Deferred)=[]/\out .ret [.slice none 0 0,.bool false,mkS 158 k] (some (cM x)::(pObjs++[ob]))) (fun vs' k'=>([]:List Deferred)=[]/\back [pA 100,.slice (some ⟨160,0,none⟩) k' k',pA 157,.int .u8 4] (some (cM x)::(pObjs++[none,some (.cells [.int .u8 3,.string s] 94 2 false true),some (.cells vs' 94 2 true true)])))) (([]:List Deferred)=[]/\out .ret [.slice none 0 0,.bool false,mkS 158 k] (some (cM x)::(pObjs++[ob])))):=by kernel_rfl
theorem gAttR4_eq(N:Nd)(M:MAt)(x:OMsg)(k:Nat)(ob:Option AObj)(back:Bk)(out:Ot):gAttR N M x k ob back out 4=(N.conv 3 28 .i64 x.a5 .u64 fun z=>M.n z fun s=>N.cmp .leq .u64 z .u64 2147483647 (gotA N M x k ob 4 s (([]:List Deferred)=[]/\back [pA 100,mkS 158 k,pA 157,.int .u8 5] (some (cM x)::(pObjs++[ob]))) (([]:List Deferred)=[]/\out .ret [.slice none 0 0,.bool false,mkS 158 k] (some (cM x)::(pObjs++[ob]))) (fun vs' k'=>([]:List Deferred)=[]/\back [pA 100,.slice (some ⟨160,0,none⟩) k' k',pA 157,.int .u8 5] (some (cM x)::(pObjs++[none,some (.cells [.int .u8 4,.string s] 94 2 false true),some (.cells vs' 94 2 true true)])))) (([]:List Deferred)=[]/\out .ret [.slice none 0 0,.bool false,mkS 158 k] (some (cM x)::(pObjs++[ob])))):=by kernel_rfl
theorem gAttR5_eq(N:Nd)(M:MAt)(x:OMsg)(k:Nat)(ob:Option AObj)(back:Bk)(out:Ot):gAttR N M x k ob back out 5=(N.conv 3 28 .i64 x.a6 .u64 fun z=>M.n z fun s=>N.cmp .leq .u64 z .u64 2147483647 (gotA N M x k ob 5 s (([]:List Deferred)=[]/\back [pA 100,mkS 158 k,pA 157,.int .u8 6] (some (cM x)::(pObjs++[ob]))) (([]:List Deferred)=[]/\out .ret [.slice none 0 0,.bool false,mkS 158 k] (some (cM x)::(pObjs++[ob]))) (fun vs' k'=>([]:List Deferred)=[]/\back [pA 100,.slice (some ⟨160,0,none⟩) k' k',pA 157,.int .u8 6] (some (cM x)::(pObjs++[none,some (.cells [.int .u8 5,.string s] 94 2 false true),some (.cells vs' 94 2 true true)])))) (([]:List Deferred)=[]/\out .ret [.slice none 0 0,.bool false,mkS 158 k] (some (cM x)::(pObjs++[ob])))):=by kernel_rfl
theorem gAttR6_eq(N:Nd)(M:MAt)(x:OMsg)(k:Nat)(ob:Option AObj)(back:Bk)(out:Ot):gAttR N M x k ob back out 6=(M.n (x.a7:Int) fun s=>N.cmp .leq .u64 (x.a7:Int) .u64 18446744073709551615 (gotA N M x k ob 6 s (([]:List Deferred)=[]/\back [pA 100,mkS 158 k,pA 157,.int .u8 7] (some (cM x)::(pObjs++[ob]))) (([]:List Deferred)=[]/\out .ret [.slice none 0 0,.bool false,mkS 158 k] (some (cM x)::(pObjs++[ob]))) (fun vs' k'=>([]:List Deferred)=[]/\back [pA 100,.slice (some ⟨160,0,none⟩) k' k',pA 157,.int .u8 7] (some (cM x)::(pObjs++[none,some (.cells [.int .u8 6,.string s] 94 2 false true),some (.cells vs' 94 2 true true)])))) (([]:List Deferred)=[]/\out .ret [.slice none 0 0,.bool false,mkS 158 k] (some (cM x)::(pObjs++[ob])))):=by kernel_rfl
theorem gAttR7_eq(N:Nd)(M:MAt)(x:OMsg)(k:Nat)(ob:Option AObj)(back:Bk)(out:Ot):gAttR N M x k ob back out 7=(M.n (x.a8:Int) fun s=>N.cmp .leq .u64 (x.a8:Int) .u64 18446744073709551615 (gotA N M x k ob 7 s (([]:List Deferred)=[]/\back [pA 100,mkS 158 k,pA 157,.int .u8 8] (some (cM x)::(pObjs++[ob]))) (([]:List Deferred)=[]/\out .ret [.slice none 0 0,.bool false,mkS 158 k] (some (cM x)::(pObjs++[ob]))) (fun vs' k'=>([]:List Deferred)=[]/\back [pA 100,.slice (some ⟨160,0,none⟩) k' k',pA 157,.int .u8 8] (some (cM x)::(pObjs++[none,some (.cells [.int .u8 7,.string s] 94 2 false true),some (.cells vs' 94 2 true true)])))) (([]:List Deferred)=[]/\out .ret [.slice none 0 0,.bool false,mkS 158 k] (some (cM x)::(pObjs++[ob])))):=by kernel_rfl
theorem gAttR8_eq(N:Nd)(M:MAt)(x:OMsg)(k:Nat)(ob:Option AObj)(back:Bk)(out:Ot):gAttR N M x k ob back out 8=(gotA N M x k ob 8 x.a9 (([]:List Deferred)=[]/\back [pA 100,mkS 158 k,pA 157,.int .u8 9] (some (cM x)::(pObjs++[ob]))) (([]:List Deferred)=[]/\out .ret [.slice none 0 0,.bool false,mkS 158 k] (some (cM x)::(pObjs++[ob]))) (fun vs' k'=>([]:List Deferred)=[]/\back [pA 100,.slice (some ⟨160,0,none⟩) k' k',pA 157,.int .u8 9] (some (cM x)::(pObjs++[none,some (.cells [.int .u8 8,.string x.a9] 94 2 false true),some (.cells vs' 94 2 true true)])))):=by kernel_rfl
theorem gAttR9_eq(N:Nd)(M:MAt)(x:OMsg)(k:Nat)(ob:Option AObj)(back:Bk)(out:Ot):gAttR N M x k ob back out 9=(M.w (lM x) fun s b=>branch b (gotA N M x k ob 9 s (([]:List Deferred)=[]/\back [pA 100,mkS 158 k,pA 157,.int .u8 10] (some (cM x)::(pObjs++[ob]))) (([]:List Deferred)=[]/\out .ret [.slice none 0 0,.bool false,mkS 158 k] (some (cM x)::(pObjs++[ob]))) (fun vs' k'=>([]:List Deferred)=[]/\back [pA 100,.slice (some ⟨160,0,none⟩) k' k',pA 157,.int .u8 10] (some (cM x)::(pObjs++[none,some (.cells [.int .u8 9,.string s] 94 2 false true),some (.cells vs' 94 2 true true)])))) (([]:List Deferred)=[]/\out .ret [.slice none 0 0,.bool false,mkS 158 k] (some (cM x)::(pObjs++[ob])))):=by kernel_rfl
theorem gAttR10_eq(N:Nd)(M:MAt)(x:OMsg)(k:Nat)(ob:Option AObj)(back:Bk)(out:Ot):gAttR N M x k ob back out 10=(M.p0 (vNode x.n) (fun s=>bx [fnV 87] 136=bx [fnV 87] 136/\gotA N M x k ob 10 s (([]:List Deferred)=[]/\back [pA 100,mkS 158 k,pA 157,.int .u8 11] (some (cM x)::(pObjs++[ob]))) (([]:List Deferred)=[]/\out .ret [.slice none 0 0,.bool false,mkS 158 k] (some (cM x)::(pObjs++[ob]))) (fun vs' k'=>([]:List Deferred)=[]/\back [pA 100,.slice (some ⟨160,0,none⟩) k' k',pA 157,.int .u8 11] (some (cM x)::(pObjs++[none,some (.cells [.int .u8 10,.string s] 94 2 false true),some (.cells vs' 94 2 true true)])))) (bx [fnV 87] 136=bx [fnV 87] 136/\(([]:List Deferred)=[]/\out .ret [.slice none 0 0,.bool false,mkS 158 k] (some (cM x)::(pObjs++[ob]))))):=by kernel_rfl
theorem gAttR11_eq(N:Nd)(M:MAt)(x:OMsg)(k:Nat)(ob:Option AObj)(back:Bk)(out:Ot):gAttR N M x k ob back out 11=(M.p1 (vField x.f) (fun s=>bx [fnV 91] 141=bx [fnV 91] 141/\gotA N M x k ob 11 s (([]:List Deferred)=[]/\back [pA 100,mkS 158 k,pA 157,.int .u8 12] (some (cM x)::(pObjs++[ob]))) (([]:List Deferred)=[]/\out .ret [.slice none 0 0,.bool false,mkS 158 k] (some (cM x)::(pObjs++[ob]))) (fun vs' k'=>([]:List Deferred)=[]/\back [pA 100,.slice (some ⟨160,0,none⟩) k' k',pA 157,.int .u8 12] (some (cM x)::(pObjs++[none,some (.cells [.int .u8 11,.string s] 94 2 false true),some (.cells vs' 94 2 true true)])))) (bx [fnV 91] 141=bx [fnV 91] 141/\(([]:List Deferred)=[]/\out .ret [.slice none 0 0,.bool false,mkS 158 k] (some (cM x)::(pObjs++[ob]))))):=by kernel_rfl
theorem gAttR12_eq(N:Nd)(M:MAt)(x:OMsg)(k:Nat)(ob:Option AObj)(back:Bk)(out:Ot):gAttR N M x k ob back out 12=(M.p2 (vTable x.t) (fun s=>bx [fnV 95] 146=bx [fnV 95] 146/\gotA N M x k ob 12 s (([]:List Deferred)=[]/\back [pA 100,mkS 158 k,pA 157,.int .u8 13] (some (cM x)::(pObjs++[ob]))) (([]:List Deferred)=[]/\out .ret [.slice none 0 0,.bool false,mkS 158 k] (some (cM x)::(pObjs++[ob]))) (fun vs' k'=>([]:List Deferred)=[]/\back [pA 100,.slice (some ⟨160,0,none⟩) k' k',pA 157,.int .u8 13] (some (cM x)::(pObjs++[none,some (.cells [.int .u8 12,.string s] 94 2 false true),some (.cells vs' 94 2 true true)])))) (bx [fnV 95] 146=bx [fnV 95] 146/\(([]:List Deferred)=[]/\out .ret [.slice none 0 0,.bool false,mkS 158 k] (some (cM x)::(pObjs++[ob]))))):=by kernel_rfl
theorem gAttR13_eq(N:Nd)(M:MAt)(x:OMsg)(k:Nat)(ob:Option AObj)(back:Bk)(out:Ot):gAttR N M x k ob back out 13=(M.p3 (vEntry x.e) (fun s=>bx [fnV 99] 151=bx [fnV 99] 151/\gotA N M x k ob 13 s (([]:List Deferred)=[]/\back [pA 100,mkS 158 k,pA 157,.int .u8 14] (some (cM x)::(pObjs++[ob]))) (([]:List Deferred)=[]/\out .ret [.slice none 0 0,.bool false,mkS 158 k] (some (cM x)::(pObjs++[ob]))) (fun vs' k'=>([]:List Deferred)=[]/\back [pA 100,.slice (some ⟨160,0,none⟩) k' k',pA 157,.int .u8 14] (some (cM x)::(pObjs++[none,some (.cells [.int .u8 13,.string s] 94 2 false true),some (.cells vs' 94 2 true true)])))) (bx [fnV 99] 151=bx [fnV 99] 151/\(([]:List Deferred)=[]/\out .ret [.slice none 0 0,.bool false,mkS 158 k] (some (cM x)::(pObjs++[ob]))))):=by kernel_rfl
theorem gAttR14_eq(N:Nd)(M:MAt)(x:OMsg)(k:Nat)(ob:Option AObj)(back:Bk)(out:Ot):gAttR N M x k ob back out 14=(M.p4 (vBlock x.b) (fun s=>bx [fnV 103] 156=bx [fnV 103] 156/\gotA N M x k ob 14 s (([]:List Deferred)=[]/\back [pA 100,mkS 158 k,pA 157,.int .u8 15] (some (cM x)::(pObjs++[ob]))) (([]:List Deferred)=[]/\out .ret [.slice none 0 0,.bool false,mkS 158 k] (some (cM x)::(pObjs++[ob]))) (fun vs' k'=>([]:List Deferred)=[]/\back [pA 100,.slice (some ⟨160,0,none⟩) k' k',pA 157,.int .u8 15] (some (cM x)::(pObjs++[none,some (.cells [.int .u8 14,.string s] 94 2 false true),some (.cells vs' 94 2 true true)])))) (bx [fnV 103] 156=bx [fnV 103] 156/\(([]:List Deferred)=[]/\out .ret [.slice none 0 0,.bool false,mkS 158 k] (some (cM x)::(pObjs++[ob]))))):=by kernel_rfl
theorem gAttR15_eq(N:Nd)(M:MAt)(x:OMsg)(k:Nat)(ob:Option AObj)(back:Bk)(out:Ot):gAttR N M x k ob back out 15=(M.p5 (vGroup x.g) (fun s=>bx [fnV 107] 161=bx [fnV 107] 161/\gotA N M x k ob 15 s (([]:List Deferred)=[]/\back [pA 100,mkS 158 k,pA 157,.int .u8 16] (some (cM x)::(pObjs++[ob]))) (([]:List Deferred)=[]/\out .ret [.slice none 0 0,.bool false,mkS 158 k] (some (cM x)::(pObjs++[ob]))) (fun vs' k'=>([]:List Deferred)=[]/\back [pA 100,.slice (some ⟨160,0,none⟩) k' k',pA 157,.int .u8 16] (some (cM x)::(pObjs++[none,some (.cells [.int .u8 15,.string s] 94 2 false true),some (.cells vs' 94 2 true true)])))) (bx [fnV 107] 161=bx [fnV 107] 161/\(([]:List Deferred)=[]/\out .ret [.slice none 0 0,.bool false,mkS 158 k] (some (cM x)::(pObjs++[ob]))))):=by kernel_rfl
theorem gAttR16_eq(N:Nd)(M:MAt)(x:OMsg)(k:Nat)(ob:Option AObj)(back:Bk)(out:Ot):gAttR N M x k ob back out 16=(M.p6 (vMeter x.m) (fun s=>bx [fnV 111] 166=bx [fnV 111] 166/\gotA N M x k ob 16 s (([]:List Deferred)=[]/\back [pA 100,mkS 158 k,pA 157,.int .u8 17] (some (cM x)::(pObjs++[ob]))) (([]:List Deferred)=[]/\out .ret [.slice none 0 0,.bool false,mkS 158 k] (some (cM x)::(pObjs++[ob]))) (fun vs' k'=>([]:List Deferred)=[]/\back [pA 100,.slice (some ⟨160,0,none⟩) k' k',pA 157,.int .u8 17] (some (cM x)::(pObjs++[none,some (.cells [.int .u8 16,.string s] 94 2 false true),some (.cells vs' 94 2 true true)])))) (bx [fnV 111] 166=bx [fnV 111] 166/\(([]:List Deferred)=[]/\out .ret [.slice none 0 0,.bool false,mkS 158 k] (some (cM x)::(pObjs++[ob]))))):=by kernel_rfl
theorem gAttR17_eq(N:Nd)(M:MAt)(x:OMsg)(k:Nat)(ob:Option AObj)(back:Bk)(out:Ot):gAttR N M x k ob back out 17=(M.p7 (vRegs x.r) (fun s=>bx [fnV 115] 171=bx [fnV 115] 171/\gotA N M x k ob 17 s (([]:List Deferred)=[]/\back [pA 100,mkS 158 k,pA 157,.int .u8 18] (some (cM x)::(pObjs++[ob]))) (([]:List Deferred)=[]/\out .ret [.slice none 0 0,.bool false,mkS 158 k] (some (cM x)::(pObjs++[ob]))) (fun vs' k'=>([]:List Deferred)=[]/\back [pA 100,.slice (some ⟨160,0,none⟩) k' k',pA 157,.int .u8 18] (some (cM x)::(pObjs++[none,some (.cells [.int .u8 17,.string s] 94 2 false true),some (.cells vs' 94 2 true true)])))) (bx [fnV 115] 171=bx [fnV 115] 171/\(([]:List Deferred)=[]/\out .ret [.slice none 0 0,.bool false,mkS 158 k] (some (cM x)::(pObjs++[ob]))))):=by kernel_rfl
theorem gAttR18_eq(N:Nd)(M:MAt)(x:OMsg)(k:Nat)(ob:Option AObj)(back:Bk)(out:Ot):gAttR N M x k ob back out 18=(([]:List Deferred)=[]/\out (.exit 0) [top,top,mkS 158 k] (some (cM x)::(pObjs++[ob]))):=by kernel_rfl
end
end Go.Proofs.YtblbaohcelldpaaGreatDoor.Ob
namespace Go.Tlv
open Go Go.Abs
theorem atFrom_snoc{f:Nat->List UInt8}:∀(n j:Nat),atFrom f (n+1) j=atFrom f n j++one1 (j+n+1) (f (j+n+1))
 | 0,j=>by simp[atFrom]
 |n+1,j=>by
  show one1 (j+1) (f (j+1))++atFrom f (n+1) (j+1)=(one1 (j+1) (f (j+1))++atFrom f n (j+1))++_
  rw[atFrom_snoc n (j+1),List.append_assoc]
  rw[show j+1+n+1=j+(n+1)+1 by omega]
def hasB(k t:Nat):Bool:=decide (k<47)&&Nat.beq ((hasL.getD k 0) / 2 ^ (min t 32) % 2) 1
def putM(x:OMsg):Nat->List UInt8
 | 1=>numB (u64N x.a2)
 | 2=>numB (u64N x.a3)
 | 3=>numB (u64N x.a4)
 | 4=>numB (u64N x.a5)
 | 5=>numB (u64N x.a6)
 | 6=>numB x.a7
 | 7=>numB x.a8
 | 8=>x.a9.data.toList
 | 9=>listS (x.a10.map oneNat)
 | 10=>if mayNode x.n=true then encS (attsNode x.n)else[]
 | 11=>if mayField x.f=true then encS (attsField x.f)else[]
 | 12=>if mayTable x.t=true then encS (attsTable x.t)else[]
 | 13=>if mayEntry x.e=true then encS (attsEntry x.e)else[]
 | 14=>if mayBlock x.b=true then encS (attsBlock x.b)else[]
 | 15=>if mayGroup x.g=true then encS (attsGroup x.g)else[]
 | 16=>if mayMeter x.m=true then encS (attsMeter x.m)else[]
 | 17=>if mayRegs x.r=true then encS (attsRegs x.r)else[]
 |_=>[]
def isM(x:OMsg):Nat->Bool
 | 1=>decide (u64N x.a2<=2147483647)
 | 2=>decide (u64N x.a3<=2147483647)
 | 3=>decide (u64N x.a4<=2147483647)
 | 4=>decide (u64N x.a5<=2147483647)
 | 5=>decide (u64N x.a6<=2147483647)
 | 9=>decide (x.a10.length<=128)
 | 10=>mayNode x.n
 | 11=>mayField x.f
 | 12=>mayTable x.t
 | 13=>mayEntry x.e
 | 14=>mayBlock x.b
 | 15=>mayGroup x.g
 | 16=>mayMeter x.m
 | 17=>mayRegs x.r
 |_=>true
def goM(x:OMsg)(t:Nat):Bool:=isM x t&&((putM x t).isEmpty||hasB x.a0 t)
def allM(x:OMsg):Bool:=(List.range 17).all fun t=>goM x (t+1)
def knownB(k:Nat):Bool:=decide (1<=k)&&decide (k<=46)
def mayM(x:OMsg):Bool:=knownB x.a0&&allM x
def attsM(x:OMsg):List At:=atFrom (putM x) 17 0
theorem allM_iff{x:OMsg}:allM x=true↔∀t,1<=t->t<=17->goM x t=true:=by
 unfold allM
 rw[List.all_eq_true]
 constructor
 ·intro h t h1 h2
  have:=h (t-1) (List.mem_range.2 (by omega))
  rwa[show t-1+1=t by omega]at this
 ·intro h t ht
  exact h (t+1) (by omega) (by have:=List.mem_range.1 ht;omega)
structure okP(x:OMsg):Prop where
 a0:x.a0<256
 a1:x.a1<4294967296
 a7:x.a7<18446744073709551616
 a8:x.a8<18446744073709551616
 w:x.a10.length<100000
 wn:∀y∈x.a10,wfNat y
 n:fitNode x.n/\wfNode x.n
 f:fitField x.f/\wfField x.f
 t:fitTable x.t/\wfTable x.t
 e:fitEntry x.e/\wfEntry x.e
 b:fitBlock x.b/\wfBlock x.b
 g:fitGroup x.g/\wfGroup x.g
 m:fitMeter x.m/\wfMeter x.m
 r:fitRegs x.r/\wfRegs x.r
end Go.Tlv
namespace Go.Proofs.YtblbaohcelldpaaGreatDoor.Ob
open Go Go.Abs Go.Tlv
set_option maxRecDepth 100000
noncomputable section
abbrev LWd:=Code->Nat->List Value->List (Option AObj)->(Nat->Option AObj->Prop)->Prop
def sLpW(L:LWd):LpS:=lpS [4] fun c n vals obs K=>L c n vals obs (fun k ob=>K (.exit 0) [mkS 101 k] (obs++[ob]))
def sy101:Sy:=fun b=>match Nat.beq b 101 with|true=>some true|false=>none
def gWd(N:Nd)(MS:MSt)(L:LWd)(x:OMsg)(e sz:Nat)(lo ow:Bool)(K:RK):Prop:=wpe Tryz.prog N (howOf sy101 Zp [(148,sListS MS)] [(3,(33,([4,12,13,14],sLpW L)))] [] []) 300 (.call 147 [pA 100] (hOf 100 [] [some (.cells (lM x) e sz lo ow)])) (retQ 100 K)
theorem gWd_eq(N:Nd)(MS:MSt)(L:LWd)(x:OMsg)(e sz:Nat)(lo ow:Bool)(K:RK):gWd N MS L x e sz lo ow K=N.dlen (rowsOf cNat x.a10) fun n=>L (loopIn Tryz.prog 147 3) 33 [.slice none 0 0,dsl (rowsOf cNat x.a10),.int .i64 n,.int .i64 0] [some (.cells (lM x) e sz lo ow)] fun k ob=>k=k/\MS k ob fun s _=>N.cmp .leq .i64 k .i64 128 (K (.tuple ⟨[.string s,.bool true]⟩) [some (.cells (lM x) e sz lo ow),ob]) (K (.tuple ⟨[.string s,.bool false]⟩) [some (.cells (lM x) e sz lo ow),ob]):=by kernel_rfl
def gWdR(N:Nd)(M:MNm)(o1:Option AObj)(k:Nat)(ob:Option AObj)(rs:List Value)(n i:Int)(back:List Value->List (Option AObj)->Prop)(out:Exit->List Value->List (Option AObj)->Prop):Prop:=
 wpe Tryz.prog N (howOf sy101 Zp [] [] [(140,sNm M)] []) 300 (.code false (loopIn Tryz.prog 147 3) (stOf 100 33 [4,12,13,14] [] ([mkS 101 k,dsl rs,.int .i64 n,.int .i64 i],[o1,ob]))) (roundQ 100 [4,12,13,14] [4] 33 [] back out)
theorem gWdR_eq(N:Nd)(M:MNm)(o1:Option AObj)(k:Nat)(ob:Option AObj)(rs:List Value)(n i:Int)(back:Bk)(out:Ot):gWdR N M o1 k ob rs n i back out=N.cmp .lss .i64 i .i64 n (N.dget rs i 1 fun cs=>N.rdI .u64 cs 0 fun z=>M z fun s=>N.base true k k ob 9 1 fun vs=>N.appX k vs 1 [.string s] 1 16 fun vs' k'=>N.ari .add .i64 i .i64 1 fun i'=>([]:List Deferred)=[]/\back [.slice (some ⟨103,0,none⟩) k' k',dsl rs,.int .i64 n,.int .i64 i'] [o1,none,some (.cells [.string s] 9 1 false true),some (.cells vs' 9 1 true true)])
 (([]:List Deferred)=[]/\out (.exit 0) [mkS 101 k] [o1,ob]):=by kernel_rfl
theorem n_cv3{a:Int}{k0:IntKind}{K:Int->Prop}(hk:K ((u64N a:Nat):Int)):(real Tryz.prog).conv 3 28 k0 a .u64 K:=n_cv t3 hk
def MNr:MNm:=fun n K=>∃m:Nat,n=m/\m<18446744073709551616/\K (bytesOf (numB m))
theorem puNm:PuOk Tryz.prog 100 140 (sNm MNr):=by
 intro args K h
 unfold sNm at h
 split at h<;>try exact h.elim
 obtain⟨m,rfl,hm,hk⟩:=h
 exact puNum _ _ ⟨⟨by omega,by omega⟩,by rw[Int.toNat_natCast];exact hk⟩
def IWd(l:List Nat)(ob:AObj)(i:{i:Nat // i<=l.length}):List Value×List (Option AObj):=
 ([mkS 101 (tk oneNat l i.1).length,dsl (rowsOf cNat l),.int .i64 (l.length:Int),.int .i64 (i.1:Int)],[some ob,mo (strV (tk oneNat l i.1)) 9 1])
def RWd(l:List Nat)(ob:AObj)(e:Exit)(v:List Value)(o:List (Option AObj)):Prop:=
 e = .exit 0/\v=[mkS 101 l.length]/\o=[some ob,mo (strV (l.map oneNat)) 9 1]
theorem rndWd(l:List Nat)(hl:l.length<100000)(hw:∀y∈l,wfNat y){ob:AObj}(hb:belowO 101 (some ob)=true)(i:{i:Nat // i<=l.length}):
  Is (wpe Tryz.prog (real Tryz.prog) (howOf sy101 Zp [] [] [(140,sNm MNr)] []) 300 (.code false (loopIn Tryz.prog 147 3) (stOf 100 33 [4,12,13,14] [] (IWd l ob i))) (roundQ 100 [4,12,13,14] [4] 33 []
   (fun vals objs=>∃a':{i:Nat // i<=l.length},l.length-a'.1<l.length-i.1/\Wk 100 (100+1) vals objs (IWd l ob a').1 (IWd l ob a').2/\∀e v o,RWd l ob e v o->RWd l ob e v o)
   (fun e vals objs=>∃v o,Wk 100 (100+1) vals objs v o/\RWd l ob e v o))):=by
 refine⟨?_⟩
 obtain⟨i,hi⟩:=i
 show gWdR (real Tryz.prog) MNr (some ob) (tk oneNat l i).length (mo (strV (tk oneNat l i)) 9 1) (rowsOf cNat l) (l.length:Int) (i:Int) _ _
 rw[gWdR_eq]
 have hT:tops=140737488355328:=rfl
 have htk:=tk_len oneNat hi
 refine n_ltN (fun hlt=>?_) (fun hge=>?_)
 ·have hx:l[i]?=some l[i]:=by simp[hlt]
  generalize l[i]=x at hx
  have hx2:=tk_succ (one:=oneNat) hx
  have hlen:=congrArg List.length hx2
  rw[List.length_append,strV_len,strV_len]at hlen
  refine n_dget i rfl (rowsOf_get hx) rfl (n_rdI rfl ⟨x,rfl,hw x (List.mem_of_getElem? hx),n_base_mo (by rw[strV_len,Nat.mul_one]) (by omega) (n_appX (by omega) rfl rfl (by omega) (by omega) (n_inc (by omega) ⟨rfl,⟨i+1,hlt⟩,?_,?_,fun _ _ _ h=>h⟩))⟩)
  ·show l.length-(i+1)<l.length-i
   omega
  ·show Wk 100 (100+1) _ _ ([]++mkS (100+1) (tk oneNat l (i+1)).length::_) ([some ob]++[mo (strV (tk oneNat l (i+1))) 9 1])
   rw[←hx2,mo_ne (by simp),←hlen]
   exact wk_outG (k0:=1) (j:=3) (va:=[]) (by omega) rfl (by rw[hx2];exact belowStr 0 _) rfl rfl (by simp) rfl (fun i o h=>by
    rcases i with _|i
    ·simp only[List.getElem?_cons_zero,Option.some.injEq]at h;subst h;exact⟨rfl,hb⟩
    ·simp at h)
 ·have e:i=l.length:=by omega
  subst e
  refine⟨rfl,[mkS 101 l.length],[some ob,mo (strV (l.map oneNat)) 9 1],?_,rfl,rfl,rfl⟩
  rw[tk_all,List.length_map];exact Wk.refl _ _ _ _
def LWr(l:List Nat)(ob:AObj):LWd:=fun c n vals obs A=>c=loopIn Tryz.prog 147 3/\n=33/\vals=[.slice none 0 0,dsl (rowsOf cNat l),.int .i64 (l.length:Int),.int .i64 0]/\obs=[some ob]/\A l.length (mo (strV (l.map oneNat)) 9 1)
theorem lpWd(l:List Nat)(hl:l.length<100000)(hw:∀y∈l,wfNat y){ob:AObj}(hb:belowO 101 (some ob)=true):LoopOk Tryz.prog 100 [4,12,13,14] (sLpW (LWr l ob)):=by
 show LoopOk Tryz.prog 100 [4,12,13,14] (lpS [4] _)
 refine lp_mk okp (W:=howOf sy101 Zp [] [] [(140,sNm MNr)] []) (kn_pu (pu1 puNm)) lp_none ?_
 rintro c n vals obs K ⟨hc,hn,hv,ho,hA⟩
 subst hc;subst hn;subst hv;subst ho
 refine⟨{i:Nat // i<=l.length},1,300,fun a=>l.length-a.1,IWd l ob,fun _ e v o=>RWd l ob e v o,⟨0,Nat.zero_le _⟩,rfl,?_,?_,rndWd l hl hw hb⟩
 ·exact wk_nilG (va:=[])
 ·intro e v o hR
  obtain⟨rfl,rfl,rfl⟩:=hR
  exact hA
theorem lM_below(n:Nat)(x:OMsg):belowL n (lM x)=true:=rfl
def wdS(x:OMsg):ByteArray:=bytesOf (listS (x.a10.map oneNat))
theorem wdC(x:OMsg)(hx:okP x)(e sz:Nat)(lo ow:Bool):Is (gWd (real Tryz.prog) MSr (LWr x.a10 (.cells (lM x) e sz lo ow)) x e sz lo ow (fun v objs=>Wk 100 101 [v] objs [.tuple ⟨[.string (wdS x),.bool (isM x 9)]⟩] [some (.cells (lM x) e sz lo ow)])):=by
 refine⟨?_⟩
 rw[gWd_eq]
 refine n_dlen x.a10.length (rowsOf_len _ _) ⟨rfl,rfl,rfl,rfl,rfl,x.a10.map oneNat,by rw[List.length_map];exact hx.w,(List.length_map _).symm,rfl,n_leN (d:=128) (fun h=>?_) (fun h=>?_)⟩
 ·rw[show isM x 9=true from decide_eq_true h]
  exact wk_drop (k0:=1) (pre:=[some (.cells (lM x) e sz lo ow)]) rfl rfl (fun i o h=>by
   rcases i with _|i
   ·simp only[List.getElem?_cons_zero,Option.some.injEq]at h;subst h;rfl
   ·simp at h)
 ·rw[show isM x 9=false from decide_eq_false (by omega)]
  exact wk_drop (k0:=1) (pre:=[some (.cells (lM x) e sz lo ow)]) rfl rfl (fun i o h=>by
   rcases i with _|i
   ·simp only[List.getElem?_cons_zero,Option.some.injEq]at h;subst h;rfl
   ·simp at h)
def MWr:MW2:=fun vs K=>∃x:OMsg,vs=lM x/\okP x/\K (wdS x) (isM x 9)
theorem kn148{sy:Sy}{lp:LpL}:KnOk Tryz.prog 100 (howOf sy Zp [(148,sListS MSr)] lp [] []):=kn_ok (fun x hx=>by simp only[List.mem_singleton]at hx;subst hx;exact ok125) (fun x hx=>by cases hx)
theorem callW{W:How}(hkn:KnOk Tryz.prog 100 W)(hlp:LpOk Tryz.prog 100 W){f:FuncId}{args:List Value}{ins objs':List (Option AObj)}{v:Value}{n:Nat}
  (h:Is (wpe Tryz.prog (real Tryz.prog) W n (.call f args (hOf 100 [] ins)) (retQ 100 (fun v' objs=>Wk 100 (100+ins.length) [v'] objs [v] objs')))) (B:Base):CallH Tryz.prog 100 B f args (hOf 100 [] ins) (.returned v) (hOf 100 [] objs'):=by
 obtain⟨v',objs,h1,h2⟩:=call_ok okp hkn hlp h.out
 exact call_wk (h2 B) h1
theorem okWd:SumOk Tryz.prog 100 147 (sWd MWr):=by
 intro args H K h
 unfold sWd at h
 split at h<;>try exact h.elim
 rename_i b
 split at h<;>try exact h.elim
 rename_i vs e sz lo ow hp hget
 obtain⟨x,rfl,hx,hK⟩:=h
 simp only[Bool.and_eq_true]at hp
 have hp1:=Nat.le_of_ble_eq_true hp.1
 have hp2:b<H.next:=Nat.le_of_ble_eq_true hp.2
 refine⟨_,H,fun B=>?_,hK⟩
 have hC:∀B,CallH Tryz.prog 100 B 147 [pA 100] (hOf 100 [] [some (.cells (lM x) e sz lo ow)]) (.returned (.tuple ⟨[.string (wdS x),.bool (isM x 9)]⟩)) (hOf 100 [] [some (.cells (lM x) e sz lo ow)]):=callW kn148 (lp1 (lpWd x.a10 hx.w hx.wn (ob := .cells (lM x) e sz lo ow) rfl)) (wdC x hx e sz lo ow)
 have hτ:tau 100 [b] H.next 100=b:=tau_in (Nat.le_refl _) rfl
 have h2:=read_lift (G:=100) (ins:=[some (.cells (lM x) e sz lo ow)]) rfl (fun i hi=>by cases i<;>simp at hi) hC (H:=H) (ns:=[b]) rfl (by simp) (fun m hm=>by simp only[List.mem_singleton]at hm;subst hm;exact⟨hp1,hp2⟩) (fun i o hi=>by
  cases i with
  |succ i=>simp at hi
  |zero=>
   simp only[List.getElem?_cons_zero,Option.some.injEq]at hi;subst hi
   exact⟨b,rfl,by simp only[oren,vrenL_flat (lM_below 0 x)];exact hget⟩) B
 simp only[vrenL,pA,vren,hτ]at h2
 exact h2
end
end Go.Proofs.YtblbaohcelldpaaGreatDoor.Ob
