/- . -/
import Derived.Test.YtblbaohcelldpaaGreatDoorU8
import Derived.Test.YtblbaohcelldpaaGreatDoorS6
set_option linter.all false
set_option maxRecDepth 100000
namespace Go.Proofs.Ob
open Go Go.Abs Go.Tlv
noncomputable section
def fn2(f a b:Nat):Value := .func (.func f) ⟨[]⟩ ⟨[pA a,pA b]⟩
def bx(l:Lv)(t:Nat):Option AA:=some (.cells l t 1 false true)
def bp(l:Lv):Option AA:=some (.cells l 91 2 false true)
def AOm:Option AA:=some (.cells [.nilFunc,.nilFunc,fn2 139 102 103,fn2 141 103 102,fn2 139 105 106,fn2 141 106 105,fn2 139 108 109,fn2 141 109 108,fn2 139 111 112,fn2 141 112 111,fn2 139 114 115,fn2 141 115 114,fn2 143 117 118,fn2 144 118 117,fn2 143 120 121,fn2 144 121 120,fnV 145,fnV 146,fnV 147,fnV 149,fn2 151 126 125,fn2 152 127 125,fn2 163 130 129,fn2 164 131 129,fn2 168 134 133,fn2 169 135 133,fn2 175 138 137,fn2 176 139 137,fn2 186 142 141,fn2 187 143 141,fn2 194 146 145,fn2 195 147 145,fn2 202 150 149,fn2 203 151 149,fn2 206 154 153,fn2 207 155 153] 92 36 false true)
def CW:Lo:=[AOm,bx [fnV 75] 128,bx [.int .u64 2147483647] 28,bp [fn2 139 102 103,fn2 141 103 102],bx [fnV 76] 128,bx [.int .u64 2147483647] 28,bp [fn2 139 105 106,fn2 141 106 105],bx [fnV 77] 128,bx [.int .u64 2147483647] 28,bp [fn2 139 108 109,fn2 141 109 108],bx [fnV 78] 128,bx [.int .u64 2147483647] 28,bp [fn2 139 111 112,fn2 141 112 111],bx [fnV 79] 128,bx [.int .u64 2147483647] 28,bp [fn2 139 114 115,fn2 141 115 114],bx [fnV 81] 131,bx [.int .u64 18446744073709551615] 28,bp [fn2 143 117 118,fn2 144 118 117],bx [fnV 82] 131,bx [.int .u64 18446744073709551615] 28,bp [fn2 143 120 121,fn2 144 121 120],bp [fnV 145,fnV 146],bp [fnV 147,fnV 149],bx [fnV 86] 135,bx [fnV 87] 136,bx [fnV 88] 137,bp [fn2 151 126 125,fn2 152 127 125],bx [fnV 90] 140,bx [fnV 91] 141,bx [fnV 92] 142,bp [fn2 163 130 129,fn2 164 131 129],bx [fnV 94] 145,bx [fnV 95] 146,bx [fnV 96] 147,bp [fn2 168 134 133,fn2 169 135 133],bx [fnV 98] 150,bx [fnV 99] 151,bx [fnV 100] 152,bp [fn2 175 138 137,fn2 176 139 137],bx [fnV 102] 155,bx [fnV 103] 156,bx [fnV 104] 157,bp [fn2 186 142 141,fn2 187 143 141],bx [fnV 106] 160,bx [fnV 107] 161,bx [fnV 108] 162,bp [fn2 194 146 145,fn2 195 147 145],bx [fnV 110] 165,bx [fnV 111] 166,bx [fnV 112] 167,bp [fn2 202 150 149,fn2 203 151 149],bx [fnV 114] 170,bx [fnV 115] 171,bx [fnV 116] 172,bp [fn2 206 154 153,fn2 207 155 153],AOm]
def lM(x:A9):Lv:=match F8 x with
 | .agg ⟨l⟩=>l
 |_=>[]
def cM(x:A9):AA := .cells (lM x) 51 52 false true
abbrev LAx:=Code->Nat->Lv->Lo->(Nat->Option AA->Prop)->Prop->Prop
def NZ:Lo:=List.replicate 58 none
def AQb(L:LAx):LpS:=lpS [2,3,4] fun c n AB obs K=>L c n AB obs (fun k ob=>K (.exit 0) [top,top,mkS 158 k] (NZ++[ob])) (K .ret [.slice none 0 0,.bool false,top] NZ)
def noV:Value := .tuple ⟨[.slice none 0 0,.bool false]⟩
def AOH(N:Nd)(L:LAx)(x:A9)(K:RK):Prop:=wpe Tryz.prog N (AP Z0 Zp [] [(6,(48,([1,4,5,6],AQb L)))] [] []) 1000 (.call 35 [F8 x] h0) (FD 100 K)
theorem AJN(N:Nd)(L:LAx)(x:A9)(K:RK):AOH N L x K=N.cmp .geq .u8 (x.a0:Int) .u8 1 (N.cmp .leq .u8 (x.a0:Int) .u8 46 (L (AJ Tryz.prog 35 6) 48 [pA 100,.slice none 0 0,pA 157,.int .u8 1] (some (cM x)::CW)
 (fun k ob=>K (.tuple ⟨[mkS 158 k,.bool true]⟩) (NZ++[ob])) (K noV NZ)) (K noV [some (cM x)])) (K noV [some (cM x)]):=by kernel_rfl
abbrev MNm:=Int->(ByteArray->Prop)->Prop
def sNm(M:MNm):Lv->(Value->Prop)->Prop
 | [.int .u64 n],K=>M n fun s=>K (.string s)
 |_,_=>False
abbrev MOf:=Int->Int->Prop->Prop->Prop
def sOf(M:MOf):Lv->(Value->Prop)->Prop
 | [.int .u8 k,.int .u8 t],K=>M k t (K (.bool true)) (K (.bool false))
 |_,_=>False
abbrev MPx:=Value->(ByteArray->Prop)->Prop->Prop
def sPx(M:MPx):Lv->(Value->Prop)->Prop
 | [a],K=>M a (fun s=>K (.tuple ⟨[.string s,.int .i64 0]⟩)) (K (.tuple ⟨[.string (bytesOf []),.int .i64 3]⟩))
 |_,_=>False
abbrev MW2:=Lv->(ByteArray->Bool->Prop)->Prop
def sWd(M:MW2):Lv->Heap->VK->Prop
 | [.pointer (some ⟨b,0,none⟩)],H,K=>match Nat.ble 100 b&&Nat.ble (b+1) H.next,H.get b with
  |true,some (.cells vs _ _ _ _)=>M vs fun s b=>K (.tuple ⟨[.string s,.bool b]⟩) H
  |_,_=>False
 |_,_,_=>False
structure MAt where
 n:MNm
 o:MOf
 w:MW2
 p0:MPx
 p1:MPx
 p2:MPx
 p3:MPx
 p4:MPx
 p5:MPx
 p6:MPx
 p7:MPx
def puA(M:MAt):PuL:=[(140,sNm M.n),(34,sOf M.o),(87,sPx M.p0),(91,sPx M.p1),(95,sPx M.p2),(99,sPx M.p3),(103,sPx M.p4),(107,sPx M.p5),(111,sPx M.p6),(115,sPx M.p7)]
def syO:Sy:=fun b=>match Nat.beq b 158 with|true=>some true|false=>none
def HZ(N:Nd)(M:MAt)(x:A9)(k:Nat)(ob:Option AA)(back:Bk)(out:Ot)(t:Int):Prop:=
 wpe Tryz.prog N (AP syO Zp [(147,sWd M.w)] [] (puA M) [(48,15),(48,17),(21,20)]) 300 (.code false (AJ Tryz.prog 35 6) (CX 100 48 [1,4,5,6] [] ([pA 100,mkS 158 k,pA 157,.int .u8 t],some (cM x)::(CW++[ob])))) (A7 100 [1,4,5,6] [2,3,4] 48 [] back out)
def VL(N:Nd)(M:MAt)(x:A9)(k:Nat)(ob:Option AA)(t:Int)(s:ByteArray)(A R:Prop)(B:Lv->Nat->Prop):Prop:=
 N.scmp .neq s (bytesOf []) (M.o (x.a0:Int) t (N.scmp .neq s (bytesOf []) (N.base true k k ob 94 2 fun vs=>N.appX k vs 1 [.int .u8 t,.string s] 2 24 B) A) R) (N.scmp .neq s (bytesOf []) (N.base true k k ob 94 2 fun vs=>N.appX k vs 1 [.int .u8 t,.string s] 2 24 B) A)
theorem AEs(N:Nd)(M:MAt)(x:A9)(k:Nat)(ob:Option AA)(back:Bk)(out:Ot):HZ N M x k ob back out 1=(N.conv 3 28 .i64 x.a2 .u64 fun z=>M.n z fun s=>N.cmp .leq .u64 z .u64 2147483647 (VL N M x k ob 1 s (nD/\back [pA 100,mkS 158 k,pA 157,.int .u8 2] (some (cM x)::(CW++[ob]))) (nD/\out .ret [.slice none 0 0,.bool false,mkS 158 k] (some (cM x)::(CW++[ob]))) (fun vs' k'=>nD/\back [pA 100,.slice (some ⟨160,0,none⟩) k' k',pA 157,.int .u8 2] (some (cM x)::(CW++[none,some (.cells [.int .u8 1,.string s] 94 2 false true),some (.cells vs' 94 2 true true)])))) (nD/\out .ret [.slice none 0 0,.bool false,mkS 158 k] (some (cM x)::(CW++[ob])))):=by kernel_rfl
theorem AEt(N:Nd)(M:MAt)(x:A9)(k:Nat)(ob:Option AA)(back:Bk)(out:Ot):HZ N M x k ob back out 2=(N.conv 3 28 .i64 x.a3 .u64 fun z=>M.n z fun s=>N.cmp .leq .u64 z .u64 2147483647 (VL N M x k ob 2 s (nD/\back [pA 100,mkS 158 k,pA 157,.int .u8 3] (some (cM x)::(CW++[ob]))) (nD/\out .ret [.slice none 0 0,.bool false,mkS 158 k] (some (cM x)::(CW++[ob]))) (fun vs' k'=>nD/\back [pA 100,.slice (some ⟨160,0,none⟩) k' k',pA 157,.int .u8 3] (some (cM x)::(CW++[none,some (.cells [.int .u8 2,.string s] 94 2 false true),some (.cells vs' 94 2 true true)])))) (nD/\out .ret [.slice none 0 0,.bool false,mkS 158 k] (some (cM x)::(CW++[ob])))):=by kernel_rfl
theorem AEu(N:Nd)(M:MAt)(x:A9)(k:Nat)(ob:Option AA)(back:Bk)(out:Ot):HZ N M x k ob back out 3=(N.conv 3 28 .i64 x.a4 .u64 fun z=>M.n z fun s=>N.cmp .leq .u64 z .u64 2147483647 (VL N M x k ob 3 s (nD/\back [pA 100,mkS 158 k,pA 157,.int .u8 4] (some (cM x)::(CW++[ob]))) (nD/\out .ret [.slice none 0 0,.bool false,mkS 158 k] (some (cM x)::(CW++[ob]))) (fun vs' k'=>nD/\back [pA 100,.slice (some ⟨160,0,none⟩) k' k',pA 157,.int .u8 4] (some (cM x)::(CW++[none,some (.cells [.int .u8 3,.string s] 94 2 false true),some (.cells vs' 94 2 true true)])))) (nD/\out .ret [.slice none 0 0,.bool false,mkS 158 k] (some (cM x)::(CW++[ob])))):=by kernel_rfl
theorem AEv(N:Nd)(M:MAt)(x:A9)(k:Nat)(ob:Option AA)(back:Bk)(out:Ot):HZ N M x k ob back out 4=(N.conv 3 28 .i64 x.a5 .u64 fun z=>M.n z fun s=>N.cmp .leq .u64 z .u64 2147483647 (VL N M x k ob 4 s (nD/\back [pA 100,mkS 158 k,pA 157,.int .u8 5] (some (cM x)::(CW++[ob]))) (nD/\out .ret [.slice none 0 0,.bool false,mkS 158 k] (some (cM x)::(CW++[ob]))) (fun vs' k'=>nD/\back [pA 100,.slice (some ⟨160,0,none⟩) k' k',pA 157,.int .u8 5] (some (cM x)::(CW++[none,some (.cells [.int .u8 4,.string s] 94 2 false true),some (.cells vs' 94 2 true true)])))) (nD/\out .ret [.slice none 0 0,.bool false,mkS 158 k] (some (cM x)::(CW++[ob])))):=by kernel_rfl
theorem AEw(N:Nd)(M:MAt)(x:A9)(k:Nat)(ob:Option AA)(back:Bk)(out:Ot):HZ N M x k ob back out 5=(N.conv 3 28 .i64 x.a6 .u64 fun z=>M.n z fun s=>N.cmp .leq .u64 z .u64 2147483647 (VL N M x k ob 5 s (nD/\back [pA 100,mkS 158 k,pA 157,.int .u8 6] (some (cM x)::(CW++[ob]))) (nD/\out .ret [.slice none 0 0,.bool false,mkS 158 k] (some (cM x)::(CW++[ob]))) (fun vs' k'=>nD/\back [pA 100,.slice (some ⟨160,0,none⟩) k' k',pA 157,.int .u8 6] (some (cM x)::(CW++[none,some (.cells [.int .u8 5,.string s] 94 2 false true),some (.cells vs' 94 2 true true)])))) (nD/\out .ret [.slice none 0 0,.bool false,mkS 158 k] (some (cM x)::(CW++[ob])))):=by kernel_rfl
theorem AEx(N:Nd)(M:MAt)(x:A9)(k:Nat)(ob:Option AA)(back:Bk)(out:Ot):HZ N M x k ob back out 6=(M.n (x.a7:Int) fun s=>N.cmp .leq .u64 (x.a7:Int) .u64 18446744073709551615 (VL N M x k ob 6 s (nD/\back [pA 100,mkS 158 k,pA 157,.int .u8 7] (some (cM x)::(CW++[ob]))) (nD/\out .ret [.slice none 0 0,.bool false,mkS 158 k] (some (cM x)::(CW++[ob]))) (fun vs' k'=>nD/\back [pA 100,.slice (some ⟨160,0,none⟩) k' k',pA 157,.int .u8 7] (some (cM x)::(CW++[none,some (.cells [.int .u8 6,.string s] 94 2 false true),some (.cells vs' 94 2 true true)])))) (nD/\out .ret [.slice none 0 0,.bool false,mkS 158 k] (some (cM x)::(CW++[ob])))):=by kernel_rfl
theorem AEy(N:Nd)(M:MAt)(x:A9)(k:Nat)(ob:Option AA)(back:Bk)(out:Ot):HZ N M x k ob back out 7=(M.n (x.a8:Int) fun s=>N.cmp .leq .u64 (x.a8:Int) .u64 18446744073709551615 (VL N M x k ob 7 s (nD/\back [pA 100,mkS 158 k,pA 157,.int .u8 8] (some (cM x)::(CW++[ob]))) (nD/\out .ret [.slice none 0 0,.bool false,mkS 158 k] (some (cM x)::(CW++[ob]))) (fun vs' k'=>nD/\back [pA 100,.slice (some ⟨160,0,none⟩) k' k',pA 157,.int .u8 8] (some (cM x)::(CW++[none,some (.cells [.int .u8 7,.string s] 94 2 false true),some (.cells vs' 94 2 true true)])))) (nD/\out .ret [.slice none 0 0,.bool false,mkS 158 k] (some (cM x)::(CW++[ob])))):=by kernel_rfl
theorem AEz(N:Nd)(M:MAt)(x:A9)(k:Nat)(ob:Option AA)(back:Bk)(out:Ot):HZ N M x k ob back out 8=(VL N M x k ob 8 x.a9 (nD/\back [pA 100,mkS 158 k,pA 157,.int .u8 9] (some (cM x)::(CW++[ob]))) (nD/\out .ret [.slice none 0 0,.bool false,mkS 158 k] (some (cM x)::(CW++[ob]))) (fun vs' k'=>nD/\back [pA 100,.slice (some ⟨160,0,none⟩) k' k',pA 157,.int .u8 9] (some (cM x)::(CW++[none,some (.cells [.int .u8 8,.string x.a9] 94 2 false true),some (.cells vs' 94 2 true true)])))):=by kernel_rfl
theorem AEA(N:Nd)(M:MAt)(x:A9)(k:Nat)(ob:Option AA)(back:Bk)(out:Ot):HZ N M x k ob back out 9=(M.w (lM x) fun s b=>branch b (VL N M x k ob 9 s (nD/\back [pA 100,mkS 158 k,pA 157,.int .u8 10] (some (cM x)::(CW++[ob]))) (nD/\out .ret [.slice none 0 0,.bool false,mkS 158 k] (some (cM x)::(CW++[ob]))) (fun vs' k'=>nD/\back [pA 100,.slice (some ⟨160,0,none⟩) k' k',pA 157,.int .u8 10] (some (cM x)::(CW++[none,some (.cells [.int .u8 9,.string s] 94 2 false true),some (.cells vs' 94 2 true true)])))) (nD/\out .ret [.slice none 0 0,.bool false,mkS 158 k] (some (cM x)::(CW++[ob])))):=by kernel_rfl
theorem ABe(N:Nd)(M:MAt)(x:A9)(k:Nat)(ob:Option AA)(back:Bk)(out:Ot):HZ N M x k ob back out 10=(M.p0 (OI x.n) (fun s=>bx [fnV 87] 136=bx [fnV 87] 136/\VL N M x k ob 10 s (nD/\back [pA 100,mkS 158 k,pA 157,.int .u8 11] (some (cM x)::(CW++[ob]))) (nD/\out .ret [.slice none 0 0,.bool false,mkS 158 k] (some (cM x)::(CW++[ob]))) (fun vs' k'=>nD/\back [pA 100,.slice (some ⟨160,0,none⟩) k' k',pA 157,.int .u8 11] (some (cM x)::(CW++[none,some (.cells [.int .u8 10,.string s] 94 2 false true),some (.cells vs' 94 2 true true)])))) (bx [fnV 87] 136=bx [fnV 87] 136/\(nD/\out .ret [.slice none 0 0,.bool false,mkS 158 k] (some (cM x)::(CW++[ob]))))):=by kernel_rfl
theorem ABf(N:Nd)(M:MAt)(x:A9)(k:Nat)(ob:Option AA)(back:Bk)(out:Ot):HZ N M x k ob back out 11=(M.p1 (K6 x.f) (fun s=>bx [fnV 91] 141=bx [fnV 91] 141/\VL N M x k ob 11 s (nD/\back [pA 100,mkS 158 k,pA 157,.int .u8 12] (some (cM x)::(CW++[ob]))) (nD/\out .ret [.slice none 0 0,.bool false,mkS 158 k] (some (cM x)::(CW++[ob]))) (fun vs' k'=>nD/\back [pA 100,.slice (some ⟨160,0,none⟩) k' k',pA 157,.int .u8 12] (some (cM x)::(CW++[none,some (.cells [.int .u8 11,.string s] 94 2 false true),some (.cells vs' 94 2 true true)])))) (bx [fnV 91] 141=bx [fnV 91] 141/\(nD/\out .ret [.slice none 0 0,.bool false,mkS 158 k] (some (cM x)::(CW++[ob]))))):=by kernel_rfl
theorem ABg(N:Nd)(M:MAt)(x:A9)(k:Nat)(ob:Option AA)(back:Bk)(out:Ot):HZ N M x k ob back out 12=(M.p2 (K9 x.t) (fun s=>bx [fnV 95] 146=bx [fnV 95] 146/\VL N M x k ob 12 s (nD/\back [pA 100,mkS 158 k,pA 157,.int .u8 13] (some (cM x)::(CW++[ob]))) (nD/\out .ret [.slice none 0 0,.bool false,mkS 158 k] (some (cM x)::(CW++[ob]))) (fun vs' k'=>nD/\back [pA 100,.slice (some ⟨160,0,none⟩) k' k',pA 157,.int .u8 13] (some (cM x)::(CW++[none,some (.cells [.int .u8 12,.string s] 94 2 false true),some (.cells vs' 94 2 true true)])))) (bx [fnV 95] 146=bx [fnV 95] 146/\(nD/\out .ret [.slice none 0 0,.bool false,mkS 158 k] (some (cM x)::(CW++[ob]))))):=by kernel_rfl
theorem ABh(N:Nd)(M:MAt)(x:A9)(k:Nat)(ob:Option AA)(back:Bk)(out:Ot):HZ N M x k ob back out 13=(M.p3 (K5 x.e) (fun s=>bx [fnV 99] 151=bx [fnV 99] 151/\VL N M x k ob 13 s (nD/\back [pA 100,mkS 158 k,pA 157,.int .u8 14] (some (cM x)::(CW++[ob]))) (nD/\out .ret [.slice none 0 0,.bool false,mkS 158 k] (some (cM x)::(CW++[ob]))) (fun vs' k'=>nD/\back [pA 100,.slice (some ⟨160,0,none⟩) k' k',pA 157,.int .u8 14] (some (cM x)::(CW++[none,some (.cells [.int .u8 13,.string s] 94 2 false true),some (.cells vs' 94 2 true true)])))) (bx [fnV 99] 151=bx [fnV 99] 151/\(nD/\out .ret [.slice none 0 0,.bool false,mkS 158 k] (some (cM x)::(CW++[ob]))))):=by kernel_rfl
theorem ABi(N:Nd)(M:MAt)(x:A9)(k:Nat)(ob:Option AA)(back:Bk)(out:Ot):HZ N M x k ob back out 14=(M.p4 (K4 x.b) (fun s=>bx [fnV 103] 156=bx [fnV 103] 156/\VL N M x k ob 14 s (nD/\back [pA 100,mkS 158 k,pA 157,.int .u8 15] (some (cM x)::(CW++[ob]))) (nD/\out .ret [.slice none 0 0,.bool false,mkS 158 k] (some (cM x)::(CW++[ob]))) (fun vs' k'=>nD/\back [pA 100,.slice (some ⟨160,0,none⟩) k' k',pA 157,.int .u8 15] (some (cM x)::(CW++[none,some (.cells [.int .u8 14,.string s] 94 2 false true),some (.cells vs' 94 2 true true)])))) (bx [fnV 103] 156=bx [fnV 103] 156/\(nD/\out .ret [.slice none 0 0,.bool false,mkS 158 k] (some (cM x)::(CW++[ob]))))):=by kernel_rfl
theorem ABj(N:Nd)(M:MAt)(x:A9)(k:Nat)(ob:Option AA)(back:Bk)(out:Ot):HZ N M x k ob back out 15=(M.p5 (K7 x.g) (fun s=>bx [fnV 107] 161=bx [fnV 107] 161/\VL N M x k ob 15 s (nD/\back [pA 100,mkS 158 k,pA 157,.int .u8 16] (some (cM x)::(CW++[ob]))) (nD/\out .ret [.slice none 0 0,.bool false,mkS 158 k] (some (cM x)::(CW++[ob]))) (fun vs' k'=>nD/\back [pA 100,.slice (some ⟨160,0,none⟩) k' k',pA 157,.int .u8 16] (some (cM x)::(CW++[none,some (.cells [.int .u8 15,.string s] 94 2 false true),some (.cells vs' 94 2 true true)])))) (bx [fnV 107] 161=bx [fnV 107] 161/\(nD/\out .ret [.slice none 0 0,.bool false,mkS 158 k] (some (cM x)::(CW++[ob]))))):=by kernel_rfl
theorem ABk(N:Nd)(M:MAt)(x:A9)(k:Nat)(ob:Option AA)(back:Bk)(out:Ot):HZ N M x k ob back out 16=(M.p6 (K8 x.m) (fun s=>bx [fnV 111] 166=bx [fnV 111] 166/\VL N M x k ob 16 s (nD/\back [pA 100,mkS 158 k,pA 157,.int .u8 17] (some (cM x)::(CW++[ob]))) (nD/\out .ret [.slice none 0 0,.bool false,mkS 158 k] (some (cM x)::(CW++[ob]))) (fun vs' k'=>nD/\back [pA 100,.slice (some ⟨160,0,none⟩) k' k',pA 157,.int .u8 17] (some (cM x)::(CW++[none,some (.cells [.int .u8 16,.string s] 94 2 false true),some (.cells vs' 94 2 true true)])))) (bx [fnV 111] 166=bx [fnV 111] 166/\(nD/\out .ret [.slice none 0 0,.bool false,mkS 158 k] (some (cM x)::(CW++[ob]))))):=by kernel_rfl
theorem ABl(N:Nd)(M:MAt)(x:A9)(k:Nat)(ob:Option AA)(back:Bk)(out:Ot):HZ N M x k ob back out 17=(M.p7 (OJ x.r) (fun s=>bx [fnV 115] 171=bx [fnV 115] 171/\VL N M x k ob 17 s (nD/\back [pA 100,mkS 158 k,pA 157,.int .u8 18] (some (cM x)::(CW++[ob]))) (nD/\out .ret [.slice none 0 0,.bool false,mkS 158 k] (some (cM x)::(CW++[ob]))) (fun vs' k'=>nD/\back [pA 100,.slice (some ⟨160,0,none⟩) k' k',pA 157,.int .u8 18] (some (cM x)::(CW++[none,some (.cells [.int .u8 17,.string s] 94 2 false true),some (.cells vs' 94 2 true true)])))) (bx [fnV 115] 171=bx [fnV 115] 171/\(nD/\out .ret [.slice none 0 0,.bool false,mkS 158 k] (some (cM x)::(CW++[ob]))))):=by kernel_rfl
theorem ABm(N:Nd)(M:MAt)(x:A9)(k:Nat)(ob:Option AA)(back:Bk)(out:Ot):HZ N M x k ob back out 18=(nD/\out (.exit 0) [top,top,mkS 158 k] (some (cM x)::(CW++[ob]))):=by kernel_rfl
end
end Go.Proofs.Ob
namespace Go.Tlv
open Go Go.Abs
theorem eO{f:Nat->List UInt8}:∀(n j:Nat),CR f (n+1) j=CR f n j++QW (j+n+1) (f (j+n+1))
 | 0,j=>by simp[CR]
 |n+1,j=>by
  show QW (j+1) (f (j+1))++CR f (n+1) (j+1)=(QW (j+1) (f (j+1))++CR f n (j+1))++_
  rw[eO n (j+1),List.append_assoc]
  rw[show j+1+n+1=j+(n+1)+1 by omega]
def hasB(k t:Nat):Bool:=decide (k<47)&&Nat.beq ((aW.getD k 0) / 2 ^ (min t 32) % 2) 1
def J5(x:A9):Nat->List UInt8
 | 1=>EK (A8 x.a2)
 | 2=>EK (A8 x.a3)
 | 3=>EK (A8 x.a4)
 | 4=>EK (A8 x.a5)
 | 5=>EK (A8 x.a6)
 | 6=>EK x.a7
 | 7=>EK x.a8
 | 8=>x.a9.data.toList
 | 9=>EJ (x.a10.map BU)
 | 10=>if JX x.n=true then encS (GD x.n)else[]
 | 11=>if I5 x.f=true then encS (GQ x.f)else[]
 | 12=>if IG x.t=true then encS (GR x.t)else[]
 | 13=>if IB x.e=true then encS (DL x.e)else[]
 | 14=>if H9 x.b=true then encS (I9 x.b)else[]
 | 15=>if IC x.g=true then encS (G9 x.g)else[]
 | 16=>if I6 x.m=true then encS (IK x.m)else[]
 | 17=>if J9 x.r=true then encS (KF x.r)else[]
 |_=>[]
def isM(x:A9):Nat->Bool
 | 1=>decide (A8 x.a2<=2147483647)
 | 2=>decide (A8 x.a3<=2147483647)
 | 3=>decide (A8 x.a4<=2147483647)
 | 4=>decide (A8 x.a5<=2147483647)
 | 5=>decide (A8 x.a6<=2147483647)
 | 9=>decide (x.a10.length<=128)
 | 10=>JX x.n
 | 11=>I5 x.f
 | 12=>IG x.t
 | 13=>IB x.e
 | 14=>H9 x.b
 | 15=>IC x.g
 | 16=>I6 x.m
 | 17=>J9 x.r
 |_=>true
def goM(x:A9)(t:Nat):Bool:=isM x t&&((J5 x t).isEmpty||hasB x.a0 t)
def allM(x:A9):Bool:=(List.range 17).all fun t=>goM x (t+1)
def aY(k:Nat):Bool:=decide (1<=k)&&decide (k<=46)
def QF(x:A9):Bool:=aY x.a0&&allM x
def JV(x:A9):List At:=CR (J5 x) 17 0
theorem U6{x:A9}:allM x=true↔∀t,1<=t->t<=17->goM x t=true:=by
 unfold allM
 rw[List.all_eq_true]
 constructor
 ·intro h t h1 h2
  have:=h (t-1) (List.mem_range.2 (by omega))
  rwa[show t-1+1=t by omega]at this
 ·intro h t ht
  exact h (t+1) (by omega) (by have:=List.mem_range.1 ht;omega)
structure okP(x:A9):Prop where
 a0:x.a0<256
 a1:x.a1<4294967296
 a7:x.a7<18446744073709551616
 a8:x.a8<18446744073709551616
 w:x.a10.length<100000
 wn:∀y∈x.a10,L6 y
 n:KQ x.n/\lL x.n
 f:NI x.f/\cK x.f
 t:JF x.t/\dA x.t
 e:JD x.e/\cB x.e
 b:JC x.b/\bZ x.b
 g:JE x.g/\cO x.g
 m:NJ x.m/\cZ x.m
 r:PL x.r/\lN x.r
end Go.Tlv
namespace Go.Proofs.Ob
open Go Go.Abs Go.Tlv
noncomputable section
abbrev LWd:=Code->Nat->Lv->Lo->(Nat->Option AA->Prop)->Prop
def AQd(L:LWd):LpS:=lpS [4] fun c n AB obs K=>L c n AB obs (fun k ob=>K (.exit 0) [mkS 101 k] (obs++[ob]))
def fF:Sy:=fun b=>match Nat.beq b 101 with|true=>some true|false=>none
def gWd(N:Nd)(MS:MSt)(L:LWd)(x:A9)(e sz:Nat)(lo ow:Bool)(K:RK):Prop:=wpe Tryz.prog N (AP fF Zp [(148,ND MS)] [(3,(33,([4,12,13,14],AQd L)))] [] []) 300 (.call 147 [pA 100] (hOf 100 [] [some (.cells (lM x) e sz lo ow)])) (FD 100 K)
theorem AMj(N:Nd)(MS:MSt)(L:LWd)(x:A9)(e sz:Nat)(lo ow:Bool)(K:RK):gWd N MS L x e sz lo ow K=N.dlen (rowsOf DJ x.a10) fun n=>L (AJ Tryz.prog 147 3) 33 [.slice none 0 0,dsl (rowsOf DJ x.a10),.int .i64 n,.int .i64 0] [some (.cells (lM x) e sz lo ow)] fun k ob=>k=k/\MS k ob fun s _=>N.cmp .leq .i64 k .i64 128 (K (.tuple ⟨[.string s,.bool true]⟩) [some (.cells (lM x) e sz lo ow),ob]) (K (.tuple ⟨[.string s,.bool false]⟩) [some (.cells (lM x) e sz lo ow),ob]):=by kernel_rfl
def APd(N:Nd)(M:MNm)(o1:Option AA)(k:Nat)(ob:Option AA)(rs:Lv)(n i:Int)(back:Bk)(out:Ot):Prop:=
 wpe Tryz.prog N (AP fF Zp [] [] [(140,sNm M)] []) 300 (.code false (AJ Tryz.prog 147 3) (CX 100 33 [4,12,13,14] [] ([mkS 101 k,dsl rs,.int .i64 n,.int .i64 i],[o1,ob]))) (A7 100 [4,12,13,14] [4] 33 [] back out)
theorem AJ4(N:Nd)(M:MNm)(o1:Option AA)(k:Nat)(ob:Option AA)(rs:Lv)(n i:Int)(back:Bk)(out:Ot):APd N M o1 k ob rs n i back out=N.cmp .lss .i64 i .i64 n (N.dget rs i 1 fun cs=>N.rdI .u64 cs 0 fun z=>M z fun s=>N.base true k k ob 9 1 fun vs=>N.appX k vs 1 [.string s] 1 16 fun vs' k'=>N.ari .add .i64 i .i64 1 fun i'=>nD/\back [.slice (some ⟨103,0,none⟩) k' k',dsl rs,.int .i64 n,.int .i64 i'] [o1,none,some (.cells [.string s] 9 1 false true),some (.cells vs' 9 1 true true)])
 (nD/\out (.exit 0) [mkS 101 k] [o1,ob]):=by kernel_rfl
theorem zR{a:Int}{k0:IntKind}{K:Int->Prop}(hk:K ((A8 a:Nat):Int)):(real Tryz.prog).conv 3 28 k0 a .u64 K:=CQ t3 hk
def MNr:MNm:=fun n K=>∃m:Nat,n=m/\m<18446744073709551616/\K (bytesOf (EK m))
theorem APQ:FY Tryz.prog 100 140 (sNm MNr):=by
 intro args K h
 unfold sNm at h
 split at h<;>try exact h.elim
 obtain⟨m,rfl,hm,hk⟩:=h
 exact APR _ _ ⟨⟨by omega,by omega⟩,by rw[Int.toNat_natCast];exact hk⟩
def IWd(l:List Nat)(ob:AA)(i:{i:Nat // i<=l.length}):Lv×Lo:=
 ([mkS 101 (tk BU l i.1).length,dsl (rowsOf DJ l),.int .i64 (l.length:Int),.int .i64 (i.1:Int)],[some ob,mo (strV (tk BU l i.1)) 9 1])
def RWd(l:List Nat)(ob:AA)(e:Exit)(v:Lv)(o:Lo):Prop:=
 e = .exit 0/\v=[mkS 101 l.length]/\o=[some ob,mo (strV (l.map BU)) 9 1]
theorem AP9(l:List Nat)(hl:l.length<100000)(hw:∀y∈l,L6 y){ob:AA}(hb:EC 101 (some ob)=true)(i:{i:Nat // i<=l.length}):
  Is (wpe Tryz.prog (real Tryz.prog) (AP fF Zp [] [] [(140,sNm MNr)] []) 300 (.code false (AJ Tryz.prog 147 3) (CX 100 33 [4,12,13,14] [] (IWd l ob i))) (A7 100 [4,12,13,14] [4] 33 []
   (fun AB AC=>∃a':{i:Nat // i<=l.length},l.length-a'.1<l.length-i.1/\Wk 100 (100+1) AB AC (IWd l ob a').1 (IWd l ob a').2/\∀e v o,RWd l ob e v o->RWd l ob e v o)
   (fun e AB AC=>∃v o,Wk 100 (100+1) AB AC v o/\RWd l ob e v o))):=by
 refine⟨?_⟩
 obtain⟨i,hi⟩:=i
 show APd (real Tryz.prog) MNr (some ob) (tk BU l i).length (mo (strV (tk BU l i)) 9 1) (rowsOf DJ l) (l.length:Int) (i:Int) _ _
 rw[AJ4]
 have hT:J3=140737488355328:=rfl
 have htk:=Q8 BU hi
 refine EL (fun hlt=>?_) (fun hge=>?_)
 ·have hx:l[i]?=some l[i]:=by simp[hlt]
  generalize l[i]=x at hx
  have hx2:=OB (one:=BU) hx
  have hlen:=congrArg List.length hx2
  rw[List.length_append,D5,D5]at hlen
  refine DK i rfl (CL hx) rfl (CG rfl ⟨x,rfl,hw x (List.mem_of_getElem? hx),D6 (by rw[D5,Nat.mul_one]) (by omega) (FV (by omega) rfl rfl (by omega) (by omega) (BZ (by omega) ⟨rfl,⟨i+1,hlt⟩,?_,?_,fun _ _ _ h=>h⟩))⟩)
  ·show l.length-(i+1)<l.length-i
   omega
  ·show Wk 100 (100+1) _ _ ([]++mkS (100+1) (tk BU l (i+1)).length::_) ([some ob]++[mo (strV (tk BU l (i+1))) 9 1])
   rw[←hx2,J4 (by simp),←hlen]
   exact IU (k0:=1) (j:=3) (va:=[]) (by omega) rfl (by rw[hx2];exact KX 0 _) rfl rfl (by simp) rfl (fun i o h=>by
    rcases i with _|i
    ·simp only[List.getElem?_cons_zero,Option.some.injEq]at h;subst h;exact⟨rfl,hb⟩
    ·simp at h)
 ·have e:i=l.length:=by omega
  subst e
  refine⟨rfl,[mkS 101 l.length],[some ob,mo (strV (l.map BU)) 9 1],?_,rfl,rfl,rfl⟩
  rw[Q7,List.length_map];exact Wk.refl _ _ _ _
def LWr(l:List Nat)(ob:AA):LWd:=fun c n AB obs A=>c=AJ Tryz.prog 147 3/\n=33/\AB=[.slice none 0 0,dsl (rowsOf DJ l),.int .i64 (l.length:Int),.int .i64 0]/\obs=[some ob]/\A l.length (mo (strV (l.map BU)) 9 1)
theorem ARY(l:List Nat)(hl:l.length<100000)(hw:∀y∈l,L6 y){ob:AA}(hb:EC 101 (some ob)=true):BH Tryz.prog 100 [4,12,13,14] (AQd (LWr l ob)):=by
 show BH Tryz.prog 100 [4,12,13,14] (lpS [4] _)
 refine FQ okp (W:=AP fF Zp [] [] [(140,sNm MNr)] []) (EY (pu1 APQ)) AZ ?_
 rintro c n AB obs K ⟨hc,hn,hv,ho,hA⟩
 subst hc;subst hn;subst hv;subst ho
 refine⟨{i:Nat // i<=l.length},1,300,fun a=>l.length-a.1,IWd l ob,fun _ e v o=>RWd l ob e v o,⟨0,Nat.zero_le _⟩,rfl,?_,?_,AP9 l hl hw hb⟩
 ·exact IP (va:=[])
 ·intro e v o hR
  obtain⟨rfl,rfl,rfl⟩:=hR
  exact hA
theorem AHq(n:Nat)(x:A9):BL n (lM x)=true:=rfl
def wdS(x:A9):ByteArray:=bytesOf (EJ (x.a10.map BU))
theorem wdC(x:A9)(hx:okP x)(e sz:Nat)(lo ow:Bool):Is (gWd (real Tryz.prog) MSr (LWr x.a10 (.cells (lM x) e sz lo ow)) x e sz lo ow (fun v AC=>Wk 100 101 [v] AC [.tuple ⟨[.string (wdS x),.bool (isM x 9)]⟩] [some (.cells (lM x) e sz lo ow)])):=by
 refine⟨?_⟩
 rw[AMj]
 refine BI x.a10.length (AQ _ _) ⟨rfl,rfl,rfl,rfl,rfl,x.a10.map BU,by rw[List.length_map];exact hx.w,(List.length_map _).symm,rfl,SL (d:=128) (fun h=>?_) (fun h=>?_)⟩
 ·rw[show isM x 9=true from decide_eq_true h]
  exact I1 (k0:=1) (pre:=[some (.cells (lM x) e sz lo ow)]) rfl rfl (fun i o h=>by
   rcases i with _|i
   ·simp only[List.getElem?_cons_zero,Option.some.injEq]at h;subst h;rfl
   ·simp at h)
 ·rw[show isM x 9=false from decide_eq_false (by omega)]
  exact I1 (k0:=1) (pre:=[some (.cells (lM x) e sz lo ow)]) rfl rfl (fun i o h=>by
   rcases i with _|i
   ·simp only[List.getElem?_cons_zero,Option.some.injEq]at h;subst h;rfl
   ·simp at h)
def MWr:MW2:=fun vs K=>∃x:A9,vs=lM x/\okP x/\K (wdS x) (isM x 9)
theorem APk{sy:Sy}{lp:LpL}:OM Tryz.prog 100 (AP sy Zp [(148,ND MSr)] lp [] []):=M3 (fun x hx=>by simp only[List.mem_singleton]at hx;subst hx;exact ALI) (fun x hx=>by cases hx)
theorem AOz{W:How}(hkn:OM Tryz.prog 100 W)(hlp:SN Tryz.prog 100 W){f:FuncId}{args:Lv}{ins objs':Lo}{v:Value}{n:Nat}
  (h:Is (wpe Tryz.prog (real Tryz.prog) W n (.call f args (hOf 100 [] ins)) (FD 100 (fun v' AC=>Wk 100 (100+ins.length) [v'] AC [v] objs')))) (B:Base):BM Tryz.prog 100 B f args (hOf 100 [] ins) (.returned v) (hOf 100 [] objs'):=by
 obtain⟨v',AC,h1,h2⟩:=XU okp hkn hlp h.out
 exact IM (h2 B) h1
theorem AR8:JU Tryz.prog 100 147 (sWd MWr):=by
 intro args H K h
 unfold sWd at h
 split at h<;>try exact h.elim
 rename_i b
 split at h<;>try exact h.elim
 rename_i vs e sz lo ow hp hget
 obtain⟨x,rfl,hx,hK⟩:=h
 simp only[Bool.and_eq_true]at hp
 have hp1:=Nat.le_of_ble_eq_true hp.1
 have hp2:b<H.next:=Nat.le_of_ble_eq_true hp.2
 refine⟨_,H,fun B=>?_,hK⟩
 have hC:∀B,BM Tryz.prog 100 B 147 [pA 100] (hOf 100 [] [some (.cells (lM x) e sz lo ow)]) (.returned (.tuple ⟨[.string (wdS x),.bool (isM x 9)]⟩)) (hOf 100 [] [some (.cells (lM x) e sz lo ow)]):=AOz APk (lp1 (ARY x.a10 hx.w hx.wn (ob := .cells (lM x) e sz lo ow) rfl)) (wdC x hx e sz lo ow)
 have hτ:tau 100 [b] H.next 100=b:=MZ (Nat.le_refl _) rfl
 have h2:=dS (G:=100) (ins:=[some (.cells (lM x) e sz lo ow)]) rfl (fun i hi=>by cases i<;>simp at hi) hC (H:=H) (ns:=[b]) rfl (by simp) (fun m hm=>by simp only[List.mem_singleton]at hm;subst hm;exact⟨hp1,hp2⟩) (fun i o hi=>by
  cases i with
  |succ i=>simp at hi
  |zero=>
   simp only[List.getElem?_cons_zero,Option.some.injEq]at hi;subst hi
   exact⟨b,rfl,by simp only[G8,KT (AHq 0 x)];exact hget⟩) B
 simp only[FE,pA,F7,hτ]at h2
 exact h2
end
end Go.Proofs.Ob
