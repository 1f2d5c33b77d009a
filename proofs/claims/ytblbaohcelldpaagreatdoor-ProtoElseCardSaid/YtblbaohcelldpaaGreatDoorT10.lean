/- Lists as bytes, and in writers: what the code asks. -/
import Derived.Test.YtblbaohcelldpaaGreatDoorT8
set_option linter.all false
namespace Go.Proofs.YtblbaohcelldpaaGreatDoor.Ob
open Go Go.Abs Go.Tlv
noncomputable section
def cStr(s:ByteArray):List Value:=[.string s]
def gList(N:Nd)(L:LEt)(rs:List Value)(K:RK):Prop:=wpe Tryz.prog N (howOf sy0 Sp0 [] [(3,(26,([4,7,8,9],sLoopE L)))] [] []) 300 (.call 148 [(dsl rs)] h0) (retQ 100 K)
def gListR(N:Nd)(k:Nat)(ob:Option AObj)(rs:List Value)(n i:Int)(back:List Value->List (Option AObj)->Prop)(out:Exit->List Value->List (Option AObj)->Prop):Prop:=
 wpe Tryz.prog N WS 300 (.code false (loopIn Tryz.prog 148 3) (stOf 100 26 [4,7,8,9] [] ([mkS 100 k,dsl rs,.int .i64 n,.int .i64 i],[ob]))) (roundQ 100 [4,7,8,9] [2,3,4] 26 [] back out)
set_option maxRecDepth 100000
theorem gList_eq(N:Nd)(L:LEt)(rs:List Value)(K:RK):gList N L rs K=(N.dlen rs (fun o0=>L (loopIn Tryz.prog 148 3) 26 [.slice none 0 0,dsl rs,(.int .i64 (Int.ofNat o0)),.int .i64 0] [] (fun o1 l2=>N.strM o1 l2 (fun s3=>K (.tuple (Array.mk [.string s3,.int .i64 0])) [l2])) (fun z1=>K (.tuple (Array.mk [.string (bytesOf []),.int .i64 z1])) []))):=by kernel_rfl
theorem gListR_eq(N:Nd)(k:Nat)(ob:Option AObj)(rs:List Value)(n i:Int)(back:Bk)(out:Ot):gListR N k ob rs n i back out=(N.cmp .lss .i64 i .i64 n (N.dget rs i 1 (fun l0=>N.rdS l0 0 (fun s1=>N.slen s1 (fun z2=>N.cmp .gtr .i64 z2 .i64 65535 (nD/\(out Exit.ret [.string (bytesOf []),.int .i64 5,(.iface 1000000021 (.slice (some ⟨100,0,none⟩) k k))] [ob])) (N.slen s1 (fun z3=>N.ari .shr .i64 z3 .u64 8 (fun z4=>N.conv 3 5 .i64 z4 .u8 (fun z5=>N.conv 3 5 .i64 z3 .u8 (fun z6=>N.base true k k ob 5 1 (fun l7=>N.appX k l7 2 [.int .u8 z5,.int .u8 z6] 1 1 (fun l8 o9=>N.base false o9 o9 (some (AObj.cells l8 5 1 true true)) 5 1 (fun l10=>N.appS o9 l10 s1 1 (N.ari .add .i64 i .i64 1 (fun z11=>nD/\(back [(.slice (some ⟨102,0,none⟩) o9 o9),dsl rs,.int .i64 n,.int .i64 z11] [none,(some (AObj.cells [.int .u8 z5,.int .u8 z6] 5 1 false true)),(some (AObj.cells l8 5 1 true true))]))) (fun l11 o12=>N.ari .add .i64 i .i64 1 (fun z13=>nD/\(back [(.slice (some ⟨103,0,none⟩) o12 o12),dsl rs,.int .i64 n,.int .i64 z13] [none,(some (AObj.cells [.int .u8 z5,.int .u8 z6] 5 1 false true)),none,(some (AObj.cells l11 5 1 true true))]))))))))))))))) (nD/\(out (Exit.exit 0) [(.chan (some 0)),(.chan (some 0)),(.iface 1000000021 (.slice (some ⟨100,0,none⟩) k k))] [ob]))):=by kernel_rfl
abbrev MSt:=Nat->Option AObj->(ByteArray->Int->Prop)->Prop
def sListS(M:MSt):List Value->Heap->VK->Prop
 | [.iface t (.slice (some ⟨b,0,none⟩) k k')],H,K=>match Nat.beq t mkM with
  |true=>k'=k/\M k (H.get b) fun s e=>K (.tuple ⟨[.string s,.int .i64 e]⟩) H
  |false=>False
 |_,_,_=>False
abbrev LLt:=Code->Nat->List Value->List (Option AObj)->(Nat->Option AObj->Prop)->Prop
def sLoopL(L:LLt):LpS:=lpS [0,1,8] fun c n vals obs K=>match vals with
 |pw::kd::_=>L c n vals obs (fun k ob=>K (.exit 0) [pw,kd,mkS (100+obs.length) k] (obs++[ob]))
 |_=>False
def sy12:Sy:=fun b=>match Nat.beq b 101||Nat.beq b 102 with|true=>some true|false=>none
abbrev PSt:=Value->(ByteArray->Prop)->Prop
def sF(M:PSt):List Value->(Value->Prop)->Prop
 | [a],K=>M a fun s=>K (.string s)
 |_,_=>False
def gL0Arm(N:Nd)(M:Mw)(MS:MSt)(L:LLt)(kind:Int)(rows:List Value)(K:RK):Prop:=wpe Tryz.prog N (howOf sy1 Sp0 [(148,sListS MS),(178,sText M)] [(2,(35,([0,1,3,8,13,14,15],sLoopL L)))] [] []) 300 (.call 155 [pW,(.int .u8 kind),(dsl rows),.func (.func 156) ⟨[]⟩ ⟨[]⟩] hW0) (retQ 100 K)
def gL1Arm(N:Nd)(M:Mw)(MS:MSt)(L:LLt)(len:Nat)(vs:List Value)(kind:Int)(rows:List Value)(K:RK):Prop:=wpe Tryz.prog N (howOf sy12 Sp0 [(148,sListS MS),(178,sText M)] [(2,(35,([0,1,3,8,13,14,15],sLoopL L)))] [] []) 300 (.call 155 [pW,(.int .u8 kind),(dsl rows),.func (.func 156) ⟨[]⟩ ⟨[]⟩] (hW1 len vs)) (retQ 100 K)
def gL0ArmR(N:Nd)(M:PSt)(o1:Option AObj)(k:Nat)(ob:Option AObj)(kind:Int)(rs:List Value)(n i:Int)(back:List Value->List (Option AObj)->Prop)(out:Exit->List Value->List (Option AObj)->Prop):Prop:=
 wpe Tryz.prog N (howOf sy1 Sp0 [] [] [(156,sF M)] []) 300 (.code false (loopIn Tryz.prog 155 2) (stOf 100 35 [0,1,3,8,13,14,15] [] ([pW,.int .u8 kind,.func (.func 156) ⟨[]⟩ ⟨[]⟩,mkS 101 k,dsl rs,.int .i64 n,.int .i64 i],[o1,ob]))) (roundQ 100 [0,1,3,8,13,14,15] [0,1,8] 35 [] back out)
def gL1ArmR(N:Nd)(M:PSt)(o1 o2:Option AObj)(k:Nat)(ob:Option AObj)(kind:Int)(rs:List Value)(n i:Int)(back:List Value->List (Option AObj)->Prop)(out:Exit->List Value->List (Option AObj)->Prop):Prop:=
 wpe Tryz.prog N (howOf sy12 Sp0 [] [] [(156,sF M)] []) 300 (.code false (loopIn Tryz.prog 155 2) (stOf 100 35 [0,1,3,8,13,14,15] [] ([pW,.int .u8 kind,.func (.func 156) ⟨[]⟩ ⟨[]⟩,mkS 102 k,dsl rs,.int .i64 n,.int .i64 i],[o1,o2,ob]))) (roundQ 100 [0,1,3,8,13,14,15] [0,1,8] 35 [] back out)
set_option maxRecDepth 100000
theorem gL0Arm_eq(N:Nd)(M:Mw)(MS:MSt)(L:LLt)(kind:Int)(rows:List Value)(K:RK):gL0Arm N M MS L kind rows K=(N.dlen rows (fun o0=>L (loopIn Tryz.prog 155 2) 35 [pA 100,.int .u8 kind,(.func (Fn.func 156) ⟨[]⟩ ⟨[]⟩),.slice none 0 0,dsl rows,(.int .i64 (Int.ofNat o0)),.int .i64 0] [qq1] (fun o1 l2=>(o1=o1)/\(MS o1 l2 (fun s3 z4=>(qq1=qq1)/\(M.t0 kind s3 (K (.tuple ⟨[]⟩) [qq1,l2]) (fun l5=>K (.tuple ⟨[]⟩) [(qq2 (.slice (some ⟨102,0,none⟩) 1 1)),l2,(some (AObj.cells l5 94 2 true true))]))))))):=by kernel_rfl
theorem gL1Arm_eq(N:Nd)(M:Mw)(MS:MSt)(L:LLt)(len:Nat)(vs:List Value)(kind:Int)(rows:List Value)(K:RK):gL1Arm N M MS L len vs kind rows K=(N.dlen rows (fun o0=>L (loopIn Tryz.prog 155 2) 35 [pA 100,.int .u8 kind,(.func (Fn.func 156) ⟨[]⟩ ⟨[]⟩),.slice none 0 0,dsl rows,(.int .i64 (Int.ofNat o0)),.int .i64 0] [(qq2 (.slice (some ⟨101,0,none⟩) len len)),(some (AObj.cells vs 94 2 true true))] (fun o1 l2=>(o1=o1)/\(MS o1 l2 (fun s3 z4=>(len=len)/\(M.t1 len vs kind s3 (fun o5 l6=>K (.tuple ⟨[]⟩) [(qq2 (.slice (some ⟨103,0,none⟩) o5 o5)),none,l2,(some (AObj.cells l6 94 2 true true))]))))))):=by kernel_rfl
theorem gL0ArmR_eq(N:Nd)(M:PSt)(o1:Option AObj)(k:Nat)(ob:Option AObj)(kind:Int)(rs:List Value)(n i:Int)(back:Bk)(out:Ot):gL0ArmR N M o1 k ob kind rs n i back out=(N.cmp .lss .i64 i .i64 n (N.dget rs i 2 (fun l0=>N.rdI .u32 l0 0 (fun z1=>N.rdI .i64 l0 1 (fun z2=>M (.agg (Array.mk [.int .u32 z1,.int .i64 z2])) (fun s3=>N.base true k k ob 9 1 (fun l4=>N.appX k l4 1 [.string s3] 1 16 (fun l5 o6=>N.ari .add .i64 i .i64 1 (fun z7=>nD/\(back [pA 100,.int .u8 kind,(.func (Fn.func 156) ⟨[]⟩ ⟨[]⟩),(.slice (some ⟨104,0,none⟩) o6 o6),dsl rs,.int .i64 n,.int .i64 z7] [o1,none,qq16 z1 z2,qq14 s3,(some (AObj.cells l5 9 1 true true))]))))))))) (nD/\(out (Exit.exit 0) [pA 100,.int .u8 kind,(.iface 1000000021 (.slice (some ⟨101,0,none⟩) k k))] [o1,ob]))):=by kernel_rfl
theorem gL1ArmR_eq(N:Nd)(M:PSt)(o1 o2:Option AObj)(k:Nat)(ob:Option AObj)(kind:Int)(rs:List Value)(n i:Int)(back:Bk)(out:Ot):gL1ArmR N M o1 o2 k ob kind rs n i back out=(N.cmp .lss .i64 i .i64 n (N.dget rs i 2 (fun l0=>N.rdI .u32 l0 0 (fun z1=>N.rdI .i64 l0 1 (fun z2=>M (.agg (Array.mk [.int .u32 z1,.int .i64 z2])) (fun s3=>N.base true k k ob 9 1 (fun l4=>N.appX k l4 1 [.string s3] 1 16 (fun l5 o6=>N.ari .add .i64 i .i64 1 (fun z7=>nD/\(back [pA 100,.int .u8 kind,(.func (Fn.func 156) ⟨[]⟩ ⟨[]⟩),(.slice (some ⟨105,0,none⟩) o6 o6),dsl rs,.int .i64 n,.int .i64 z7] [o1,o2,none,qq16 z1 z2,qq14 s3,(some (AObj.cells l5 9 1 true true))]))))))))) (nD/\(out (Exit.exit 0) [pA 100,.int .u8 kind,(.iface 1000000021 (.slice (some ⟨102,0,none⟩) k k))] [o1,o2,ob]))):=by kernel_rfl
def gL0Instr(N:Nd)(M:Mw)(MS:MSt)(L:LLt)(kind:Int)(rows:List Value)(K:RK):Prop:=wpe Tryz.prog N (howOf sy1 Sp0 [(148,sListS MS),(178,sText M)] [(2,(35,([0,1,3,8,13,14,15],sLoopL L)))] [] []) 300 (.call 189 [pW,(.int .u8 kind),(dsl rows),.func (.func 190) ⟨[]⟩ ⟨[]⟩] hW0) (retQ 100 K)
def gL1Instr(N:Nd)(M:Mw)(MS:MSt)(L:LLt)(len:Nat)(vs:List Value)(kind:Int)(rows:List Value)(K:RK):Prop:=wpe Tryz.prog N (howOf sy12 Sp0 [(148,sListS MS),(178,sText M)] [(2,(35,([0,1,3,8,13,14,15],sLoopL L)))] [] []) 300 (.call 189 [pW,(.int .u8 kind),(dsl rows),.func (.func 190) ⟨[]⟩ ⟨[]⟩] (hW1 len vs)) (retQ 100 K)
def gL0InstrR(N:Nd)(M:PSt)(o1:Option AObj)(k:Nat)(ob:Option AObj)(kind:Int)(rs:List Value)(n i:Int)(back:List Value->List (Option AObj)->Prop)(out:Exit->List Value->List (Option AObj)->Prop):Prop:=
 wpe Tryz.prog N (howOf sy1 Sp0 [] [] [(190,sF M)] []) 300 (.code false (loopIn Tryz.prog 189 2) (stOf 100 35 [0,1,3,8,13,14,15] [] ([pW,.int .u8 kind,.func (.func 190) ⟨[]⟩ ⟨[]⟩,mkS 101 k,dsl rs,.int .i64 n,.int .i64 i],[o1,ob]))) (roundQ 100 [0,1,3,8,13,14,15] [0,1,8] 35 [] back out)
def gL1InstrR(N:Nd)(M:PSt)(o1 o2:Option AObj)(k:Nat)(ob:Option AObj)(kind:Int)(rs:List Value)(n i:Int)(back:List Value->List (Option AObj)->Prop)(out:Exit->List Value->List (Option AObj)->Prop):Prop:=
 wpe Tryz.prog N (howOf sy12 Sp0 [] [] [(190,sF M)] []) 300 (.code false (loopIn Tryz.prog 189 2) (stOf 100 35 [0,1,3,8,13,14,15] [] ([pW,.int .u8 kind,.func (.func 190) ⟨[]⟩ ⟨[]⟩,mkS 102 k,dsl rs,.int .i64 n,.int .i64 i],[o1,o2,ob]))) (roundQ 100 [0,1,3,8,13,14,15] [0,1,8] 35 [] back out)
set_option maxRecDepth 100000
theorem gL0Instr_eq(N:Nd)(M:Mw)(MS:MSt)(L:LLt)(kind:Int)(rows:List Value)(K:RK):gL0Instr N M MS L kind rows K=(N.dlen rows (fun o0=>L (loopIn Tryz.prog 189 2) 35 [pA 100,.int .u8 kind,(.func (Fn.func 190) ⟨[]⟩ ⟨[]⟩),.slice none 0 0,dsl rows,(.int .i64 (Int.ofNat o0)),.int .i64 0] [qq1] (fun o1 l2=>(o1=o1)/\(MS o1 l2 (fun s3 z4=>(qq1=qq1)/\(M.t0 kind s3 (K (.tuple ⟨[]⟩) [qq1,l2]) (fun l5=>K (.tuple ⟨[]⟩) [(qq2 (.slice (some ⟨102,0,none⟩) 1 1)),l2,(some (AObj.cells l5 94 2 true true))]))))))):=by kernel_rfl
theorem gL1Instr_eq(N:Nd)(M:Mw)(MS:MSt)(L:LLt)(len:Nat)(vs:List Value)(kind:Int)(rows:List Value)(K:RK):gL1Instr N M MS L len vs kind rows K=(N.dlen rows (fun o0=>L (loopIn Tryz.prog 189 2) 35 [pA 100,.int .u8 kind,(.func (Fn.func 190) ⟨[]⟩ ⟨[]⟩),.slice none 0 0,dsl rows,(.int .i64 (Int.ofNat o0)),.int .i64 0] [(qq2 (.slice (some ⟨101,0,none⟩) len len)),(some (AObj.cells vs 94 2 true true))] (fun o1 l2=>(o1=o1)/\(MS o1 l2 (fun s3 z4=>(len=len)/\(M.t1 len vs kind s3 (fun o5 l6=>K (.tuple ⟨[]⟩) [(qq2 (.slice (some ⟨103,0,none⟩) o5 o5)),none,l2,(some (AObj.cells l6 94 2 true true))]))))))):=by kernel_rfl
theorem gL0InstrR_eq(N:Nd)(M:PSt)(o1:Option AObj)(k:Nat)(ob:Option AObj)(kind:Int)(rs:List Value)(n i:Int)(back:Bk)(out:Ot):gL0InstrR N M o1 k ob kind rs n i back out=(N.cmp .lss .i64 i .i64 n (N.dget rs i 7 (fun l0=>N.rdI .u8 l0 0 (fun z1=>N.rdI .i64 l0 1 (fun z2=>N.rdI .u8 l0 2 (fun z3=>N.rdI .u64 l0 3 (fun z4=>N.rdI .u8 l0 4 (fun z5=>N.rdI .u64 l0 5 (fun z6=>N.rdI .i64 l0 6 (fun z7=>M (.agg (Array.mk [.int .u8 z1,.int .i64 z2,.int .u8 z3,.int .u64 z4,.int .u8 z5,.int .u64 z6,.int .i64 z7])) (fun s8=>N.base true k k ob 9 1 (fun l9=>N.appX k l9 1 [.string s8] 1 16 (fun l10 o11=>N.ari .add .i64 i .i64 1 (fun z12=>nD/\(back [pA 100,.int .u8 kind,(.func (Fn.func 190) ⟨[]⟩ ⟨[]⟩),(.slice (some ⟨104,0,none⟩) o11 o11),dsl rs,.int .i64 n,.int .i64 z12] [o1,none,qq7 z1 z2 z3 z4 z5 z6 z7,qq14 s8,(some (AObj.cells l10 9 1 true true))])))))))))))))) (nD/\(out (Exit.exit 0) [pA 100,.int .u8 kind,(.iface 1000000021 (.slice (some ⟨101,0,none⟩) k k))] [o1,ob]))):=by kernel_rfl
theorem gL1InstrR_eq(N:Nd)(M:PSt)(o1 o2:Option AObj)(k:Nat)(ob:Option AObj)(kind:Int)(rs:List Value)(n i:Int)(back:Bk)(out:Ot):gL1InstrR N M o1 o2 k ob kind rs n i back out=(N.cmp .lss .i64 i .i64 n (N.dget rs i 7 (fun l0=>N.rdI .u8 l0 0 (fun z1=>N.rdI .i64 l0 1 (fun z2=>N.rdI .u8 l0 2 (fun z3=>N.rdI .u64 l0 3 (fun z4=>N.rdI .u8 l0 4 (fun z5=>N.rdI .u64 l0 5 (fun z6=>N.rdI .i64 l0 6 (fun z7=>M (.agg (Array.mk [.int .u8 z1,.int .i64 z2,.int .u8 z3,.int .u64 z4,.int .u8 z5,.int .u64 z6,.int .i64 z7])) (fun s8=>N.base true k k ob 9 1 (fun l9=>N.appX k l9 1 [.string s8] 1 16 (fun l10 o11=>N.ari .add .i64 i .i64 1 (fun z12=>nD/\(back [pA 100,.int .u8 kind,(.func (Fn.func 190) ⟨[]⟩ ⟨[]⟩),(.slice (some ⟨105,0,none⟩) o11 o11),dsl rs,.int .i64 n,.int .i64 z12] [o1,o2,none,qq7 z1 z2 z3 z4 z5 z6 z7,qq14 s8,(some (AObj.cells l10 9 1 true true))])))))))))))))) (nD/\(out (Exit.exit 0) [pA 100,.int .u8 kind,(.iface 1000000021 (.slice (some ⟨102,0,none⟩) k k))] [o1,o2,ob]))):=by kernel_rfl
def gL0Bucket(N:Nd)(M:Mw)(MS:MSt)(L:LLt)(kind:Int)(rows:List Value)(K:RK):Prop:=wpe Tryz.prog N (howOf sy1 Sp0 [(148,sListS MS),(178,sText M)] [(2,(35,([0,1,3,8,13,14,15],sLoopL L)))] [] []) 300 (.call 197 [pW,(.int .u8 kind),(dsl rows),.func (.func 198) ⟨[]⟩ ⟨[]⟩] hW0) (retQ 100 K)
def gL1Bucket(N:Nd)(M:Mw)(MS:MSt)(L:LLt)(len:Nat)(vs:List Value)(kind:Int)(rows:List Value)(K:RK):Prop:=wpe Tryz.prog N (howOf sy12 Sp0 [(148,sListS MS),(178,sText M)] [(2,(35,([0,1,3,8,13,14,15],sLoopL L)))] [] []) 300 (.call 197 [pW,(.int .u8 kind),(dsl rows),.func (.func 198) ⟨[]⟩ ⟨[]⟩] (hW1 len vs)) (retQ 100 K)
def gL0BucketR(N:Nd)(M:PSt)(o1:Option AObj)(k:Nat)(ob:Option AObj)(kind:Int)(rs:List Value)(n i:Int)(back:List Value->List (Option AObj)->Prop)(out:Exit->List Value->List (Option AObj)->Prop):Prop:=
 wpe Tryz.prog N (howOf sy1 Sp0 [] [] [(198,sF M)] []) 300 (.code false (loopIn Tryz.prog 197 2) (stOf 100 35 [0,1,3,8,13,14,15] [] ([pW,.int .u8 kind,.func (.func 198) ⟨[]⟩ ⟨[]⟩,mkS 101 k,dsl rs,.int .i64 n,.int .i64 i],[o1,ob]))) (roundQ 100 [0,1,3,8,13,14,15] [0,1,8] 35 [] back out)
def gL1BucketR(N:Nd)(M:PSt)(o1 o2:Option AObj)(k:Nat)(ob:Option AObj)(kind:Int)(rs:List Value)(n i:Int)(back:List Value->List (Option AObj)->Prop)(out:Exit->List Value->List (Option AObj)->Prop):Prop:=
 wpe Tryz.prog N (howOf sy12 Sp0 [] [] [(198,sF M)] []) 300 (.code false (loopIn Tryz.prog 197 2) (stOf 100 35 [0,1,3,8,13,14,15] [] ([pW,.int .u8 kind,.func (.func 198) ⟨[]⟩ ⟨[]⟩,mkS 102 k,dsl rs,.int .i64 n,.int .i64 i],[o1,o2,ob]))) (roundQ 100 [0,1,3,8,13,14,15] [0,1,8] 35 [] back out)
set_option maxRecDepth 100000
theorem gL0Bucket_eq(N:Nd)(M:Mw)(MS:MSt)(L:LLt)(kind:Int)(rows:List Value)(K:RK):gL0Bucket N M MS L kind rows K=(N.dlen rows (fun o0=>L (loopIn Tryz.prog 197 2) 35 [pA 100,.int .u8 kind,(.func (Fn.func 198) ⟨[]⟩ ⟨[]⟩),.slice none 0 0,dsl rows,(.int .i64 (Int.ofNat o0)),.int .i64 0] [qq1] (fun o1 l2=>(o1=o1)/\(MS o1 l2 (fun s3 z4=>(qq1=qq1)/\(M.t0 kind s3 (K (.tuple ⟨[]⟩) [qq1,l2]) (fun l5=>K (.tuple ⟨[]⟩) [(qq2 (.slice (some ⟨102,0,none⟩) 1 1)),l2,(some (AObj.cells l5 94 2 true true))]))))))):=by kernel_rfl
theorem gL1Bucket_eq(N:Nd)(M:Mw)(MS:MSt)(L:LLt)(len:Nat)(vs:List Value)(kind:Int)(rows:List Value)(K:RK):gL1Bucket N M MS L len vs kind rows K=(N.dlen rows (fun o0=>L (loopIn Tryz.prog 197 2) 35 [pA 100,.int .u8 kind,(.func (Fn.func 198) ⟨[]⟩ ⟨[]⟩),.slice none 0 0,dsl rows,(.int .i64 (Int.ofNat o0)),.int .i64 0] [(qq2 (.slice (some ⟨101,0,none⟩) len len)),(some (AObj.cells vs 94 2 true true))] (fun o1 l2=>(o1=o1)/\(MS o1 l2 (fun s3 z4=>(len=len)/\(M.t1 len vs kind s3 (fun o5 l6=>K (.tuple ⟨[]⟩) [(qq2 (.slice (some ⟨103,0,none⟩) o5 o5)),none,l2,(some (AObj.cells l6 94 2 true true))]))))))):=by kernel_rfl
theorem gL0BucketR_eq(N:Nd)(M:PSt)(o1:Option AObj)(k:Nat)(ob:Option AObj)(kind:Int)(rs:List Value)(n i:Int)(back:Bk)(out:Ot):gL0BucketR N M o1 k ob kind rs n i back out=(N.cmp .lss .i64 i .i64 n (N.dget rs i 2 (fun l0=>N.rdI .u64 l0 0 (fun z1=>N.rdI .i64 l0 1 (fun z2=>M (.agg (Array.mk [.int .u64 z1,.int .i64 z2])) (fun s3=>N.base true k k ob 9 1 (fun l4=>N.appX k l4 1 [.string s3] 1 16 (fun l5 o6=>N.ari .add .i64 i .i64 1 (fun z7=>nD/\(back [pA 100,.int .u8 kind,(.func (Fn.func 198) ⟨[]⟩ ⟨[]⟩),(.slice (some ⟨104,0,none⟩) o6 o6),dsl rs,.int .i64 n,.int .i64 z7] [o1,none,qq17 z1 z2,qq14 s3,(some (AObj.cells l5 9 1 true true))]))))))))) (nD/\(out (Exit.exit 0) [pA 100,.int .u8 kind,(.iface 1000000021 (.slice (some ⟨101,0,none⟩) k k))] [o1,ob]))):=by kernel_rfl
theorem gL1BucketR_eq(N:Nd)(M:PSt)(o1 o2:Option AObj)(k:Nat)(ob:Option AObj)(kind:Int)(rs:List Value)(n i:Int)(back:Bk)(out:Ot):gL1BucketR N M o1 o2 k ob kind rs n i back out=(N.cmp .lss .i64 i .i64 n (N.dget rs i 2 (fun l0=>N.rdI .u64 l0 0 (fun z1=>N.rdI .i64 l0 1 (fun z2=>M (.agg (Array.mk [.int .u64 z1,.int .i64 z2])) (fun s3=>N.base true k k ob 9 1 (fun l4=>N.appX k l4 1 [.string s3] 1 16 (fun l5 o6=>N.ari .add .i64 i .i64 1 (fun z7=>nD/\(back [pA 100,.int .u8 kind,(.func (Fn.func 198) ⟨[]⟩ ⟨[]⟩),(.slice (some ⟨105,0,none⟩) o6 o6),dsl rs,.int .i64 n,.int .i64 z7] [o1,o2,none,qq17 z1 z2,qq14 s3,(some (AObj.cells l5 9 1 true true))]))))))))) (nD/\(out (Exit.exit 0) [pA 100,.int .u8 kind,(.iface 1000000021 (.slice (some ⟨102,0,none⟩) k k))] [o1,o2,ob]))):=by kernel_rfl
def gL0Int(N:Nd)(M:Mw)(MS:MSt)(L:LLt)(kind:Int)(rows:List Value)(K:RK):Prop:=wpe Tryz.prog N (howOf sy1 Sp0 [(148,sListS MS),(178,sText M)] [(2,(35,([0,1,3,8,13,14,15],sLoopL L)))] [] []) 300 (.call 171 [pW,(.int .u8 kind),(dsl rows),.func (.func 172) ⟨[]⟩ ⟨[]⟩] hW0) (retQ 100 K)
def gL1Int(N:Nd)(M:Mw)(MS:MSt)(L:LLt)(len:Nat)(vs:List Value)(kind:Int)(rows:List Value)(K:RK):Prop:=wpe Tryz.prog N (howOf sy12 Sp0 [(148,sListS MS),(178,sText M)] [(2,(35,([0,1,3,8,13,14,15],sLoopL L)))] [] []) 300 (.call 171 [pW,(.int .u8 kind),(dsl rows),.func (.func 172) ⟨[]⟩ ⟨[]⟩] (hW1 len vs)) (retQ 100 K)
def gL0IntR(N:Nd)(M:PSt)(o1:Option AObj)(k:Nat)(ob:Option AObj)(kind:Int)(rs:List Value)(n i:Int)(back:List Value->List (Option AObj)->Prop)(out:Exit->List Value->List (Option AObj)->Prop):Prop:=
 wpe Tryz.prog N (howOf sy1 Sp0 [] [] [(172,sF M)] []) 300 (.code false (loopIn Tryz.prog 171 2) (stOf 100 35 [0,1,3,8,13,14,15] [] ([pW,.int .u8 kind,.func (.func 172) ⟨[]⟩ ⟨[]⟩,mkS 101 k,dsl rs,.int .i64 n,.int .i64 i],[o1,ob]))) (roundQ 100 [0,1,3,8,13,14,15] [0,1,8] 35 [] back out)
def gL1IntR(N:Nd)(M:PSt)(o1 o2:Option AObj)(k:Nat)(ob:Option AObj)(kind:Int)(rs:List Value)(n i:Int)(back:List Value->List (Option AObj)->Prop)(out:Exit->List Value->List (Option AObj)->Prop):Prop:=
 wpe Tryz.prog N (howOf sy12 Sp0 [] [] [(172,sF M)] []) 300 (.code false (loopIn Tryz.prog 171 2) (stOf 100 35 [0,1,3,8,13,14,15] [] ([pW,.int .u8 kind,.func (.func 172) ⟨[]⟩ ⟨[]⟩,mkS 102 k,dsl rs,.int .i64 n,.int .i64 i],[o1,o2,ob]))) (roundQ 100 [0,1,3,8,13,14,15] [0,1,8] 35 [] back out)
set_option maxRecDepth 100000
theorem gL0Int_eq(N:Nd)(M:Mw)(MS:MSt)(L:LLt)(kind:Int)(rows:List Value)(K:RK):gL0Int N M MS L kind rows K=(N.dlen rows (fun o0=>L (loopIn Tryz.prog 171 2) 35 [pA 100,.int .u8 kind,(.func (Fn.func 172) ⟨[]⟩ ⟨[]⟩),.slice none 0 0,dsl rows,(.int .i64 (Int.ofNat o0)),.int .i64 0] [qq1] (fun o1 l2=>(o1=o1)/\(MS o1 l2 (fun s3 z4=>(qq1=qq1)/\(M.t0 kind s3 (K (.tuple ⟨[]⟩) [qq1,l2]) (fun l5=>K (.tuple ⟨[]⟩) [(qq2 (.slice (some ⟨102,0,none⟩) 1 1)),l2,(some (AObj.cells l5 94 2 true true))]))))))):=by kernel_rfl
theorem gL1Int_eq(N:Nd)(M:Mw)(MS:MSt)(L:LLt)(len:Nat)(vs:List Value)(kind:Int)(rows:List Value)(K:RK):gL1Int N M MS L len vs kind rows K=(N.dlen rows (fun o0=>L (loopIn Tryz.prog 171 2) 35 [pA 100,.int .u8 kind,(.func (Fn.func 172) ⟨[]⟩ ⟨[]⟩),.slice none 0 0,dsl rows,(.int .i64 (Int.ofNat o0)),.int .i64 0] [(qq2 (.slice (some ⟨101,0,none⟩) len len)),(some (AObj.cells vs 94 2 true true))] (fun o1 l2=>(o1=o1)/\(MS o1 l2 (fun s3 z4=>(len=len)/\(M.t1 len vs kind s3 (fun o5 l6=>K (.tuple ⟨[]⟩) [(qq2 (.slice (some ⟨103,0,none⟩) o5 o5)),none,l2,(some (AObj.cells l6 94 2 true true))]))))))):=by kernel_rfl
theorem gL0IntR_eq(N:Nd)(M:PSt)(o1:Option AObj)(k:Nat)(ob:Option AObj)(kind:Int)(rs:List Value)(n i:Int)(back:Bk)(out:Ot):gL0IntR N M o1 k ob kind rs n i back out=(N.cmp .lss .i64 i .i64 n (N.dget rs i 1 (fun l0=>N.rdI .i64 l0 0 (fun z1=>M (.int .i64 z1) (fun s2=>N.base true k k ob 9 1 (fun l3=>N.appX k l3 1 [.string s2] 1 16 (fun l4 o5=>N.ari .add .i64 i .i64 1 (fun z6=>nD/\(back [pA 100,.int .u8 kind,(.func (Fn.func 172) ⟨[]⟩ ⟨[]⟩),(.slice (some ⟨103,0,none⟩) o5 o5),dsl rs,.int .i64 n,.int .i64 z6] [o1,none,qq14 s2,(some (AObj.cells l4 9 1 true true))])))))))) (nD/\(out (Exit.exit 0) [pA 100,.int .u8 kind,(.iface 1000000021 (.slice (some ⟨101,0,none⟩) k k))] [o1,ob]))):=by kernel_rfl
theorem gL1IntR_eq(N:Nd)(M:PSt)(o1 o2:Option AObj)(k:Nat)(ob:Option AObj)(kind:Int)(rs:List Value)(n i:Int)(back:Bk)(out:Ot):gL1IntR N M o1 o2 k ob kind rs n i back out=(N.cmp .lss .i64 i .i64 n (N.dget rs i 1 (fun l0=>N.rdI .i64 l0 0 (fun z1=>M (.int .i64 z1) (fun s2=>N.base true k k ob 9 1 (fun l3=>N.appX k l3 1 [.string s2] 1 16 (fun l4 o5=>N.ari .add .i64 i .i64 1 (fun z6=>nD/\(back [pA 100,.int .u8 kind,(.func (Fn.func 172) ⟨[]⟩ ⟨[]⟩),(.slice (some ⟨104,0,none⟩) o5 o5),dsl rs,.int .i64 n,.int .i64 z6] [o1,o2,none,qq14 s2,(some (AObj.cells l4 9 1 true true))])))))))) (nD/\(out (Exit.exit 0) [pA 100,.int .u8 kind,(.iface 1000000021 (.slice (some ⟨102,0,none⟩) k k))] [o1,o2,ob]))):=by kernel_rfl
def gL0Nat(N:Nd)(M:Mw)(MS:MSt)(L:LLt)(kind:Int)(rows:List Value)(K:RK):Prop:=wpe Tryz.prog N (howOf sy1 Sp0 [(148,sListS MS),(178,sText M)] [(2,(35,([0,1,3,8,13,14,15],sLoopL L)))] [] []) 300 (.call 179 [pW,(.int .u8 kind),(dsl rows),.func (.func 140) ⟨[]⟩ ⟨[]⟩] hW0) (retQ 100 K)
def gL1Nat(N:Nd)(M:Mw)(MS:MSt)(L:LLt)(len:Nat)(vs:List Value)(kind:Int)(rows:List Value)(K:RK):Prop:=wpe Tryz.prog N (howOf sy12 Sp0 [(148,sListS MS),(178,sText M)] [(2,(35,([0,1,3,8,13,14,15],sLoopL L)))] [] []) 300 (.call 179 [pW,(.int .u8 kind),(dsl rows),.func (.func 140) ⟨[]⟩ ⟨[]⟩] (hW1 len vs)) (retQ 100 K)
def gL0NatR(N:Nd)(M:PSt)(o1:Option AObj)(k:Nat)(ob:Option AObj)(kind:Int)(rs:List Value)(n i:Int)(back:List Value->List (Option AObj)->Prop)(out:Exit->List Value->List (Option AObj)->Prop):Prop:=
 wpe Tryz.prog N (howOf sy1 Sp0 [] [] [(140,sF M)] []) 300 (.code false (loopIn Tryz.prog 179 2) (stOf 100 35 [0,1,3,8,13,14,15] [] ([pW,.int .u8 kind,.func (.func 140) ⟨[]⟩ ⟨[]⟩,mkS 101 k,dsl rs,.int .i64 n,.int .i64 i],[o1,ob]))) (roundQ 100 [0,1,3,8,13,14,15] [0,1,8] 35 [] back out)
def gL1NatR(N:Nd)(M:PSt)(o1 o2:Option AObj)(k:Nat)(ob:Option AObj)(kind:Int)(rs:List Value)(n i:Int)(back:List Value->List (Option AObj)->Prop)(out:Exit->List Value->List (Option AObj)->Prop):Prop:=
 wpe Tryz.prog N (howOf sy12 Sp0 [] [] [(140,sF M)] []) 300 (.code false (loopIn Tryz.prog 179 2) (stOf 100 35 [0,1,3,8,13,14,15] [] ([pW,.int .u8 kind,.func (.func 140) ⟨[]⟩ ⟨[]⟩,mkS 102 k,dsl rs,.int .i64 n,.int .i64 i],[o1,o2,ob]))) (roundQ 100 [0,1,3,8,13,14,15] [0,1,8] 35 [] back out)
set_option maxRecDepth 100000
theorem gL0Nat_eq(N:Nd)(M:Mw)(MS:MSt)(L:LLt)(kind:Int)(rows:List Value)(K:RK):gL0Nat N M MS L kind rows K=(N.dlen rows (fun o0=>L (loopIn Tryz.prog 179 2) 35 [pA 100,.int .u8 kind,(.func (Fn.func 140) ⟨[]⟩ ⟨[]⟩),.slice none 0 0,dsl rows,(.int .i64 (Int.ofNat o0)),.int .i64 0] [qq1] (fun o1 l2=>(o1=o1)/\(MS o1 l2 (fun s3 z4=>(qq1=qq1)/\(M.t0 kind s3 (K (.tuple ⟨[]⟩) [qq1,l2]) (fun l5=>K (.tuple ⟨[]⟩) [(qq2 (.slice (some ⟨102,0,none⟩) 1 1)),l2,(some (AObj.cells l5 94 2 true true))]))))))):=by kernel_rfl
theorem gL1Nat_eq(N:Nd)(M:Mw)(MS:MSt)(L:LLt)(len:Nat)(vs:List Value)(kind:Int)(rows:List Value)(K:RK):gL1Nat N M MS L len vs kind rows K=(N.dlen rows (fun o0=>L (loopIn Tryz.prog 179 2) 35 [pA 100,.int .u8 kind,(.func (Fn.func 140) ⟨[]⟩ ⟨[]⟩),.slice none 0 0,dsl rows,(.int .i64 (Int.ofNat o0)),.int .i64 0] [(qq2 (.slice (some ⟨101,0,none⟩) len len)),(some (AObj.cells vs 94 2 true true))] (fun o1 l2=>(o1=o1)/\(MS o1 l2 (fun s3 z4=>(len=len)/\(M.t1 len vs kind s3 (fun o5 l6=>K (.tuple ⟨[]⟩) [(qq2 (.slice (some ⟨103,0,none⟩) o5 o5)),none,l2,(some (AObj.cells l6 94 2 true true))]))))))):=by kernel_rfl
theorem gL0NatR_eq(N:Nd)(M:PSt)(o1:Option AObj)(k:Nat)(ob:Option AObj)(kind:Int)(rs:List Value)(n i:Int)(back:Bk)(out:Ot):gL0NatR N M o1 k ob kind rs n i back out=(N.cmp .lss .i64 i .i64 n (N.dget rs i 1 (fun l0=>N.rdI .u64 l0 0 (fun z1=>M (.int .u64 z1) (fun s2=>N.base true k k ob 9 1 (fun l3=>N.appX k l3 1 [.string s2] 1 16 (fun l4 o5=>N.ari .add .i64 i .i64 1 (fun z6=>nD/\(back [pA 100,.int .u8 kind,(.func (Fn.func 140) ⟨[]⟩ ⟨[]⟩),(.slice (some ⟨103,0,none⟩) o5 o5),dsl rs,.int .i64 n,.int .i64 z6] [o1,none,qq14 s2,(some (AObj.cells l4 9 1 true true))])))))))) (nD/\(out (Exit.exit 0) [pA 100,.int .u8 kind,(.iface 1000000021 (.slice (some ⟨101,0,none⟩) k k))] [o1,ob]))):=by kernel_rfl
theorem gL1NatR_eq(N:Nd)(M:PSt)(o1 o2:Option AObj)(k:Nat)(ob:Option AObj)(kind:Int)(rs:List Value)(n i:Int)(back:Bk)(out:Ot):gL1NatR N M o1 o2 k ob kind rs n i back out=(N.cmp .lss .i64 i .i64 n (N.dget rs i 1 (fun l0=>N.rdI .u64 l0 0 (fun z1=>M (.int .u64 z1) (fun s2=>N.base true k k ob 9 1 (fun l3=>N.appX k l3 1 [.string s2] 1 16 (fun l4 o5=>N.ari .add .i64 i .i64 1 (fun z6=>nD/\(back [pA 100,.int .u8 kind,(.func (Fn.func 140) ⟨[]⟩ ⟨[]⟩),(.slice (some ⟨104,0,none⟩) o5 o5),dsl rs,.int .i64 n,.int .i64 z6] [o1,o2,none,qq14 s2,(some (AObj.cells l4 9 1 true true))])))))))) (nD/\(out (Exit.exit 0) [pA 100,.int .u8 kind,(.iface 1000000021 (.slice (some ⟨102,0,none⟩) k k))] [o1,o2,ob]))):=by kernel_rfl
def gPutArm(N:Nd)(M:Mw)(v nx:Int)(K:RK):Prop:=wpe Tryz.prog N (howOf S0 Sp0 [(154,sNumW M),(157,sBytes M)] [] [] []) 300 (.call 156 [.agg ⟨[.int .u32 v,.int .i64 nx]⟩] h0) (retQ 100 K)
def gPutInstr(N:Nd)(M:Mw)(op to ak an bk bn n:Int)(K:RK):Prop:=wpe Tryz.prog N (howOf S0 Sp0 [(154,sNumW M),(157,sBytes M)] [] [] []) 300 (.call 190 [.agg ⟨[.int .u8 op,.int .i64 to,.int .u8 ak,.int .u64 an,.int .u8 bk,.int .u64 bn,.int .i64 n]⟩] h0) (retQ 100 K)
def gPutBucket(N:Nd)(M:Mw)(w b:Int)(K:RK):Prop:=wpe Tryz.prog N (howOf S0 Sp0 [(154,sNumW M),(157,sBytes M)] [] [] []) 300 (.call 198 [.agg ⟨[.int .u64 w,.int .i64 b]⟩] h0) (retQ 100 K)
def gPutInt(N:Nd)(M:Mw)(n:Int)(K:RK):Prop:=wpe Tryz.prog N (WN M) 300 (.call 172 [(.int .i64 n)] h0) (retQ 100 K)
set_option maxRecDepth 100000
theorem gPutArm_eq(N:Nd)(M:Mw)(v nx:Int)(K:RK):gPutArm N M v nx K=(N.conv 27 28 .u32 v .u64 (fun z0=>(qq1=qq1)/\(M.n0 1 z0 (N.conv 3 28 .i64 nx .u64 (fun z1=>(qq1=qq1)/\(M.n0 2 z1 ((qq1=qq1)/\(K (.string (bytesOf [])) [qq16 v nx,qq1])) (fun l2=>(1=1)/\(M.bt 1 l2 (fun s3=>K (.string s3) [qq16 v nx,(qq2 (.slice (some ⟨102,0,none⟩) 1 1)),(some (AObj.cells l2 94 2 true true))])))))) (fun l1=>N.conv 3 28 .i64 nx .u64 (fun z2=>(1=1)/\(M.n1 1 l1 2 z2 (fun o3 l4=>(o3=o3)/\(M.bt o3 l4 (fun s5=>K (.string s5) [qq16 v nx,(qq2 (.slice (some ⟨103,0,none⟩) o3 o3)),none,(some (AObj.cells l4 94 2 true true))]))))))))):=by kernel_rfl
theorem gPutInstr_eq(N:Nd)(M:Mw)(op to ak an bk bn n:Int)(K:RK):gPutInstr N M op to ak an bk bn n K=(N.conv 5 28 .u8 op .u64 (fun z0=>(qq1=qq1)/\(M.n0 1 z0 (N.conv 3 28 .i64 to .u64 (fun z1=>(qq1=qq1)/\(M.n0 2 z1 (N.conv 5 28 .u8 ak .u64 (fun z2=>(qq1=qq1)/\(M.n0 3 z2 ((qq1=qq1)/\(M.n0 4 an (N.conv 5 28 .u8 bk .u64 (fun z3=>(qq1=qq1)/\(M.n0 5 z3 ((qq1=qq1)/\(M.n0 6 bn (N.conv 3 28 .i64 n .u64 (fun z4=>(qq1=qq1)/\(M.n0 7 z4 ((qq1=qq1)/\(K (.string (bytesOf [])) [qq7 op to ak an bk bn n,qq1])) (fun l5=>(1=1)/\(M.bt 1 l5 (fun s6=>K (.string s6) [qq7 op to ak an bk bn n,(qq2 (.slice (some ⟨102,0,none⟩) 1 1)),(some (AObj.cells l5 94 2 true true))])))))) (fun l4=>N.conv 3 28 .i64 n .u64 (fun z5=>(1=1)/\(M.n1 1 l4 7 z5 (fun o6 l7=>(o6=o6)/\(M.bt o6 l7 (fun s8=>K (.string s8) [qq7 op to ak an bk bn n,(qq2 (.slice (some ⟨103,0,none⟩) o6 o6)),none,(some (AObj.cells l7 94 2 true true))])))))))) (fun l4=>(1=1)/\(M.n1 1 l4 6 bn (fun o5 l6=>N.conv 3 28 .i64 n .u64 (fun z7=>(o5=o5)/\(M.n1 o5 l6 7 z7 (fun o8 l9=>(o8=o8)/\(M.bt o8 l9 (fun s10=>K (.string s10) [qq7 op to ak an bk bn n,(qq2 (.slice (some ⟨104,0,none⟩) o8 o8)),none,none,(some (AObj.cells l9 94 2 true true))]))))))))))) (fun l3=>N.conv 5 28 .u8 bk .u64 (fun z4=>(1=1)/\(M.n1 1 l3 5 z4 (fun o5 l6=>(o5=o5)/\(M.n1 o5 l6 6 bn (fun o7 l8=>N.conv 3 28 .i64 n .u64 (fun z9=>(o7=o7)/\(M.n1 o7 l8 7 z9 (fun o10 l11=>(o10=o10)/\(M.bt o10 l11 (fun s12=>K (.string s12) [qq7 op to ak an bk bn n,(qq2 (.slice (some ⟨105,0,none⟩) o10 o10)),none,none,none,(some (AObj.cells l11 94 2 true true))]))))))))))))) (fun l3=>(1=1)/\(M.n1 1 l3 4 an (fun o4 l5=>N.conv 5 28 .u8 bk .u64 (fun z6=>(o4=o4)/\(M.n1 o4 l5 5 z6 (fun o7 l8=>(o7=o7)/\(M.n1 o7 l8 6 bn (fun o9 l10=>N.conv 3 28 .i64 n .u64 (fun z11=>(o9=o9)/\(M.n1 o9 l10 7 z11 (fun o12 l13=>(o12=o12)/\(M.bt o12 l13 (fun s14=>K (.string s14) [qq7 op to ak an bk bn n,(qq2 (.slice (some ⟨106,0,none⟩) o12 o12)),none,none,none,none,(some (AObj.cells l13 94 2 true true))])))))))))))))))) (fun l2=>N.conv 5 28 .u8 ak .u64 (fun z3=>(1=1)/\(M.n1 1 l2 3 z3 (fun o4 l5=>(o4=o4)/\(M.n1 o4 l5 4 an (fun o6 l7=>N.conv 5 28 .u8 bk .u64 (fun z8=>(o6=o6)/\(M.n1 o6 l7 5 z8 (fun o9 l10=>(o9=o9)/\(M.n1 o9 l10 6 bn (fun o11 l12=>N.conv 3 28 .i64 n .u64 (fun z13=>(o11=o11)/\(M.n1 o11 l12 7 z13 (fun o14 l15=>(o14=o14)/\(M.bt o14 l15 (fun s16=>K (.string s16) [qq7 op to ak an bk bn n,(qq2 (.slice (some ⟨107,0,none⟩) o14 o14)),none,none,none,none,none,(some (AObj.cells l15 94 2 true true))]))))))))))))))))))) (fun l1=>N.conv 3 28 .i64 to .u64 (fun z2=>(1=1)/\(M.n1 1 l1 2 z2 (fun o3 l4=>N.conv 5 28 .u8 ak .u64 (fun z5=>(o3=o3)/\(M.n1 o3 l4 3 z5 (fun o6 l7=>(o6=o6)/\(M.n1 o6 l7 4 an (fun o8 l9=>N.conv 5 28 .u8 bk .u64 (fun z10=>(o8=o8)/\(M.n1 o8 l9 5 z10 (fun o11 l12=>(o11=o11)/\(M.n1 o11 l12 6 bn (fun o13 l14=>N.conv 3 28 .i64 n .u64 (fun z15=>(o13=o13)/\(M.n1 o13 l14 7 z15 (fun o16 l17=>(o16=o16)/\(M.bt o16 l17 (fun s18=>K (.string s18) [qq7 op to ak an bk bn n,(qq2 (.slice (some ⟨108,0,none⟩) o16 o16)),none,none,none,none,none,none,(some (AObj.cells l17 94 2 true true))])))))))))))))))))))))):=by kernel_rfl
theorem gPutBucket_eq(N:Nd)(M:Mw)(w b:Int)(K:RK):gPutBucket N M w b K=((qq1=qq1)/\(M.n0 1 w (N.conv 3 28 .i64 b .u64 (fun z0=>(qq1=qq1)/\(M.n0 2 z0 ((qq1=qq1)/\(K (.string (bytesOf [])) [qq17 w b,qq1])) (fun l1=>(1=1)/\(M.bt 1 l1 (fun s2=>K (.string s2) [qq17 w b,(qq2 (.slice (some ⟨102,0,none⟩) 1 1)),(some (AObj.cells l1 94 2 true true))])))))) (fun l0=>N.conv 3 28 .i64 b .u64 (fun z1=>(1=1)/\(M.n1 1 l0 2 z1 (fun o2 l3=>(o2=o2)/\(M.bt o2 l3 (fun s4=>K (.string s4) [qq17 w b,(qq2 (.slice (some ⟨103,0,none⟩) o2 o2)),none,(some (AObj.cells l3 94 2 true true))])))))))):=by kernel_rfl
theorem gPutInt_eq(N:Nd)(M:Mw)(n:Int)(K:RK):gPutInt N M n K=(N.conv 3 28 .i64 n .u64 (fun z0=>M.nb z0 (fun s1=>K (.string s1) []))):=by kernel_rfl
end
end Go.Proofs.YtblbaohcelldpaaGreatDoor.Ob
namespace Go.Proofs.YtblbaohcelldpaaGreatDoor.Ob
open Go Go.Abs Go.Tlv
set_option maxRecDepth 100000
noncomputable section
structure InvL(l:List ByteArray)(i:Nat):Prop where
 le:i<=l.length
 eq:listE l=listE (l.drop i)
 bd:(listBB (l.take i)).length<=i*65537
def IL(l:List ByteArray)(p:{i:Nat // InvL l i}):List Value×List (Option AObj):=
 ([mkS 100 (listBB (l.take p.1)).length,dsl (rowsOf cStr l),.int .i64 (l.length:Int),.int .i64 (p.1:Int)],[mo (cellsB (listBB (l.take p.1))) 5 1])
def RL(l:List ByteArray)(e:Exit)(v:List Value)(o:List (Option AObj)):Prop:=
 (listE l=0/\e = .exit 0/\v=[top,top,mkS 100 (listBB l).length]/\o=[mo (cellsB (listBB l)) 5 1])∨
 (listE l≠0/\e = .ret/\v=[.string (bytesOf []),.int .i64 (listE l:Int),top]/\o=[])
theorem take_succ{α:Type}{l:List α}{i:Nat}{a:α}(ha:l[i]?=some a):l.take (i+1)=l.take i++[a]:=by rw[List.take_add_one,ha];rfl
theorem drop_succ{α:Type}{l:List α}{i:Nat}{a:α}(ha:l[i]?=some a):l.drop i=a::l.drop (i+1):=by
 have hlt:=(List.getElem?_eq_some_iff.1 ha).1
 have h2:=List.drop_eq_getElem_cons hlt
 rw[List.getElem?_eq_getElem hlt]at ha
 simp only[Option.some.injEq]at ha
 rw[h2,ha]
theorem roundL(l:List ByteArray)(hl:l.length<100000)(p:{i:Nat // InvL l i}):
  Is (wpe Tryz.prog (real Tryz.prog) WS 300 (.code false (loopIn Tryz.prog 148 3) (stOf 100 26 [4,7,8,9] [] (IL l p))) (roundQ 100 [4,7,8,9] [2,3,4] 26 []
   (fun vals objs=>∃a':{i:Nat // InvL l i},l.length-a'.1<l.length-p.1/\Wk 100 (100+0) vals objs (IL l a').1 (IL l a').2/\∀e v o,RL l e v o->RL l e v o)
   (fun e vals objs=>∃v o,Wk 100 (100+0) vals objs v o/\RL l e v o))):=by
 refine⟨?_⟩
 obtain⟨i,inv⟩:=p
 have hi:=inv.le
 have hbd:=inv.bd
 have heq:=inv.eq
 show gListR (real Tryz.prog) (listBB (l.take i)).length (mo (cellsB (listBB (l.take i))) 5 1) (rowsOf cStr l) (l.length:Int) (i:Int) _ _
 rw[gListR_eq]
 refine n_ltN (fun hlt=>?_) (fun hge=>?_)
 ·have ha:l[i]?=some l[i]:=by simp[hlt]
  generalize l[i]=a at ha
  have htake:=take_succ ha
  rw[drop_succ ha]at heq
  simp only[listE]at heq
  refine n_dget i rfl (rowsOf_get ha) rfl (n_rdS (z:=a) rfl (n_slen (n_gtN (d:=65535) (fun h3=>?_) (fun h3=>?_))))
  ·rw[if_pos (show 65535<slen a from h3)]at heq
   exact⟨rfl,_,_,wk_ret,.inr ⟨by omega,rfl,by rw[heq];rfl,rfl⟩⟩
  rw[if_neg (show ¬65535<slen a by show ¬65535<a.data.toList.length;omega)]at heq
  have hk:(listBB (l.take i)).length<=100000*65537:=Nat.le_trans hbd (Nat.mul_le_mul_right _ (by omega))
  have hT:tops=140737488355328:=rfl
  have hitem:(itemB a).length=2+a.data.toList.length:=by simp[itemB,two,slen];omega
  have hinv:InvL l (i+1):=by
   refine⟨hlt,heq,?_⟩
   rw[htake,listBB_snoc,List.length_append,hitem,Nat.add_mul]
   omega
  have hcell:cellsB (listBB (l.take i))++[.int .u8 ((a.data.toList.length / 256 % 256:Nat):Int),.int .u8 ((a.data.toList.length % 256:Nat):Int)]++bytesV a=cellsB (listBB (l.take (i+1))):=by
   rw[htake,listBB_snoc,cellsB_app,u8c,u8c,bytesV_c]
   simp[itemB,two,cellsB,slen]
  have hlen:(listBB (l.take (i+1))).length=(listBB (l.take i)).length+2+a.data.toList.length:=by
   rw[←cellsB_len,←hcell];simp only[List.length_append,cellsB_len,bytesV_c,List.length_cons,List.length_nil]
  have hne:cellsB (listBB (l.take (i+1)))≠[]:=by intro e;have:=congrArg List.length e;rw[cellsB_len,hlen]at this;simp at this
  refine n_slen (n_shrN (by decide) (n_toU8 t3 t5 (n_toU8 t3 t5 (n_base_mo (by rw[cellsB_len,Nat.mul_one]) (by omega) (n_appX (by omega) rfl rfl (by omega) (by omega) (n_base_c (by simp[cellsB_len]) (by omega) (by omega) (n_appS (fun h=>n_inc (by omega) ⟨rfl,?_⟩) (fun _=>⟨by omega,by omega,n_inc (by omega) ⟨rfl,?_⟩⟩))))))))
  ·refine⟨⟨i+1,hinv⟩,show l.length-(i+1)<l.length-i by omega,?_,fun _ _ _ h=>h⟩
   show Wk 100 (100+0) _ _ (mkS (100+0) (listBB (l.take (i+1))).length::_) [mo (cellsB (listBB (l.take (i+1)))) 5 1]
   rw[mo_ne hne,←hcell,hlen,bytesV_c,h]
   show Wk 100 (100+0) _ _ (mkS (100+0) _::_) ([]++[some (.cells (_++[]) 5 1 true true)])
   rw[List.append_nil]
   refine wk_out (k0:=0) (j:=2) (pre:=[]) (by omega) rfl ?_ rfl (by simp) rfl (fun i o h=>by simp at h)
   rw[bytesV_c,h]at hcell
   have:cellsB ([]:List UInt8)=[]:=rfl
   rw[this,List.append_nil]at hcell
   rw[hcell];exact cellsB_below _ _
  ·refine⟨⟨i+1,hinv⟩,show l.length-(i+1)<l.length-i by omega,?_,fun _ _ _ h=>h⟩
   show Wk 100 (100+0) _ _ (mkS (100+0) (listBB (l.take (i+1))).length::_) [mo (cellsB (listBB (l.take (i+1)))) 5 1]
   rw[mo_ne hne,←hcell,hlen]
   refine wk_out (k0:=0) (j:=3) (pre:=[]) (by omega) rfl ?_ rfl (by omega) rfl (fun i o h=>by simp at h)
   rw[hcell];exact cellsB_below _ _
 ·have hil:i=l.length:=by omega
  subst hil
  rw[List.drop_length]at heq
  refine⟨rfl,[top,top,mkS 100 (listBB l).length],[mo (cellsB (listBB l)) 5 1],?_,.inl ⟨heq,rfl,rfl,rfl⟩⟩
  rw[List.take_length];exact Wk.refl _ _ _ _
def LLs:LEt:=fun c n vals obs A E=>∃l:List ByteArray,l.length<100000/\c=loopIn Tryz.prog 148 3/\n=26/\vals=[.slice none 0 0,dsl (rowsOf cStr l),.int .i64 (Int.ofNat l.length),.int .i64 (0:Int)]/\obs=[]/\
 (listE l=0->A (listBB l).length (mo (cellsB (listBB l)) 5 1))/\(listE l≠0->E (listE l:Int))
theorem lpLs:LoopOk Tryz.prog 100 [4,7,8,9] (sLoopE LLs):=by
 show LoopOk Tryz.prog 100 [4,7,8,9] (lpS [2,3,4] _)
 refine lp_mk okp (W:=WS) kn_none lp_none ?_
 rintro c n vals obs K ⟨l,hl,hc,hn,hv,ho,hA,hE⟩
 subst hc;subst hn;subst hv;subst ho
 refine⟨{i:Nat // InvL l i},0,300,fun p=>l.length-p.1,IL l,fun _ e v o=>RL l e v o,⟨0,⟨Nat.zero_le _,rfl,by simp[listBB]⟩⟩,rfl,?_,?_,roundL l hl⟩
 ·show Wk 100 (100+0) _ [] (mkS 100 0::_) ([]++[none])
  exact wk_nilS
 intro e v o hR
 rcases hR with⟨h1,rfl,rfl,rfl⟩ | ⟨h1,rfl,rfl,rfl⟩
 ·exact hA h1
 ·exact hE h1
def retL(l:List ByteArray):Value := .tuple ⟨[.string (bytesOf (listS l)),.int .i64 (listE l:Int)]⟩
theorem listC(l:List ByteArray)(hl:l.length<100000):Is (gList (real Tryz.prog) LLs (rowsOf cStr l) (PQ (retL l))):=by
 refine⟨?_⟩
 rw[gList_eq]
 refine n_dlen l.length (rowsOf_len _ _) ⟨l,hl,rfl,rfl,rfl,rfl,fun h=>?_,fun h=>?_⟩
 ·refine n_strM (cellsB_len _) (cellsB_bytes _) (PQ.of ?_ rfl)
  unfold retL listS;rw[if_pos h,h];rfl
 ·exact PQ.of (by unfold retL listS;rw[if_neg h]) rfl
theorem listH(l:List ByteArray)(hl:l.length<100000)(B:Base)(H:Heap):CallH Tryz.prog 100 B 148 [dsl (rowsOf cStr l)] H (.returned (retL l)) H:=
 pu_mk okp kn_none (lp_ok (fun x hx=>by simp only[List.mem_singleton]at hx;subst hx;exact lpLs)) rfl rfl (listC l hl) B H
def strV(l:List ByteArray):List Value:=l.map fun s => .string s
theorem flatStr(l:List ByteArray):flatRows 1 (rowsOf cStr l)=some (strV l):=by
 induction l with
 |nil=>rfl
 |cons a l ih=>
  show flatRows 1 (.agg ⟨[.string a]⟩::rowsOf cStr l)=_
  simp only[flatRows,ih];rfl
theorem belowStr(n:Nat)(l:List ByteArray):belowL n (strV l)=true:=by
 induction l with
 |nil=>rfl
 |cons a l ih=>show(true&&belowL n (strV l))=true;rw[ih];rfl
def MSr:MSt:=fun k ob K=>∃l:List ByteArray,l.length<100000/\k=l.length/\ob=mo (strV l) 9 1/\K (bytesOf (listS l)) (listE l:Int)
theorem ok125:SumOk Tryz.prog 100 148 (sListS MSr):=by
 intro args H K h
 unfold sListS at h
 split at h<;>try exact h.elim
 rename_i t b k k'
 split at h<;>try exact h.elim
 rename_i e1
 obtain rfl:=Nat.eq_of_beq_eq_true e1
 obtain⟨rfl,l,hl,rfl,hob,hK⟩:=h
 refine⟨_,H,fun B=>?_,hK⟩
 cases l with
 |nil=>exact callh_weak (.cons .emptyMD .nil) (listH [] hl B H)
 |cons s l=>
  refine callh_weak (.cons (.unmark (by simp)) .nil) ?_
  exact own_deep (pre:=[]) (post:=[]) (fun B H=>listH (s::l) hl B H) hob (flatStr (s::l)) (belowStr 0 (s::l)) (by omega) (by rw[rowsOf_len]) (Nat.le_refl _) rfl rfl rfl B
end
end Go.Proofs.YtblbaohcelldpaaGreatDoor.Ob
