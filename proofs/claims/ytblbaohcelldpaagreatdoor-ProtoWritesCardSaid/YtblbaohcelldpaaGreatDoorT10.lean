/- . -/
import Derived.Test.YtblbaohcelldpaaGreatDoorT9
set_option linter.all false
set_option maxRecDepth 100000
namespace Go.Proofs.Ob
open Go Go.Abs Go.Tlv
noncomputable section
def cStr(s:ByteArray):Lv:=[.string s]
def ALl(N:Nd)(L:LEt)(rs:Lv)(K:RK):Prop:=wpe Tryz.prog N (AP sy0 Sp0 [] [(3,(26,([4,7,8,9],vU L)))] [] []) 300 (.call 148 [(dsl rs)] h0) (FD 100 K)
def AGZ(N:Nd)(k:Nat)(ob:Option AA)(rs:Lv)(n i:Int)(back:Bk)(out:Ot):Prop:=
 wpe Tryz.prog N WS 300 (.code false (AJ Tryz.prog 148 3) (CX 100 26 [4,7,8,9] [] ([mkS 100 k,dsl rs,.int .i64 n,.int .i64 i],[ob]))) (A7 100 [4,7,8,9] [2,3,4] 26 [] back out)
theorem AG0(N:Nd)(L:LEt)(rs:Lv)(K:RK):ALl N L rs K=(N.dlen rs (fun o0=>L (AJ Tryz.prog 148 3) 26 [.slice none 0 0,dsl rs,(.int .i64 (Int.ofNat o0)),.int .i64 0] [] (fun o1 l2=>N.strM o1 l2 (fun s3=>K (.tuple (Array.mk [.string s3,.int .i64 0])) [l2])) (fun z1=>K (.tuple (Array.mk [.string (bytesOf []),.int .i64 z1])) []))):=by kernel_rfl
theorem AEH(N:Nd)(k:Nat)(ob:Option AA)(rs:Lv)(n i:Int)(back:Bk)(out:Ot):AGZ N k ob rs n i back out=(N.cmp .lss .i64 i .i64 n (N.dget rs i 1 (fun l0=>N.rdS l0 0 (fun s1=>N.slen s1 (fun z2=>N.cmp .gtr .i64 z2 .i64 65535 (nD/\(out Exit.ret [.string (bytesOf []),.int .i64 5,(.iface 1000000021 (.slice (some ⟨100,0,none⟩) k k))] [ob])) (N.slen s1 (fun z3=>N.ari .shr .i64 z3 .u64 8 (fun z4=>N.conv 3 5 .i64 z4 .u8 (fun z5=>N.conv 3 5 .i64 z3 .u8 (fun z6=>N.base true k k ob 5 1 (fun l7=>N.appX k l7 2 [.int .u8 z5,.int .u8 z6] 1 1 (fun l8 o9=>N.base false o9 o9 (some (AA.cells l8 5 1 true true)) 5 1 (fun l10=>N.appS o9 l10 s1 1 (N.ari .add .i64 i .i64 1 (fun z11=>nD/\(back [(.slice (some ⟨102,0,none⟩) o9 o9),dsl rs,.int .i64 n,.int .i64 z11] [none,AKF z5 z6,(some (AA.cells l8 5 1 true true))]))) (fun l11 o12=>N.ari .add .i64 i .i64 1 (fun z13=>nD/\(back [(.slice (some ⟨103,0,none⟩) o12 o12),dsl rs,.int .i64 n,.int .i64 z13] [none,AKF z5 z6,none,(some (AA.cells l11 5 1 true true))]))))))))))))))) (nD/\(out (Exit.exit 0) [(.chan (some 0)),(.chan (some 0)),(.iface 1000000021 (.slice (some ⟨100,0,none⟩) k k))] [ob]))):=by kernel_rfl
abbrev MSt:=Nat->Option AA->(ByteArray->Int->Prop)->Prop
def ND(M:MSt):Lv->Heap->VK->Prop
 | [.iface t (.slice (some ⟨b,0,none⟩) k k')],H,K=>match Nat.beq t mkM with
  |true=>k'=k/\M k (H.get b) fun s e=>K (.tuple ⟨[.string s,.int .i64 e]⟩) H
  |false=>False
 |_,_,_=>False
abbrev LLt:=Code->Nat->Lv->Lo->(Nat->Option AA->Prop)->Prop
def KJ(L:LLt):LpS:=lpS [0,1,8] fun c n AB obs K=>match AB with
 |pw::kd::_=>L c n AB obs (fun k ob=>K (.exit 0) [pw,kd,mkS (100+obs.length) k] (obs++[ob]))
 |_=>False
def TS:Sy:=fun b=>match Nat.beq b 101||Nat.beq b 102 with|true=>some true|false=>none
abbrev PSt:=Value->(ByteArray->Prop)->Prop
def sF(M:PSt):Lv->(Value->Prop)->Prop
 | [a],K=>M a fun s=>K (.string s)
 |_,_=>False
def ABs(N:Nd)(M:Mw)(MS:MSt)(L:LLt)(kind:Int)(AY:Lv)(K:RK):Prop:=wpe Tryz.prog N (AP sy1 Sp0 [(148,ND MS),(178,MU M)] [(2,(35,([0,1,3,8,13,14,15],KJ L)))] [] []) 300 (.call 155 [pW,(.int .u8 kind),(dsl AY),.func (.func 156) ⟨[]⟩ ⟨[]⟩] hW0) (FD 100 K)
def AGW(N:Nd)(M:Mw)(MS:MSt)(L:LLt)(len:Nat)(vs:Lv)(kind:Int)(AY:Lv)(K:RK):Prop:=wpe Tryz.prog N (AP TS Sp0 [(148,ND MS),(178,MU M)] [(2,(35,([0,1,3,8,13,14,15],KJ L)))] [] []) 300 (.call 155 [pW,(.int .u8 kind),(dsl AY),.func (.func 156) ⟨[]⟩ ⟨[]⟩] (hW1 len vs)) (FD 100 K)
def AC5(N:Nd)(M:PSt)(o1:Option AA)(k:Nat)(ob:Option AA)(kind:Int)(rs:Lv)(n i:Int)(back:Bk)(out:Ot):Prop:=
 wpe Tryz.prog N (AP sy1 Sp0 [] [] [(156,sF M)] []) 300 (.code false (AJ Tryz.prog 155 2) (CX 100 35 [0,1,3,8,13,14,15] [] ([pW,.int .u8 kind,.func (.func 156) ⟨[]⟩ ⟨[]⟩,mkS 101 k,dsl rs,.int .i64 n,.int .i64 i],[o1,ob]))) (A7 100 [0,1,3,8,13,14,15] [0,1,8] 35 [] back out)
def AC8(N:Nd)(M:PSt)(o1 o2:Option AA)(k:Nat)(ob:Option AA)(kind:Int)(rs:Lv)(n i:Int)(back:Bk)(out:Ot):Prop:=
 wpe Tryz.prog N (AP TS Sp0 [] [] [(156,sF M)] []) 300 (.code false (AJ Tryz.prog 155 2) (CX 100 35 [0,1,3,8,13,14,15] [] ([pW,.int .u8 kind,.func (.func 156) ⟨[]⟩ ⟨[]⟩,mkS 102 k,dsl rs,.int .i64 n,.int .i64 i],[o1,o2,ob]))) (A7 100 [0,1,3,8,13,14,15] [0,1,8] 35 [] back out)
theorem oD(N:Nd)(M:Mw)(MS:MSt)(L:LLt)(kind:Int)(AY:Lv)(K:RK):ABs N M MS L kind AY K=(N.dlen AY (fun o0=>L (AJ Tryz.prog 155 2) 35 [pA 100,.int .u8 kind,(.func (Fn.func 156) ⟨[]⟩ ⟨[]⟩),.slice none 0 0,dsl AY,(.int .i64 (Int.ofNat o0)),.int .i64 0] [qq1] (fun o1 l2=>(o1=o1)/\(MS o1 l2 (fun s3 z4=>(qq1=qq1)/\(M.t0 kind s3 (K (.tuple ⟨[]⟩) [qq1,l2]) (fun l5=>K (.tuple ⟨[]⟩) [(qq2 (.slice (some ⟨102,0,none⟩) 1 1)),l2,(some (AA.cells l5 94 2 true true))]))))))):=by kernel_rfl
theorem AEE(N:Nd)(M:Mw)(MS:MSt)(L:LLt)(len:Nat)(vs:Lv)(kind:Int)(AY:Lv)(K:RK):AGW N M MS L len vs kind AY K=(N.dlen AY (fun o0=>L (AJ Tryz.prog 155 2) 35 [pA 100,.int .u8 kind,(.func (Fn.func 156) ⟨[]⟩ ⟨[]⟩),.slice none 0 0,dsl AY,(.int .i64 (Int.ofNat o0)),.int .i64 0] [(qq2 (.slice (some ⟨101,0,none⟩) len len)),(some (AA.cells vs 94 2 true true))] (fun o1 l2=>(o1=o1)/\(MS o1 l2 (fun s3 z4=>(len=len)/\(M.t1 len vs kind s3 (fun o5 l6=>K (.tuple ⟨[]⟩) [(qq2 (.slice (some ⟨103,0,none⟩) o5 o5)),none,l2,(some (AA.cells l6 94 2 true true))]))))))):=by kernel_rfl
theorem ABt(N:Nd)(M:PSt)(o1:Option AA)(k:Nat)(ob:Option AA)(kind:Int)(rs:Lv)(n i:Int)(back:Bk)(out:Ot):AC5 N M o1 k ob kind rs n i back out=(N.cmp .lss .i64 i .i64 n (N.dget rs i 2 (fun l0=>N.rdI .u32 l0 0 (fun z1=>N.rdI .i64 l0 1 (fun z2=>M (.agg (Array.mk [.int .u32 z1,.int .i64 z2])) (fun s3=>N.base true k k ob 9 1 (fun l4=>N.appX k l4 1 [.string s3] 1 16 (fun l5 o6=>N.ari .add .i64 i .i64 1 (fun z7=>nD/\(back [pA 100,.int .u8 kind,(.func (Fn.func 156) ⟨[]⟩ ⟨[]⟩),(.slice (some ⟨104,0,none⟩) o6 o6),dsl rs,.int .i64 n,.int .i64 z7] [o1,none,AAj z1 z2,TK s3,(some (AA.cells l5 9 1 true true))]))))))))) (nD/\(out (Exit.exit 0) [pA 100,.int .u8 kind,(.iface 1000000021 (.slice (some ⟨101,0,none⟩) k k))] [o1,ob]))):=by kernel_rfl
theorem ABy(N:Nd)(M:PSt)(o1 o2:Option AA)(k:Nat)(ob:Option AA)(kind:Int)(rs:Lv)(n i:Int)(back:Bk)(out:Ot):AC8 N M o1 o2 k ob kind rs n i back out=(N.cmp .lss .i64 i .i64 n (N.dget rs i 2 (fun l0=>N.rdI .u32 l0 0 (fun z1=>N.rdI .i64 l0 1 (fun z2=>M (.agg (Array.mk [.int .u32 z1,.int .i64 z2])) (fun s3=>N.base true k k ob 9 1 (fun l4=>N.appX k l4 1 [.string s3] 1 16 (fun l5 o6=>N.ari .add .i64 i .i64 1 (fun z7=>nD/\(back [pA 100,.int .u8 kind,(.func (Fn.func 156) ⟨[]⟩ ⟨[]⟩),(.slice (some ⟨105,0,none⟩) o6 o6),dsl rs,.int .i64 n,.int .i64 z7] [o1,o2,none,AAj z1 z2,TK s3,(some (AA.cells l5 9 1 true true))]))))))))) (nD/\(out (Exit.exit 0) [pA 100,.int .u8 kind,(.iface 1000000021 (.slice (some ⟨102,0,none⟩) k k))] [o1,o2,ob]))):=by kernel_rfl
def jY(N:Nd)(M:Mw)(MS:MSt)(L:LLt)(kind:Int)(AY:Lv)(K:RK):Prop:=wpe Tryz.prog N (AP sy1 Sp0 [(148,ND MS),(178,MU M)] [(2,(35,([0,1,3,8,13,14,15],KJ L)))] [] []) 300 (.call 189 [pW,(.int .u8 kind),(dsl AY),.func (.func 190) ⟨[]⟩ ⟨[]⟩] hW0) (FD 100 K)
def xM(N:Nd)(M:Mw)(MS:MSt)(L:LLt)(len:Nat)(vs:Lv)(kind:Int)(AY:Lv)(K:RK):Prop:=wpe Tryz.prog N (AP TS Sp0 [(148,ND MS),(178,MU M)] [(2,(35,([0,1,3,8,13,14,15],KJ L)))] [] []) 300 (.call 189 [pW,(.int .u8 kind),(dsl AY),.func (.func 190) ⟨[]⟩ ⟨[]⟩] (hW1 len vs)) (FD 100 K)
def oF(N:Nd)(M:PSt)(o1:Option AA)(k:Nat)(ob:Option AA)(kind:Int)(rs:Lv)(n i:Int)(back:Bk)(out:Ot):Prop:=
 wpe Tryz.prog N (AP sy1 Sp0 [] [] [(190,sF M)] []) 300 (.code false (AJ Tryz.prog 189 2) (CX 100 35 [0,1,3,8,13,14,15] [] ([pW,.int .u8 kind,.func (.func 190) ⟨[]⟩ ⟨[]⟩,mkS 101 k,dsl rs,.int .i64 n,.int .i64 i],[o1,ob]))) (A7 100 [0,1,3,8,13,14,15] [0,1,8] 35 [] back out)
def oJ(N:Nd)(M:PSt)(o1 o2:Option AA)(k:Nat)(ob:Option AA)(kind:Int)(rs:Lv)(n i:Int)(back:Bk)(out:Ot):Prop:=
 wpe Tryz.prog N (AP TS Sp0 [] [] [(190,sF M)] []) 300 (.code false (AJ Tryz.prog 189 2) (CX 100 35 [0,1,3,8,13,14,15] [] ([pW,.int .u8 kind,.func (.func 190) ⟨[]⟩ ⟨[]⟩,mkS 102 k,dsl rs,.int .i64 n,.int .i64 i],[o1,o2,ob]))) (A7 100 [0,1,3,8,13,14,15] [0,1,8] 35 [] back out)
theorem eT(N:Nd)(M:Mw)(MS:MSt)(L:LLt)(kind:Int)(AY:Lv)(K:RK):jY N M MS L kind AY K=(N.dlen AY (fun o0=>L (AJ Tryz.prog 189 2) 35 [pA 100,.int .u8 kind,(.func (Fn.func 190) ⟨[]⟩ ⟨[]⟩),.slice none 0 0,dsl AY,(.int .i64 (Int.ofNat o0)),.int .i64 0] [qq1] (fun o1 l2=>(o1=o1)/\(MS o1 l2 (fun s3 z4=>(qq1=qq1)/\(M.t0 kind s3 (K (.tuple ⟨[]⟩) [qq1,l2]) (fun l5=>K (.tuple ⟨[]⟩) [(qq2 (.slice (some ⟨102,0,none⟩) 1 1)),l2,(some (AA.cells l5 94 2 true true))]))))))):=by kernel_rfl
theorem xN(N:Nd)(M:Mw)(MS:MSt)(L:LLt)(len:Nat)(vs:Lv)(kind:Int)(AY:Lv)(K:RK):xM N M MS L len vs kind AY K=(N.dlen AY (fun o0=>L (AJ Tryz.prog 189 2) 35 [pA 100,.int .u8 kind,(.func (Fn.func 190) ⟨[]⟩ ⟨[]⟩),.slice none 0 0,dsl AY,(.int .i64 (Int.ofNat o0)),.int .i64 0] [(qq2 (.slice (some ⟨101,0,none⟩) len len)),(some (AA.cells vs 94 2 true true))] (fun o1 l2=>(o1=o1)/\(MS o1 l2 (fun s3 z4=>(len=len)/\(M.t1 len vs kind s3 (fun o5 l6=>K (.tuple ⟨[]⟩) [(qq2 (.slice (some ⟨103,0,none⟩) o5 o5)),none,l2,(some (AA.cells l6 94 2 true true))]))))))):=by kernel_rfl
theorem tV(N:Nd)(M:PSt)(o1:Option AA)(k:Nat)(ob:Option AA)(kind:Int)(rs:Lv)(n i:Int)(back:Bk)(out:Ot):oF N M o1 k ob kind rs n i back out=(N.cmp .lss .i64 i .i64 n (N.dget rs i 7 (fun l0=>N.rdI .u8 l0 0 (fun z1=>N.rdI .i64 l0 1 (fun z2=>N.rdI .u8 l0 2 (fun z3=>N.rdI .u64 l0 3 (fun z4=>N.rdI .u8 l0 4 (fun z5=>N.rdI .u64 l0 5 (fun z6=>N.rdI .i64 l0 6 (fun z7=>M (.agg (Array.mk [.int .u8 z1,.int .i64 z2,.int .u8 z3,.int .u64 z4,.int .u8 z5,.int .u64 z6,.int .i64 z7])) (fun s8=>N.base true k k ob 9 1 (fun l9=>N.appX k l9 1 [.string s8] 1 16 (fun l10 o11=>N.ari .add .i64 i .i64 1 (fun z12=>nD/\(back [pA 100,.int .u8 kind,(.func (Fn.func 190) ⟨[]⟩ ⟨[]⟩),(.slice (some ⟨104,0,none⟩) o11 o11),dsl rs,.int .i64 n,.int .i64 z12] [o1,none,qq7 z1 z2 z3 z4 z5 z6 z7,TK s8,(some (AA.cells l10 9 1 true true))])))))))))))))) (nD/\(out (Exit.exit 0) [pA 100,.int .u8 kind,(.iface 1000000021 (.slice (some ⟨101,0,none⟩) k k))] [o1,ob]))):=by kernel_rfl
theorem tY(N:Nd)(M:PSt)(o1 o2:Option AA)(k:Nat)(ob:Option AA)(kind:Int)(rs:Lv)(n i:Int)(back:Bk)(out:Ot):oJ N M o1 o2 k ob kind rs n i back out=(N.cmp .lss .i64 i .i64 n (N.dget rs i 7 (fun l0=>N.rdI .u8 l0 0 (fun z1=>N.rdI .i64 l0 1 (fun z2=>N.rdI .u8 l0 2 (fun z3=>N.rdI .u64 l0 3 (fun z4=>N.rdI .u8 l0 4 (fun z5=>N.rdI .u64 l0 5 (fun z6=>N.rdI .i64 l0 6 (fun z7=>M (.agg (Array.mk [.int .u8 z1,.int .i64 z2,.int .u8 z3,.int .u64 z4,.int .u8 z5,.int .u64 z6,.int .i64 z7])) (fun s8=>N.base true k k ob 9 1 (fun l9=>N.appX k l9 1 [.string s8] 1 16 (fun l10 o11=>N.ari .add .i64 i .i64 1 (fun z12=>nD/\(back [pA 100,.int .u8 kind,(.func (Fn.func 190) ⟨[]⟩ ⟨[]⟩),(.slice (some ⟨105,0,none⟩) o11 o11),dsl rs,.int .i64 n,.int .i64 z12] [o1,o2,none,qq7 z1 z2 z3 z4 z5 z6 z7,TK s8,(some (AA.cells l10 9 1 true true))])))))))))))))) (nD/\(out (Exit.exit 0) [pA 100,.int .u8 kind,(.iface 1000000021 (.slice (some ⟨102,0,none⟩) k k))] [o1,o2,ob]))):=by kernel_rfl
def dI(N:Nd)(M:Mw)(MS:MSt)(L:LLt)(kind:Int)(AY:Lv)(K:RK):Prop:=wpe Tryz.prog N (AP sy1 Sp0 [(148,ND MS),(178,MU M)] [(2,(35,([0,1,3,8,13,14,15],KJ L)))] [] []) 300 (.call 197 [pW,(.int .u8 kind),(dsl AY),.func (.func 198) ⟨[]⟩ ⟨[]⟩] hW0) (FD 100 K)
def oI(N:Nd)(M:Mw)(MS:MSt)(L:LLt)(len:Nat)(vs:Lv)(kind:Int)(AY:Lv)(K:RK):Prop:=wpe Tryz.prog N (AP TS Sp0 [(148,ND MS),(178,MU M)] [(2,(35,([0,1,3,8,13,14,15],KJ L)))] [] []) 300 (.call 197 [pW,(.int .u8 kind),(dsl AY),.func (.func 198) ⟨[]⟩ ⟨[]⟩] (hW1 len vs)) (FD 100 K)
def jX(N:Nd)(M:PSt)(o1:Option AA)(k:Nat)(ob:Option AA)(kind:Int)(rs:Lv)(n i:Int)(back:Bk)(out:Ot):Prop:=
 wpe Tryz.prog N (AP sy1 Sp0 [] [] [(198,sF M)] []) 300 (.code false (AJ Tryz.prog 197 2) (CX 100 35 [0,1,3,8,13,14,15] [] ([pW,.int .u8 kind,.func (.func 198) ⟨[]⟩ ⟨[]⟩,mkS 101 k,dsl rs,.int .i64 n,.int .i64 i],[o1,ob]))) (A7 100 [0,1,3,8,13,14,15] [0,1,8] 35 [] back out)
def jZ(N:Nd)(M:PSt)(o1 o2:Option AA)(k:Nat)(ob:Option AA)(kind:Int)(rs:Lv)(n i:Int)(back:Bk)(out:Ot):Prop:=
 wpe Tryz.prog N (AP TS Sp0 [] [] [(198,sF M)] []) 300 (.code false (AJ Tryz.prog 197 2) (CX 100 35 [0,1,3,8,13,14,15] [] ([pW,.int .u8 kind,.func (.func 198) ⟨[]⟩ ⟨[]⟩,mkS 102 k,dsl rs,.int .i64 n,.int .i64 i],[o1,o2,ob]))) (A7 100 [0,1,3,8,13,14,15] [0,1,8] 35 [] back out)
theorem aP(N:Nd)(M:Mw)(MS:MSt)(L:LLt)(kind:Int)(AY:Lv)(K:RK):dI N M MS L kind AY K=(N.dlen AY (fun o0=>L (AJ Tryz.prog 197 2) 35 [pA 100,.int .u8 kind,(.func (Fn.func 198) ⟨[]⟩ ⟨[]⟩),.slice none 0 0,dsl AY,(.int .i64 (Int.ofNat o0)),.int .i64 0] [qq1] (fun o1 l2=>(o1=o1)/\(MS o1 l2 (fun s3 z4=>(qq1=qq1)/\(M.t0 kind s3 (K (.tuple ⟨[]⟩) [qq1,l2]) (fun l5=>K (.tuple ⟨[]⟩) [(qq2 (.slice (some ⟨102,0,none⟩) 1 1)),l2,(some (AA.cells l5 94 2 true true))]))))))):=by kernel_rfl
theorem tX(N:Nd)(M:Mw)(MS:MSt)(L:LLt)(len:Nat)(vs:Lv)(kind:Int)(AY:Lv)(K:RK):oI N M MS L len vs kind AY K=(N.dlen AY (fun o0=>L (AJ Tryz.prog 197 2) 35 [pA 100,.int .u8 kind,(.func (Fn.func 198) ⟨[]⟩ ⟨[]⟩),.slice none 0 0,dsl AY,(.int .i64 (Int.ofNat o0)),.int .i64 0] [(qq2 (.slice (some ⟨101,0,none⟩) len len)),(some (AA.cells vs 94 2 true true))] (fun o1 l2=>(o1=o1)/\(MS o1 l2 (fun s3 z4=>(len=len)/\(M.t1 len vs kind s3 (fun o5 l6=>K (.tuple ⟨[]⟩) [(qq2 (.slice (some ⟨103,0,none⟩) o5 o5)),none,l2,(some (AA.cells l6 94 2 true true))]))))))):=by kernel_rfl
theorem mJ(N:Nd)(M:PSt)(o1:Option AA)(k:Nat)(ob:Option AA)(kind:Int)(rs:Lv)(n i:Int)(back:Bk)(out:Ot):jX N M o1 k ob kind rs n i back out=(N.cmp .lss .i64 i .i64 n (N.dget rs i 2 (fun l0=>N.rdI .u64 l0 0 (fun z1=>N.rdI .i64 l0 1 (fun z2=>M (.agg (Array.mk [.int .u64 z1,.int .i64 z2])) (fun s3=>N.base true k k ob 9 1 (fun l4=>N.appX k l4 1 [.string s3] 1 16 (fun l5 o6=>N.ari .add .i64 i .i64 1 (fun z7=>nD/\(back [pA 100,.int .u8 kind,(.func (Fn.func 198) ⟨[]⟩ ⟨[]⟩),(.slice (some ⟨104,0,none⟩) o6 o6),dsl rs,.int .i64 n,.int .i64 z7] [o1,none,YF z1 z2,TK s3,(some (AA.cells l5 9 1 true true))]))))))))) (nD/\(out (Exit.exit 0) [pA 100,.int .u8 kind,(.iface 1000000021 (.slice (some ⟨101,0,none⟩) k k))] [o1,ob]))):=by kernel_rfl
theorem mK(N:Nd)(M:PSt)(o1 o2:Option AA)(k:Nat)(ob:Option AA)(kind:Int)(rs:Lv)(n i:Int)(back:Bk)(out:Ot):jZ N M o1 o2 k ob kind rs n i back out=(N.cmp .lss .i64 i .i64 n (N.dget rs i 2 (fun l0=>N.rdI .u64 l0 0 (fun z1=>N.rdI .i64 l0 1 (fun z2=>M (.agg (Array.mk [.int .u64 z1,.int .i64 z2])) (fun s3=>N.base true k k ob 9 1 (fun l4=>N.appX k l4 1 [.string s3] 1 16 (fun l5 o6=>N.ari .add .i64 i .i64 1 (fun z7=>nD/\(back [pA 100,.int .u8 kind,(.func (Fn.func 198) ⟨[]⟩ ⟨[]⟩),(.slice (some ⟨105,0,none⟩) o6 o6),dsl rs,.int .i64 n,.int .i64 z7] [o1,o2,none,YF z1 z2,TK s3,(some (AA.cells l5 9 1 true true))]))))))))) (nD/\(out (Exit.exit 0) [pA 100,.int .u8 kind,(.iface 1000000021 (.slice (some ⟨102,0,none⟩) k k))] [o1,o2,ob]))):=by kernel_rfl
def ABu(N:Nd)(M:Mw)(MS:MSt)(L:LLt)(kind:Int)(AY:Lv)(K:RK):Prop:=wpe Tryz.prog N (AP sy1 Sp0 [(148,ND MS),(178,MU M)] [(2,(35,([0,1,3,8,13,14,15],KJ L)))] [] []) 300 (.call 171 [pW,(.int .u8 kind),(dsl AY),.func (.func 172) ⟨[]⟩ ⟨[]⟩] hW0) (FD 100 K)
def AGX(N:Nd)(M:Mw)(MS:MSt)(L:LLt)(len:Nat)(vs:Lv)(kind:Int)(AY:Lv)(K:RK):Prop:=wpe Tryz.prog N (AP TS Sp0 [(148,ND MS),(178,MU M)] [(2,(35,([0,1,3,8,13,14,15],KJ L)))] [] []) 300 (.call 171 [pW,(.int .u8 kind),(dsl AY),.func (.func 172) ⟨[]⟩ ⟨[]⟩] (hW1 len vs)) (FD 100 K)
def AC6(N:Nd)(M:PSt)(o1:Option AA)(k:Nat)(ob:Option AA)(kind:Int)(rs:Lv)(n i:Int)(back:Bk)(out:Ot):Prop:=
 wpe Tryz.prog N (AP sy1 Sp0 [] [] [(172,sF M)] []) 300 (.code false (AJ Tryz.prog 171 2) (CX 100 35 [0,1,3,8,13,14,15] [] ([pW,.int .u8 kind,.func (.func 172) ⟨[]⟩ ⟨[]⟩,mkS 101 k,dsl rs,.int .i64 n,.int .i64 i],[o1,ob]))) (A7 100 [0,1,3,8,13,14,15] [0,1,8] 35 [] back out)
def AC9(N:Nd)(M:PSt)(o1 o2:Option AA)(k:Nat)(ob:Option AA)(kind:Int)(rs:Lv)(n i:Int)(back:Bk)(out:Ot):Prop:=
 wpe Tryz.prog N (AP TS Sp0 [] [] [(172,sF M)] []) 300 (.code false (AJ Tryz.prog 171 2) (CX 100 35 [0,1,3,8,13,14,15] [] ([pW,.int .u8 kind,.func (.func 172) ⟨[]⟩ ⟨[]⟩,mkS 102 k,dsl rs,.int .i64 n,.int .i64 i],[o1,o2,ob]))) (A7 100 [0,1,3,8,13,14,15] [0,1,8] 35 [] back out)
theorem oG(N:Nd)(M:Mw)(MS:MSt)(L:LLt)(kind:Int)(AY:Lv)(K:RK):ABu N M MS L kind AY K=(N.dlen AY (fun o0=>L (AJ Tryz.prog 171 2) 35 [pA 100,.int .u8 kind,(.func (Fn.func 172) ⟨[]⟩ ⟨[]⟩),.slice none 0 0,dsl AY,(.int .i64 (Int.ofNat o0)),.int .i64 0] [qq1] (fun o1 l2=>(o1=o1)/\(MS o1 l2 (fun s3 z4=>(qq1=qq1)/\(M.t0 kind s3 (K (.tuple ⟨[]⟩) [qq1,l2]) (fun l5=>K (.tuple ⟨[]⟩) [(qq2 (.slice (some ⟨102,0,none⟩) 1 1)),l2,(some (AA.cells l5 94 2 true true))]))))))):=by kernel_rfl
theorem AEF(N:Nd)(M:Mw)(MS:MSt)(L:LLt)(len:Nat)(vs:Lv)(kind:Int)(AY:Lv)(K:RK):AGX N M MS L len vs kind AY K=(N.dlen AY (fun o0=>L (AJ Tryz.prog 171 2) 35 [pA 100,.int .u8 kind,(.func (Fn.func 172) ⟨[]⟩ ⟨[]⟩),.slice none 0 0,dsl AY,(.int .i64 (Int.ofNat o0)),.int .i64 0] [(qq2 (.slice (some ⟨101,0,none⟩) len len)),(some (AA.cells vs 94 2 true true))] (fun o1 l2=>(o1=o1)/\(MS o1 l2 (fun s3 z4=>(len=len)/\(M.t1 len vs kind s3 (fun o5 l6=>K (.tuple ⟨[]⟩) [(qq2 (.slice (some ⟨103,0,none⟩) o5 o5)),none,l2,(some (AA.cells l6 94 2 true true))]))))))):=by kernel_rfl
theorem ABv(N:Nd)(M:PSt)(o1:Option AA)(k:Nat)(ob:Option AA)(kind:Int)(rs:Lv)(n i:Int)(back:Bk)(out:Ot):AC6 N M o1 k ob kind rs n i back out=(N.cmp .lss .i64 i .i64 n (N.dget rs i 1 (fun l0=>N.rdI .i64 l0 0 (fun z1=>M (.int .i64 z1) (fun s2=>N.base true k k ob 9 1 (fun l3=>N.appX k l3 1 [.string s2] 1 16 (fun l4 o5=>N.ari .add .i64 i .i64 1 (fun z6=>nD/\(back [pA 100,.int .u8 kind,(.func (Fn.func 172) ⟨[]⟩ ⟨[]⟩),(.slice (some ⟨103,0,none⟩) o5 o5),dsl rs,.int .i64 n,.int .i64 z6] [o1,none,TK s2,(some (AA.cells l4 9 1 true true))])))))))) (nD/\(out (Exit.exit 0) [pA 100,.int .u8 kind,(.iface 1000000021 (.slice (some ⟨101,0,none⟩) k k))] [o1,ob]))):=by kernel_rfl
theorem ABz(N:Nd)(M:PSt)(o1 o2:Option AA)(k:Nat)(ob:Option AA)(kind:Int)(rs:Lv)(n i:Int)(back:Bk)(out:Ot):AC9 N M o1 o2 k ob kind rs n i back out=(N.cmp .lss .i64 i .i64 n (N.dget rs i 1 (fun l0=>N.rdI .i64 l0 0 (fun z1=>M (.int .i64 z1) (fun s2=>N.base true k k ob 9 1 (fun l3=>N.appX k l3 1 [.string s2] 1 16 (fun l4 o5=>N.ari .add .i64 i .i64 1 (fun z6=>nD/\(back [pA 100,.int .u8 kind,(.func (Fn.func 172) ⟨[]⟩ ⟨[]⟩),(.slice (some ⟨104,0,none⟩) o5 o5),dsl rs,.int .i64 n,.int .i64 z6] [o1,o2,none,TK s2,(some (AA.cells l4 9 1 true true))])))))))) (nD/\(out (Exit.exit 0) [pA 100,.int .u8 kind,(.iface 1000000021 (.slice (some ⟨102,0,none⟩) k k))] [o1,o2,ob]))):=by kernel_rfl
def ABw(N:Nd)(M:Mw)(MS:MSt)(L:LLt)(kind:Int)(AY:Lv)(K:RK):Prop:=wpe Tryz.prog N (AP sy1 Sp0 [(148,ND MS),(178,MU M)] [(2,(35,([0,1,3,8,13,14,15],KJ L)))] [] []) 300 (.call 179 [pW,(.int .u8 kind),(dsl AY),.func (.func 140) ⟨[]⟩ ⟨[]⟩] hW0) (FD 100 K)
def AGY(N:Nd)(M:Mw)(MS:MSt)(L:LLt)(len:Nat)(vs:Lv)(kind:Int)(AY:Lv)(K:RK):Prop:=wpe Tryz.prog N (AP TS Sp0 [(148,ND MS),(178,MU M)] [(2,(35,([0,1,3,8,13,14,15],KJ L)))] [] []) 300 (.call 179 [pW,(.int .u8 kind),(dsl AY),.func (.func 140) ⟨[]⟩ ⟨[]⟩] (hW1 len vs)) (FD 100 K)
def AC7(N:Nd)(M:PSt)(o1:Option AA)(k:Nat)(ob:Option AA)(kind:Int)(rs:Lv)(n i:Int)(back:Bk)(out:Ot):Prop:=
 wpe Tryz.prog N (AP sy1 Sp0 [] [] [(140,sF M)] []) 300 (.code false (AJ Tryz.prog 179 2) (CX 100 35 [0,1,3,8,13,14,15] [] ([pW,.int .u8 kind,.func (.func 140) ⟨[]⟩ ⟨[]⟩,mkS 101 k,dsl rs,.int .i64 n,.int .i64 i],[o1,ob]))) (A7 100 [0,1,3,8,13,14,15] [0,1,8] 35 [] back out)
def ADa(N:Nd)(M:PSt)(o1 o2:Option AA)(k:Nat)(ob:Option AA)(kind:Int)(rs:Lv)(n i:Int)(back:Bk)(out:Ot):Prop:=
 wpe Tryz.prog N (AP TS Sp0 [] [] [(140,sF M)] []) 300 (.code false (AJ Tryz.prog 179 2) (CX 100 35 [0,1,3,8,13,14,15] [] ([pW,.int .u8 kind,.func (.func 140) ⟨[]⟩ ⟨[]⟩,mkS 102 k,dsl rs,.int .i64 n,.int .i64 i],[o1,o2,ob]))) (A7 100 [0,1,3,8,13,14,15] [0,1,8] 35 [] back out)
theorem oH(N:Nd)(M:Mw)(MS:MSt)(L:LLt)(kind:Int)(AY:Lv)(K:RK):ABw N M MS L kind AY K=(N.dlen AY (fun o0=>L (AJ Tryz.prog 179 2) 35 [pA 100,.int .u8 kind,(.func (Fn.func 140) ⟨[]⟩ ⟨[]⟩),.slice none 0 0,dsl AY,(.int .i64 (Int.ofNat o0)),.int .i64 0] [qq1] (fun o1 l2=>(o1=o1)/\(MS o1 l2 (fun s3 z4=>(qq1=qq1)/\(M.t0 kind s3 (K (.tuple ⟨[]⟩) [qq1,l2]) (fun l5=>K (.tuple ⟨[]⟩) [(qq2 (.slice (some ⟨102,0,none⟩) 1 1)),l2,(some (AA.cells l5 94 2 true true))]))))))):=by kernel_rfl
theorem AEG(N:Nd)(M:Mw)(MS:MSt)(L:LLt)(len:Nat)(vs:Lv)(kind:Int)(AY:Lv)(K:RK):AGY N M MS L len vs kind AY K=(N.dlen AY (fun o0=>L (AJ Tryz.prog 179 2) 35 [pA 100,.int .u8 kind,(.func (Fn.func 140) ⟨[]⟩ ⟨[]⟩),.slice none 0 0,dsl AY,(.int .i64 (Int.ofNat o0)),.int .i64 0] [(qq2 (.slice (some ⟨101,0,none⟩) len len)),(some (AA.cells vs 94 2 true true))] (fun o1 l2=>(o1=o1)/\(MS o1 l2 (fun s3 z4=>(len=len)/\(M.t1 len vs kind s3 (fun o5 l6=>K (.tuple ⟨[]⟩) [(qq2 (.slice (some ⟨103,0,none⟩) o5 o5)),none,l2,(some (AA.cells l6 94 2 true true))]))))))):=by kernel_rfl
theorem ABx(N:Nd)(M:PSt)(o1:Option AA)(k:Nat)(ob:Option AA)(kind:Int)(rs:Lv)(n i:Int)(back:Bk)(out:Ot):AC7 N M o1 k ob kind rs n i back out=(N.cmp .lss .i64 i .i64 n (N.dget rs i 1 (fun l0=>N.rdI .u64 l0 0 (fun z1=>M (.int .u64 z1) (fun s2=>N.base true k k ob 9 1 (fun l3=>N.appX k l3 1 [.string s2] 1 16 (fun l4 o5=>N.ari .add .i64 i .i64 1 (fun z6=>nD/\(back [pA 100,.int .u8 kind,(.func (Fn.func 140) ⟨[]⟩ ⟨[]⟩),(.slice (some ⟨103,0,none⟩) o5 o5),dsl rs,.int .i64 n,.int .i64 z6] [o1,none,TK s2,(some (AA.cells l4 9 1 true true))])))))))) (nD/\(out (Exit.exit 0) [pA 100,.int .u8 kind,(.iface 1000000021 (.slice (some ⟨101,0,none⟩) k k))] [o1,ob]))):=by kernel_rfl
theorem ABA(N:Nd)(M:PSt)(o1 o2:Option AA)(k:Nat)(ob:Option AA)(kind:Int)(rs:Lv)(n i:Int)(back:Bk)(out:Ot):ADa N M o1 o2 k ob kind rs n i back out=(N.cmp .lss .i64 i .i64 n (N.dget rs i 1 (fun l0=>N.rdI .u64 l0 0 (fun z1=>M (.int .u64 z1) (fun s2=>N.base true k k ob 9 1 (fun l3=>N.appX k l3 1 [.string s2] 1 16 (fun l4 o5=>N.ari .add .i64 i .i64 1 (fun z6=>nD/\(back [pA 100,.int .u8 kind,(.func (Fn.func 140) ⟨[]⟩ ⟨[]⟩),(.slice (some ⟨104,0,none⟩) o5 o5),dsl rs,.int .i64 n,.int .i64 z6] [o1,o2,none,TK s2,(some (AA.cells l4 9 1 true true))])))))))) (nD/\(out (Exit.exit 0) [pA 100,.int .u8 kind,(.iface 1000000021 (.slice (some ⟨102,0,none⟩) k k))] [o1,o2,ob]))):=by kernel_rfl
def ADb(N:Nd)(M:Mw)(v nx:Int)(K:RK):Prop:=wpe Tryz.prog N (AP S0 Sp0 [(154,Q4 M),(157,NC M)] [] [] []) 300 (.call 156 [.agg ⟨[.int .u32 v,.int .i64 nx]⟩] h0) (FD 100 K)
def oZ(N:Nd)(M:Mw)(op to ak an bk bn n:Int)(K:RK):Prop:=wpe Tryz.prog N (AP S0 Sp0 [(154,Q4 M),(157,NC M)] [] [] []) 300 (.call 190 [.agg ⟨[.int .u8 op,.int .i64 to,.int .u8 ak,.int .u64 an,.int .u8 bk,.int .u64 bn,.int .i64 n]⟩] h0) (FD 100 K)
def j3(N:Nd)(M:Mw)(w b:Int)(K:RK):Prop:=wpe Tryz.prog N (AP S0 Sp0 [(154,Q4 M),(157,NC M)] [] [] []) 300 (.call 198 [.agg ⟨[.int .u64 w,.int .i64 b]⟩] h0) (FD 100 K)
def ADc(N:Nd)(M:Mw)(n:Int)(K:RK):Prop:=wpe Tryz.prog N (WN M) 300 (.call 172 [(.int .i64 n)] h0) (FD 100 K)
theorem ABB(N:Nd)(M:Mw)(v nx:Int)(K:RK):ADb N M v nx K=(N.conv 27 28 .u32 v .u64 (fun z0=>(qq1=qq1)/\(M.n0 1 z0 (N.conv 3 28 .i64 nx .u64 (fun z1=>(qq1=qq1)/\(M.n0 2 z1 ((qq1=qq1)/\(K (.string (bytesOf [])) [AAj v nx,qq1])) (fun l2=>(1=1)/\(M.bt 1 l2 (fun s3=>K (.string s3) [AAj v nx,(qq2 (.slice (some ⟨102,0,none⟩) 1 1)),(some (AA.cells l2 94 2 true true))])))))) (fun l1=>N.conv 3 28 .i64 nx .u64 (fun z2=>(1=1)/\(M.n1 1 l1 2 z2 (fun o3 l4=>(o3=o3)/\(M.bt o3 l4 (fun s5=>K (.string s5) [AAj v nx,(qq2 (.slice (some ⟨103,0,none⟩) o3 o3)),none,(some (AA.cells l4 94 2 true true))]))))))))):=by kernel_rfl
theorem uJ(N:Nd)(M:Mw)(op to ak an bk bn n:Int)(K:RK):oZ N M op to ak an bk bn n K=(N.conv 5 28 .u8 op .u64 (fun z0=>(qq1=qq1)/\(M.n0 1 z0 (N.conv 3 28 .i64 to .u64 (fun z1=>(qq1=qq1)/\(M.n0 2 z1 (N.conv 5 28 .u8 ak .u64 (fun z2=>(qq1=qq1)/\(M.n0 3 z2 ((qq1=qq1)/\(M.n0 4 an (N.conv 5 28 .u8 bk .u64 (fun z3=>(qq1=qq1)/\(M.n0 5 z3 ((qq1=qq1)/\(M.n0 6 bn (N.conv 3 28 .i64 n .u64 (fun z4=>(qq1=qq1)/\(M.n0 7 z4 ((qq1=qq1)/\(K (.string (bytesOf [])) [qq7 op to ak an bk bn n,qq1])) (fun l5=>(1=1)/\(M.bt 1 l5 (fun s6=>K (.string s6) [qq7 op to ak an bk bn n,(qq2 (.slice (some ⟨102,0,none⟩) 1 1)),(some (AA.cells l5 94 2 true true))])))))) (fun l4=>N.conv 3 28 .i64 n .u64 (fun z5=>(1=1)/\(M.n1 1 l4 7 z5 (fun o6 l7=>(o6=o6)/\(M.bt o6 l7 (fun s8=>K (.string s8) [qq7 op to ak an bk bn n,(qq2 (.slice (some ⟨103,0,none⟩) o6 o6)),none,(some (AA.cells l7 94 2 true true))])))))))) (fun l4=>(1=1)/\(M.n1 1 l4 6 bn (fun o5 l6=>N.conv 3 28 .i64 n .u64 (fun z7=>(o5=o5)/\(M.n1 o5 l6 7 z7 (fun o8 l9=>(o8=o8)/\(M.bt o8 l9 (fun s10=>K (.string s10) [qq7 op to ak an bk bn n,(qq2 (.slice (some ⟨104,0,none⟩) o8 o8)),none,none,(some (AA.cells l9 94 2 true true))]))))))))))) (fun l3=>N.conv 5 28 .u8 bk .u64 (fun z4=>(1=1)/\(M.n1 1 l3 5 z4 (fun o5 l6=>(o5=o5)/\(M.n1 o5 l6 6 bn (fun o7 l8=>N.conv 3 28 .i64 n .u64 (fun z9=>(o7=o7)/\(M.n1 o7 l8 7 z9 (fun o10 l11=>(o10=o10)/\(M.bt o10 l11 (fun s12=>K (.string s12) [qq7 op to ak an bk bn n,(qq2 (.slice (some ⟨105,0,none⟩) o10 o10)),none,none,none,(some (AA.cells l11 94 2 true true))]))))))))))))) (fun l3=>(1=1)/\(M.n1 1 l3 4 an (fun o4 l5=>N.conv 5 28 .u8 bk .u64 (fun z6=>(o4=o4)/\(M.n1 o4 l5 5 z6 (fun o7 l8=>(o7=o7)/\(M.n1 o7 l8 6 bn (fun o9 l10=>N.conv 3 28 .i64 n .u64 (fun z11=>(o9=o9)/\(M.n1 o9 l10 7 z11 (fun o12 l13=>(o12=o12)/\(M.bt o12 l13 (fun s14=>K (.string s14) [qq7 op to ak an bk bn n,(qq2 (.slice (some ⟨106,0,none⟩) o12 o12)),none,none,none,none,(some (AA.cells l13 94 2 true true))])))))))))))))))) (fun l2=>N.conv 5 28 .u8 ak .u64 (fun z3=>(1=1)/\(M.n1 1 l2 3 z3 (fun o4 l5=>(o4=o4)/\(M.n1 o4 l5 4 an (fun o6 l7=>N.conv 5 28 .u8 bk .u64 (fun z8=>(o6=o6)/\(M.n1 o6 l7 5 z8 (fun o9 l10=>(o9=o9)/\(M.n1 o9 l10 6 bn (fun o11 l12=>N.conv 3 28 .i64 n .u64 (fun z13=>(o11=o11)/\(M.n1 o11 l12 7 z13 (fun o14 l15=>(o14=o14)/\(M.bt o14 l15 (fun s16=>K (.string s16) [qq7 op to ak an bk bn n,(qq2 (.slice (some ⟨107,0,none⟩) o14 o14)),none,none,none,none,none,(some (AA.cells l15 94 2 true true))]))))))))))))))))))) (fun l1=>N.conv 3 28 .i64 to .u64 (fun z2=>(1=1)/\(M.n1 1 l1 2 z2 (fun o3 l4=>N.conv 5 28 .u8 ak .u64 (fun z5=>(o3=o3)/\(M.n1 o3 l4 3 z5 (fun o6 l7=>(o6=o6)/\(M.n1 o6 l7 4 an (fun o8 l9=>N.conv 5 28 .u8 bk .u64 (fun z10=>(o8=o8)/\(M.n1 o8 l9 5 z10 (fun o11 l12=>(o11=o11)/\(M.n1 o11 l12 6 bn (fun o13 l14=>N.conv 3 28 .i64 n .u64 (fun z15=>(o13=o13)/\(M.n1 o13 l14 7 z15 (fun o16 l17=>(o16=o16)/\(M.bt o16 l17 (fun s18=>K (.string s18) [qq7 op to ak an bk bn n,(qq2 (.slice (some ⟨108,0,none⟩) o16 o16)),none,none,none,none,none,none,(some (AA.cells l17 94 2 true true))])))))))))))))))))))))):=by kernel_rfl
theorem mM(N:Nd)(M:Mw)(w b:Int)(K:RK):j3 N M w b K=((qq1=qq1)/\(M.n0 1 w (N.conv 3 28 .i64 b .u64 (fun z0=>(qq1=qq1)/\(M.n0 2 z0 ((qq1=qq1)/\(K (.string (bytesOf [])) [YF w b,qq1])) (fun l1=>(1=1)/\(M.bt 1 l1 (fun s2=>K (.string s2) [YF w b,(qq2 (.slice (some ⟨102,0,none⟩) 1 1)),(some (AA.cells l1 94 2 true true))])))))) (fun l0=>N.conv 3 28 .i64 b .u64 (fun z1=>(1=1)/\(M.n1 1 l0 2 z1 (fun o2 l3=>(o2=o2)/\(M.bt o2 l3 (fun s4=>K (.string s4) [YF w b,(qq2 (.slice (some ⟨103,0,none⟩) o2 o2)),none,(some (AA.cells l3 94 2 true true))])))))))):=by kernel_rfl
theorem ABC(N:Nd)(M:Mw)(n:Int)(K:RK):ADc N M n K=(N.conv 3 28 .i64 n .u64 (fun z0=>M.nb z0 (fun s1=>K (.string s1) []))):=by kernel_rfl
structure AF8(l:List ByteArray)(i:Nat):Prop where
 le:i<=l.length
 eq:QS l=QS (l.drop i)
 bd:(GV (l.take i)).length<=i*65537
def IL(l:List ByteArray)(p:{i:Nat // AF8 l i}):Lv×Lo:=
 ([mkS 100 (GV (l.take p.1)).length,dsl (rowsOf cStr l),.int .i64 (l.length:Int),.int .i64 (p.1:Int)],[mo (FO (GV (l.take p.1))) 5 1])
def RL(l:List ByteArray)(e:Exit)(v:Lv)(o:Lo):Prop:=
 (QS l=0/\e = .exit 0/\v=[top,top,mkS 100 (GV l).length]/\o=[mo (FO (GV l)) 5 1])∨
 (QS l≠0/\e = .ret/\v=[.string (bytesOf []),.int .i64 (QS l:Int),top]/\o=[])
theorem iT{α:Type}{l:List α}{i:Nat}{a:α}(ha:l[i]?=some a):l.take (i+1)=l.take i++[a]:=by rw[List.take_add_one,ha];rfl
theorem AAO{α:Type}{l:List α}{i:Nat}{a:α}(ha:l[i]?=some a):l.drop i=a::l.drop (i+1):=by
 have hlt:=(List.getElem?_eq_some_iff.1 ha).1
 have h2:=List.drop_eq_getElem_cons hlt
 rw[List.getElem?_eq_getElem hlt]at ha
 simp only[Option.some.injEq]at ha
 rw[h2,ha]
theorem ANb(l:List ByteArray)(hl:l.length<100000)(p:{i:Nat // AF8 l i}):
  Is (wpe Tryz.prog (real Tryz.prog) WS 300 (.code false (AJ Tryz.prog 148 3) (CX 100 26 [4,7,8,9] [] (IL l p))) (A7 100 [4,7,8,9] [2,3,4] 26 []
   (fun AB AC=>∃a':{i:Nat // AF8 l i},l.length-a'.1<l.length-p.1/\Wk 100 (100+0) AB AC (IL l a').1 (IL l a').2/\∀e v o,RL l e v o->RL l e v o)
   (fun e AB AC=>∃v o,Wk 100 (100+0) AB AC v o/\RL l e v o))):=by
 refine⟨?_⟩
 obtain⟨i,inv⟩:=p
 have hi:=inv.le
 have hbd:=inv.bd
 have heq:=inv.eq
 show AGZ (real Tryz.prog) (GV (l.take i)).length (mo (FO (GV (l.take i))) 5 1) (rowsOf cStr l) (l.length:Int) (i:Int) _ _
 rw[AEH]
 refine EL (fun hlt=>?_) (fun hge=>?_)
 ·have ha:l[i]?=some l[i]:=by simp[hlt]
  generalize l[i]=a at ha
  have htake:=iT ha
  rw[AAO ha]at heq
  simp only[QS]at heq
  refine DK i rfl (CL ha) rfl (KL (z:=a) rfl (FC (YD (d:=65535) (fun h3=>?_) (fun h3=>?_))))
  ·rw[if_pos (show 65535<slen a from h3)]at heq
   exact⟨rfl,_,_,lS,.inr ⟨by omega,rfl,by rw[heq];rfl,rfl⟩⟩
  rw[if_neg (show ¬65535<slen a by show ¬65535<a.data.toList.length;omega)]at heq
  have hk:(GV (l.take i)).length<=100000*65537:=Nat.le_trans hbd (Nat.mul_le_mul_right _ (by omega))
  have hT:J3=140737488355328:=rfl
  have hitem:(zM a).length=2+a.data.toList.length:=by simp[zM,two,slen];omega
  have hinv:AF8 l (i+1):=by
   refine⟨hlt,heq,?_⟩
   rw[htake,fA,List.length_append,hitem,Nat.add_mul]
   omega
  have hcell:FO (GV (l.take i))++[.int .u8 ((a.data.toList.length / 256 % 256:Nat):Int),.int .u8 ((a.data.toList.length % 256:Nat):Int)]++QM a=FO (GV (l.take (i+1))):=by
   rw[htake,fA,jJ,u8c,u8c,TA]
   simp[zM,two,FO,slen]
  have hlen:(GV (l.take (i+1))).length=(GV (l.take i)).length+2+a.data.toList.length:=by
   rw[←HV,←hcell];simp only[List.length_append,HV,TA,List.length_cons,List.length_nil]
  have hne:FO (GV (l.take (i+1)))≠[]:=by intro e;have:=congrArg List.length e;rw[HV,hlen]at this;simp at this
  refine FC (AHQ (by decide) (UV t3 t5 (UV t3 t5 (D6 (by rw[HV,Nat.mul_one]) (by omega) (FV (by omega) rfl rfl (by omega) (by omega) (WJ (by simp[HV]) (by omega) (by omega) (AHO (fun h=>BZ (by omega) ⟨rfl,?_⟩) (fun _=>⟨by omega,by omega,BZ (by omega) ⟨rfl,?_⟩⟩))))))))
  ·refine⟨⟨i+1,hinv⟩,show l.length-(i+1)<l.length-i by omega,?_,fun _ _ _ h=>h⟩
   show Wk 100 (100+0) _ _ (mkS (100+0) (GV (l.take (i+1))).length::_) [mo (FO (GV (l.take (i+1)))) 5 1]
   rw[J4 hne,←hcell,hlen,TA,h]
   show Wk 100 (100+0) _ _ (mkS (100+0) _::_) ([]++[some (.cells (_++[]) 5 1 true true)])
   rw[List.append_nil]
   refine ACr (k0:=0) (j:=2) (pre:=[]) (by omega) rfl ?_ rfl (by simp) rfl (fun i o h=>by simp at h)
   rw[TA,h]at hcell
   have:FO ([]:List UInt8)=[]:=rfl
   rw[this,List.append_nil]at hcell
   rw[hcell];exact P7 _ _
  ·refine⟨⟨i+1,hinv⟩,show l.length-(i+1)<l.length-i by omega,?_,fun _ _ _ h=>h⟩
   show Wk 100 (100+0) _ _ (mkS (100+0) (GV (l.take (i+1))).length::_) [mo (FO (GV (l.take (i+1)))) 5 1]
   rw[J4 hne,←hcell,hlen]
   refine ACr (k0:=0) (j:=3) (pre:=[]) (by omega) rfl ?_ rfl (by omega) rfl (fun i o h=>by simp at h)
   rw[hcell];exact P7 _ _
 ·have hil:i=l.length:=by omega
  subst hil
  rw[List.drop_length]at heq
  refine⟨rfl,[top,top,mkS 100 (GV l).length],[mo (FO (GV l)) 5 1],?_,.inl ⟨heq,rfl,rfl,rfl⟩⟩
  rw[List.take_length];exact Wk.refl _ _ _ _
def LLs:LEt:=fun c n AB obs A E=>∃l:List ByteArray,l.length<100000/\c=AJ Tryz.prog 148 3/\n=26/\AB=[.slice none 0 0,dsl (rowsOf cStr l),.int .i64 (Int.ofNat l.length),.int .i64 (0:Int)]/\obs=[]/\
 (QS l=0->A (GV l).length (mo (FO (GV l)) 5 1))/\(QS l≠0->E (QS l:Int))
theorem ARV:BH Tryz.prog 100 [4,7,8,9] (vU LLs):=by
 show BH Tryz.prog 100 [4,7,8,9] (lpS [2,3,4] _)
 refine FQ okp (W:=WS) DC AZ ?_
 rintro c n AB obs K ⟨l,hl,hc,hn,hv,ho,hA,hE⟩
 subst hc;subst hn;subst hv;subst ho
 refine⟨{i:Nat // AF8 l i},0,300,fun p=>l.length-p.1,IL l,fun _ e v o=>RL l e v o,⟨0,⟨Nat.zero_le _,rfl,by simp[GV]⟩⟩,rfl,?_,?_,ANb l hl⟩
 ·show Wk 100 (100+0) _ [] (mkS 100 0::_) ([]++[none])
  exact AD0
 intro e v o hR
 rcases hR with⟨h1,rfl,rfl,rfl⟩ | ⟨h1,rfl,rfl,rfl⟩
 ·exact hA h1
 ·exact hE h1
def AKL(l:List ByteArray):Value := .tuple ⟨[.string (bytesOf (EJ l)),.int .i64 (QS l:Int)]⟩
theorem APl(l:List ByteArray)(hl:l.length<100000):Is (ALl (real Tryz.prog) LLs (rowsOf cStr l) (PQ (AKL l))):=by
 refine⟨?_⟩
 rw[AG0]
 refine BI l.length (AQ _ _) ⟨l,hl,rfl,rfl,rfl,rfl,fun h=>?_,fun h=>?_⟩
 ·refine AHR (HV _) (aK _) (PQ.of ?_ rfl)
  unfold AKL EJ;rw[if_pos h,h];rfl
 ·exact PQ.of (by unfold AKL EJ;rw[if_neg h]) rfl
theorem ALE(l:List ByteArray)(hl:l.length<100000)(B:Base)(H:Heap):BM Tryz.prog 100 B 148 [dsl (rowsOf cStr l)] H (.returned (AKL l)) H:=
 GL okp DC (GH (fun x hx=>by simp only[List.mem_singleton]at hx;subst hx;exact ARV)) rfl rfl (APl l hl) B H
def strV(l:List ByteArray):Lv:=l.map fun s => .string s
theorem AJL(l:List ByteArray):DI 1 (rowsOf cStr l)=some (strV l):=by
 induction l with
 |nil=>rfl
 |cons a l ih=>
  show DI 1 (.agg ⟨[.string a]⟩::rowsOf cStr l)=_
  simp only[DI,ih];rfl
theorem KX(n:Nat)(l:List ByteArray):BL n (strV l)=true:=by
 induction l with
 |nil=>rfl
 |cons a l ih=>show(true&&BL n (strV l))=true;rw[ih];rfl
def MSr:MSt:=fun k ob K=>∃l:List ByteArray,l.length<100000/\k=l.length/\ob=mo (strV l) 9 1/\K (bytesOf (EJ l)) (QS l:Int)
theorem ALI:JU Tryz.prog 100 148 (ND MSr):=by
 intro args H K h
 unfold ND at h
 split at h<;>try exact h.elim
 rename_i t b k k'
 split at h<;>try exact h.elim
 rename_i e1
 obtain rfl:=Nat.eq_of_beq_eq_true e1
 obtain⟨rfl,l,hl,rfl,hob,hK⟩:=h
 refine⟨_,H,fun B=>?_,hK⟩
 cases l with
 |nil=>exact PS (.cons .emptyMD .nil) (ALE [] hl B H)
 |cons s l=>
  refine PS (.cons (.unmark (by simp)) .nil) ?_
  exact fD (pre:=[]) (post:=[]) (fun B H=>ALE (s::l) hl B H) hob (AJL (s::l)) (KX 0 (s::l)) (by omega) (by rw[AQ]) (Nat.le_refl _) rfl rfl rfl B
end
end Go.Proofs.Ob
