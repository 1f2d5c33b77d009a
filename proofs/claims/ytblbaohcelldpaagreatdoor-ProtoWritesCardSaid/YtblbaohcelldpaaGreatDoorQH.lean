/- . -/
import Derived.Test.YtblbaohcelldpaaGreatDoorQ8
import Derived.Test.YtblbaohcelldpaaGreatDoorT15
set_option linter.all false
set_option maxRecDepth 100000
namespace Go.Proofs.Ob
open Go Go.Abs Go.Tlv
theorem AHX{kd xid:Nat}{x:A9}(h:zF kd xid x)(hk:kd<256)(hx:xid<4294967296):okP x where
 a0:=by rw[h.k];exact hk
 a1:=by rw[h.q];exact hx
 a7:=by have:x.a7<=18446744073709551615:=h.f.a7;omega
 a8:=by have:x.a8<=18446744073709551615:=h.f.a8;omega
 w:=by have:=h.f.a10.1;omega
 wn:=fun y hy=>by have:y<=18446744073709551615:=h.f.a10.2 y hy;show y<18446744073709551616;omega
 n:=⟨(eX h.f.n).1,(eX h.f.n).2.1⟩
 f:=⟨(aS h.f.f).1,(aS h.f.f).2.1⟩
 t:=⟨(aV h.f.t).1,(aV h.f.t).2.1⟩
 e:=⟨(aR h.f.e).1,(aR h.f.e).2.1⟩
 b:=⟨(aQ h.f.b).1,(aQ h.f.b).2.1⟩
 g:=⟨(aT h.f.g).1,(aT h.f.g).2.1⟩
 m:=⟨(aU h.f.m).1,(aU h.f.m).2.1⟩
 r:=⟨(eY h.f.r).1,(eY h.f.r).2.1⟩
theorem five{s:List UInt8}(h5:5<=s.length):∃b0 b1 b2 b3 b4 r,s=b0::b1::b2::b3::b4::r:=by
 rcases s with _|⟨b0,_|⟨b1,_|⟨b2,_|⟨b3,_|⟨b4,r⟩⟩⟩⟩⟩
 ·simp at h5
 ·simp at h5
 ·simp at h5
 ·simp at h5
 ·simp at h5
 ·exact⟨b0,b1,b2,b3,b4,r,rfl⟩
end Go.Proofs.Ob
namespace Go.Proofs.Ob
open Go Go.Abs Go.Tlv
noncomputable section
structure Mr where
 tx:Lv->Int->ByteArray->(Lv->Prop)->Prop
 nu:Lv->Int->Int->(Lv->Prop)->Prop
 en:Lv->(ByteArray->Int->Prop)->Prop
 nb:Int->(ByteArray->Prop)->Prop
 tw:Int->(ByteArray->Prop)->Prop
def AWE(v:Value)(K:Lv->Prop):Prop:=match v with
 | .slice none 0 0=>K []
 | .iface t (.agg ⟨rs⟩)=>match Nat.beq t mkD with
  |true=>K rs
  |false=>False
 |_=>False
def AU6(M:Mr):Lv->(Value->Prop)->Prop
 | [v,.int .u8 kind,.string s],K=>AWE v fun rs=>M.tx rs kind s fun r=>K (dsl r)
 |_,_=>False
def AU5(M:Mr):Lv->(Value->Prop)->Prop
 | [v,.int .u8 kind,.int .u64 n],K=>AWE v fun rs=>M.nu rs kind n fun r=>K (dsl r)
 |_,_=>False
def AVK(M:Mr):Lv->(Value->Prop)->Prop
 | [v],K=>AWE v fun rs=>M.en rs fun s e=>K (.tuple ⟨[.string s,.int .i64 e]⟩)
 |_,_=>False
def AU4(M:Mr):Lv->(Value->Prop)->Prop
 | [.int .u64 n],K=>M.nb n fun s=>K (.string s)
 |_,_=>False
def AQf(M:Mr):Lv->(Value->Prop)->Prop
 | [.int .i64 n],K=>M.tw n fun s=>K (.string s)
 |_,_=>False
def ASQ(N:Nd)(n:Int)(K:RK):Prop:=wpe Tryz.prog N (AP S0 Sp0 [] [] [] []) 300 (.call 51 [(.int .i64 n)] h0) (FD 100 K)
def gRT(N:Nd)(rs:Lv)(kind:Int)(s:ByteArray)(K:RK):Prop:=wpe Tryz.prog N (AP sy1 Sp0 [] [] [] []) 300 (.call 223 [(dsl rs),(.int .u8 kind),(.string s)] h0) (FD 100 K)
def gRN(N:Nd)(M:Mr)(rs:Lv)(kind n:Int)(K:RK):Prop:=wpe Tryz.prog N (AP S0 Sp0 [] [] [(121,AU4 M),(223,AU6 M)] []) 300 (.call 219 [(dsl rs),(.int .u8 kind),(.int .u64 n)] h0) (FD 100 K)
theorem AQH(N:Nd)(n:Int)(K:RK):ASQ N n K=(N.ari .quo .i64 n .i64 256 (fun z0=>N.conv 3 5 .i64 z0 .u8 (fun z1=>N.ari .rem .i64 n .i64 256 (fun z2=>N.conv 3 5 .i64 z2 .u8 (fun z3=>N.str [z1,z3] (fun s4=>K (.string s4) [AKF z1 z3])))))):=by kernel_rfl
theorem AXn(N:Nd)(rs:Lv)(kind:Int)(s:ByteArray)(K:RK):gRT N rs kind s K=(N.scmp .eql s (bytesOf []) (K (dsl rs) []) (N.appD 0 [] rs 2 24 (N.appX 0 [] 1 [.int .u8 kind,.string s] 2 24 (fun l0 o1=>K (.slice (some ⟨102,0,none⟩) o1 o1) [(some (AA.cells [] 75 2 false true)),(some (AA.cells [.int .u8 kind,.string s] 75 2 false true)),(some (AA.cells l0 75 2 true true))])) (fun l0 o1=>N.base false o1 o1 (some (AA.cells l0 75 2 true true)) 75 2 (fun l2=>N.appX o1 l2 1 [.int .u8 kind,.string s] 2 24 (fun l3 o4=>K (.slice (some ⟨103,0,none⟩) o4 o4) [(some (AA.cells [] 75 2 false true)),none,(some (AA.cells [.int .u8 kind,.string s] 75 2 false true)),(some (AA.cells l3 75 2 true true))]))))):=by kernel_rfl
theorem AXm(N:Nd)(M:Mr)(rs:Lv)(kind n:Int)(K:RK):gRN N M rs kind n K=(M.nb n (fun s0=>M.tx rs kind s0 (fun l1=>K (dsl l1) []))):=by kernel_rfl
abbrev LSt:=Code->Nat->Lv->Lo->(ByteArray->Prop)->(Int->Prop)->Prop
def AQa(L:LSt):LpS:=lpS [2,3,4] fun c n AB obs K=>L c n AB obs (fun s=>K (.exit 0) [top,top,.string s] []) (fun e=>K .ret [.string (bytesOf []),.int .i64 e,top] [])
def AQ1(N:Nd)(L:LSt)(rs:Lv)(K:RK):Prop:=wpe Tryz.prog N (AP S0 Sp0 [] [(3,(75,([0,4,5],AQa L)))] [] []) 300 (.call 26 [(dsl rs)] h0) (FD 100 K)
def AO7(N:Nd)(M:Mr)(rs:Lv)(s:ByteArray)(i:Int)(back:Bk)(out:Ot):Prop:=
 wpe Tryz.prog N (AP S0 Sp0 [] [] [(51,AQf M)] []) 300 (.code false (AJ Tryz.prog 26 3) (CX 100 75 [0,4,5] [] ([dsl rs,.string s,.int .i64 i],[]))) (A7 100 [0,4,5] [2,3,4] 75 [] back out)
theorem AO8(N:Nd)(L:LSt)(rs:Lv)(K:RK):AQ1 N L rs K=(L (AJ Tryz.prog 26 3) 75 [dsl rs,.string (bytesOf []),.int .i64 0] [] (fun s0=>K (.tuple (Array.mk [.string s0,.int .i64 0])) []) (fun z0=>K (.tuple (Array.mk [.string (bytesOf []),.int .i64 z0])) [])):=by kernel_rfl
theorem ANV(N:Nd)(M:Mr)(rs:Lv)(s:ByteArray)(i:Int)(back:Bk)(out:Ot):AO7 N M rs s i back out=(N.dlen rs (fun o0=>N.cmp .lss .i64 i .i64 (Int.ofNat o0) (N.dget rs i 2 (fun l1=>N.rdI .u8 l1 0 (fun z2=>N.rdS l1 1 (fun s3=>N.cmp .eql .u8 z2 .u8 0 (nD/\(out Exit.ret [.string (bytesOf []),.int .i64 3,.string s] [])) (N.cmp .gtr .i64 i .i64 0 (N.dget rs i 2 (fun l4=>N.rdI .u8 l4 0 (fun z5=>N.rdS l4 1 (fun s6=>N.ari .sub .i64 i .i64 1 (fun z7=>N.dget rs z7 2 (fun l8=>N.rdI .u8 l8 0 (fun z9=>N.rdS l8 1 (fun s10=>N.cmp .leq .u8 z5 .u8 z9 (nD/\(out Exit.ret [.string (bytesOf []),.int .i64 3,.string s] [])) (N.dget rs i 2 (fun l11=>N.rdI .u8 l11 0 (fun z12=>N.rdS l11 1 (fun s13=>N.scmp .eql s13 (bytesOf []) (nD/\(out Exit.ret [.string (bytesOf []),.int .i64 3,.string s] [])) (N.dget rs i 2 (fun l14=>N.rdI .u8 l14 0 (fun z15=>N.rdS l14 1 (fun s16=>N.slen s16 (fun z17=>N.cmp .gtr .i64 z17 .i64 65535 (nD/\(out Exit.ret [.string (bytesOf []),.int .i64 5,.string s] [])) (N.dget rs i 2 (fun l18=>N.rdI .u8 l18 0 (fun z19=>N.rdS l18 1 (fun s20=>N.str [z19] (fun s21=>N.cat s s21 (fun s22=>N.dget rs i 2 (fun l23=>N.rdI .u8 l23 0 (fun z24=>N.rdS l23 1 (fun s25=>N.slen s25 (fun z26=>M.tw z26 (fun s27=>N.cat s22 s27 (fun s28=>N.dget rs i 2 (fun l29=>N.rdI .u8 l29 0 (fun z30=>N.rdS l29 1 (fun s31=>N.cat s28 s31 (fun s32=>N.ari .add .i64 i .i64 1 (fun z33=>nD/\(back [dsl rs,.string s32,.int .i64 z33] [(some (AA.cells [.int .u8 z19] 5 1 false true))]))))))))))))))))))))))))))))))))))) (N.dget rs i 2 (fun l4=>N.rdI .u8 l4 0 (fun z5=>N.rdS l4 1 (fun s6=>N.scmp .eql s6 (bytesOf []) (nD/\(out Exit.ret [.string (bytesOf []),.int .i64 3,.string s] [])) (N.dget rs i 2 (fun l7=>N.rdI .u8 l7 0 (fun z8=>N.rdS l7 1 (fun s9=>N.slen s9 (fun z10=>N.cmp .gtr .i64 z10 .i64 65535 (nD/\(out Exit.ret [.string (bytesOf []),.int .i64 5,.string s] [])) (N.dget rs i 2 (fun l11=>N.rdI .u8 l11 0 (fun z12=>N.rdS l11 1 (fun s13=>N.str [z12] (fun s14=>N.cat s s14 (fun s15=>N.dget rs i 2 (fun l16=>N.rdI .u8 l16 0 (fun z17=>N.rdS l16 1 (fun s18=>N.slen s18 (fun z19=>M.tw z19 (fun s20=>N.cat s15 s20 (fun s21=>N.dget rs i 2 (fun l22=>N.rdI .u8 l22 0 (fun z23=>N.rdS l22 1 (fun s24=>N.cat s21 s24 (fun s25=>N.ari .add .i64 i .i64 1 (fun z26=>nD/\(back [dsl rs,.string s25,.int .i64 z26] [(some (AA.cells [.int .u8 z12] 5 1 false true))])))))))))))))))))))))))))))))))) (nD/\(out (Exit.exit 0) [(.chan (some 0)),(.chan (some 0)),.string s] [])))):=by kernel_rfl
def AXN(N:Nd)(L:LSt)(rs:Lv)(K:RK):Prop:=wpe Tryz.prog N (AP S0 Sp0 [] [(3,(32,([0,4,5],AQa L)))] [] []) 300 (.call 122 [(dsl rs)] h0) (FD 100 K)
def AW7(N:Nd)(M:Mr)(rs:Lv)(s:ByteArray)(i:Int)(back:Bk)(out:Ot):Prop:=
 wpe Tryz.prog N (AP S0 Sp0 [] [] [(51,AQf M)] []) 300 (.code false (AJ Tryz.prog 122 3) (CX 100 32 [0,4,5] [] ([dsl rs,.string s,.int .i64 i],[]))) (A7 100 [0,4,5] [2,3,4] 32 [] back out)
theorem AWL(N:Nd)(L:LSt)(rs:Lv)(K:RK):AXN N L rs K=(L (AJ Tryz.prog 122 3) 32 [dsl rs,.string (bytesOf []),.int .i64 0] [] (fun s0=>K (.tuple (Array.mk [.string s0,.int .i64 0])) []) (fun z0=>K (.tuple (Array.mk [.string (bytesOf []),.int .i64 z0])) [])):=by kernel_rfl
theorem AWc(N:Nd)(M:Mr)(rs:Lv)(s:ByteArray)(i:Int)(back:Bk)(out:Ot):AW7 N M rs s i back out=(N.dlen rs (fun o0=>N.cmp .lss .i64 i .i64 (Int.ofNat o0) (N.dget rs i 1 (fun l1=>N.rdS l1 0 (fun s2=>N.slen s2 (fun z3=>N.cmp .gtr .i64 z3 .i64 65535 (nD/\(out Exit.ret [.string (bytesOf []),.int .i64 5,.string s] [])) (N.dget rs i 1 (fun l4=>N.rdS l4 0 (fun s5=>N.slen s5 (fun z6=>M.tw z6 (fun s7=>N.cat s s7 (fun s8=>N.dget rs i 1 (fun l9=>N.rdS l9 0 (fun s10=>N.cat s8 s10 (fun s11=>N.ari .add .i64 i .i64 1 (fun z12=>nD/\(back [dsl rs,.string s11,.int .i64 z12] []))))))))))))))) (nD/\(out (Exit.exit 0) [(.chan (some 0)),(.chan (some 0)),.string s] [])))):=by kernel_rfl
def WRb(M:Mr):How:=AP S0 Sp0 [] [] [(219,AU5 M),(26,AVK M)] []
def AVc(N:Nd)(M:Mr)(v nx:Int)(K:RK):Prop:=wpe Tryz.prog N (WRb M) 300 (.call 220 [.agg ⟨[.int .u32 v,.int .i64 nx]⟩] h0) (FD 100 K)
def AUg(N:Nd)(M:Mr)(op to ak an bk bn n:Int)(K:RK):Prop:=wpe Tryz.prog N (WRb M) 300 (.call 224 [.agg ⟨[.int .u8 op,.int .i64 to,.int .u8 ak,.int .u64 an,.int .u8 bk,.int .u64 bn,.int .i64 n]⟩] h0) (FD 100 K)
def ATR(N:Nd)(M:Mr)(w b:Int)(K:RK):Prop:=wpe Tryz.prog N (WRb M) 300 (.call 225 [.agg ⟨[.int .u64 w,.int .i64 b]⟩] h0) (FD 100 K)
theorem AVd(N:Nd)(M:Mr)(v nx:Int)(K:RK):AVc N M v nx K=(N.conv 27 28 .u32 v .u64 (fun z0=>M.nu [] 1 z0 (fun l1=>N.conv 3 28 .i64 nx .u64 (fun z2=>M.nu l1 2 z2 (fun l3=>M.en l3 (fun s4 z5=>K (.string s4) [AAj v nx])))))):=by kernel_rfl
theorem AUH(N:Nd)(M:Mr)(op to ak an bk bn n:Int)(K:RK):AUg N M op to ak an bk bn n K=(N.conv 5 28 .u8 op .u64 (fun z0=>M.nu [] 1 z0 (fun l1=>N.conv 3 28 .i64 to .u64 (fun z2=>M.nu l1 2 z2 (fun l3=>N.conv 5 28 .u8 ak .u64 (fun z4=>M.nu l3 3 z4 (fun l5=>M.nu l5 4 an (fun l6=>N.conv 5 28 .u8 bk .u64 (fun z7=>M.nu l6 5 z7 (fun l8=>M.nu l8 6 bn (fun l9=>N.conv 3 28 .i64 n .u64 (fun z10=>M.nu l9 7 z10 (fun l11=>M.en l11 (fun s12 z13=>K (.string s12) [qq7 op to ak an bk bn n])))))))))))))):=by kernel_rfl
theorem AUa(N:Nd)(M:Mr)(w b:Int)(K:RK):ATR N M w b K=(M.nu [] 1 w (fun l0=>N.conv 3 28 .i64 b .u64 (fun z1=>M.nu l0 2 z1 (fun l2=>M.en l2 (fun s3 z4=>K (.string s3) [YF w b]))))):=by kernel_rfl
def rM:Int->Int->(ByteArray->Prop)->Prop:=fun m n K=>∃k:Nat,n=k/\(k:Int)<m/\m<18446744073709551616/\K (bytesOf (EK k))
theorem AX7(m:Nat)(hm:m<18446744073709551616):Is (AW8 (real Tryz.prog) rM (m:Int) (PQ (.string (bytesOf (EK m))))):=by
 refine⟨?_⟩
 rw[AWd]
 refine DZ (d:=0) (fun h=>PQ.of (by subst h;rw[DR]) rfl) (fun h=>?_)
 have hq:m / 256<18446744073709551616:=by omega
 have hl:(EK (m / 256)).length<=8:=kM (k:=8) (by omega)
 refine AXT (d:=256) (by omega) hm ⟨m / 256,rfl,by omega,by omega,APs (d:=256) (by omega) (R4 t23 t5 (VP (AAS (by simp only[AV,List.length_map,List.length_cons,List.length_nil];omega) (PQ.of ?_ rfl))))⟩
 rw[CZ (show 0<m by omega)]
 have e:m % 256 % 256=m % 256:=by omega
 simp only[AV,List.map_cons,List.map_nil,e,Int.toNat_natCast]
theorem AX8(m:Nat):m<18446744073709551616->∀B H,BM Tryz.prog 100 B 121 [.int .u64 (m:Int)] H (.returned (.string (bytesOf (EK m)))) H:=by
 induction m using Nat.strongRecOn with
 |_ m ih=>
  intro hm B H
  refine AXy okp (W:=W0r rM m) (EY (pu1 ?_)) AZ rfl rfl (AX7 m hm) B H
  intro args K h
  unfold AXh at h
  split at h<;>try exact h.elim
  obtain⟨k,rfl,hk,_,hK⟩:=h
  exact⟨_,ih k (by omega) (by omega),hK⟩
theorem ATG(m:Nat)(hm:m<=9223372036854775807):Is (ASQ (real Tryz.prog) (m:Int) (PQ (.string (bytesOf (two m))))):=by
 refine⟨?_⟩
 rw[AQH]
 refine AR1 (d:=256) (by omega) hm (UV t3 t5 (APs (d:=256) (by omega) (UV t3 t5 (VP (PQ.of ?_ rfl)))))
 have e:m % 256 % 256=m % 256:=by omega
 simp only[two,List.map_cons,List.map_nil,e,Int.toNat_natCast]
def MRr:Mr where
 tx:=fun rs kind s K=>∃(l:List At) (k:Nat),rs=QD l/\kind=k/\l.length<1000/\K (QD (IY l k s))
 nu:=fun rs kind n K=>∃(l:List At) (k m:Nat),rs=QD l/\kind=k/\n=m/\m<18446744073709551616/\l.length<1000/\K (QD (addN l k m))
 en:=fun rs K=>∃l:List At,rs=QD l/\(∀a∈l,a.t<256)/\K (bytesOf (encS l)) (JB 0 l:Int)
 nb:=fun n K=>∃m:Nat,n=m/\m<18446744073709551616/\K (bytesOf (EK m))
 tw:=fun n K=>∃m:Nat,n=m/\m<=9223372036854775807/\K (bytesOf (two m))
theorem AS6:FY Tryz.prog 100 51 (AQf MRr):=by
 intro args K h
 unfold AQf at h
 split at h<;>try exact h.elim
 obtain⟨m,rfl,hm,hK⟩:=h
 exact⟨_,fun B H=>GL okp DC AZ rfl rfl (ATG m hm) B H,hK⟩
theorem AVJ:FY Tryz.prog 100 121 (AU4 MRr):=by
 intro args K h
 unfold AU4 at h
 split at h<;>try exact h.elim
 obtain⟨m,rfl,hm,hK⟩:=h
 exact⟨_,AX8 m hm,hK⟩
theorem AV8{l:List At}{AC:Lo}{e i n:Nat}{lo:Bool}(ho:AC[i]?=some (some (.cells (BS l) e 2 lo true)))(hn:n=l.length):PQ (dsl (QD l)) (.slice (some ⟨100+i,0,none⟩) n n) AC:=by
 subst hn
 refine(rA (G:=100) (n0:=100) (i:=i) (AY:=QD l) (AB:=[.slice (some ⟨100+i,0,none⟩) l.length l.length]) (vals':=[dsl (QD l)]) ho (ACZ l) (BJ l) (by omega) rfl (fun j v v' h1 h2=>?_)).trans (LB rfl)
 cases j with
 |succ j=>simp at h1
 |zero=>
  simp only[List.getElem?_cons_zero,Option.some.injEq]at h1 h2
  subst h1;subst h2
  have hr:(QD l).length=l.length:=by simp[QD]
  exact .inr ⟨rfl,l.length,Nat.le_of_eq hr,.inl (by rw[hr])⟩
theorem AVa(l:List At):(BS l).all isCell=true:=by
 induction l with
 |nil=>rfl
 |cons a l ih=>show(true&&(true&&(BS l).all isCell))=true;rw[ih];rfl
theorem rtC(l:List At)(k:Nat)(s:ByteArray)(hl:l.length<1000):Is (gRT (real Tryz.prog) (QD l) (k:Int) s (PQ (dsl (QD (IY l k s))))):=by
 refine⟨?_⟩
 rw[AXn]
 have hr:(QD l).length=l.length:=by simp[QD]
 refine OE (fun h=>PQ.of (by rw[show IY l k s=l from if_pos h]<;>rfl) rfl) (fun h=>?_)
 have e:IY l k s=l++[⟨k,s⟩]:=if_neg h
 rw[e]
 refine⟨BS l,ACZ l,AVa l,fun h0=>?_,fun h0=>⟨by rw[hr,iN];omega,by omega,?_⟩⟩
 ·have hl0:l=[]:=List.eq_nil_of_length_eq_zero (by rw[←hr,h0];rfl)
  subst hl0
  exact FV (by omega) rfl rfl (by rw[iN];omega) (by omega) (AV8 (i:=2) rfl rfl)
 ·have hpos:l.length≠0:=fun e=>h0 (List.eq_nil_of_length_eq_zero (by rw[hr,e]))
  refine WJ (by rw[List.nil_append,SF,hr,Nat.zero_add]) (by omega) (by omega) (FV (by omega) rfl rfl (by rw[iN];omega) (by omega) ?_)
  rw[List.nil_append,zJ]
  exact AV8 (i:=3) rfl (by rw[List.length_append,hr,Nat.zero_add]<;>rfl)
theorem AXB{P:Program}{f:FuncId}{rest:Lv}{v:Value}(h:∀B H,BM P 100 B f (dsl []::rest) H (.returned v) H):∀B H,BM P 100 B f (.slice none 0 0::rest) H (.returned v) H:=
 fun B H=>PS (.cons .nilD (DT.refl _)) (h B H)
theorem AU3{v:Value}{K:Lv->Prop}(h:AWE v K):∃rs,K rs/\(v=dsl rs∨(v = .slice none 0 0/\rs=[])):=by
 unfold AWE at h
 split at h<;>try exact h.elim
 ·exact⟨[],h,.inr ⟨rfl,rfl⟩⟩
 ·split at h<;>try exact h.elim
  rename_i e1
  obtain rfl:=Nat.eq_of_beq_eq_true e1
  exact⟨_,h,.inl rfl⟩
theorem AU2{P:Program}{f:FuncId}{v:Value}{rs rest:Lv}{r:Value}(hv:v=dsl rs∨(v = .slice none 0 0/\rs=[]))(h:∀B H,BM P 100 B f (dsl rs::rest) H (.returned r) H):∀B H,BM P 100 B f (v::rest) H (.returned r) H:=by
 rcases hv with rfl|⟨rfl,rfl⟩
 ·exact h
 ·exact AXB h
theorem AWq:FY Tryz.prog 100 223 (AU6 MRr):=by
 intro args K h
 unfold AU6 at h
 split at h<;>try exact h.elim
 rename_i v kind s
 obtain⟨rs,⟨l,k,rfl,rfl,hl,hK⟩,hv⟩:=AU3 h
 exact⟨_,AU2 hv (fun B H=>GL okp DC AZ rfl rfl (rtC l k s hl) B H),hK⟩
theorem rnC(l:List At)(k m:Nat)(hm:m<18446744073709551616)(hl:l.length<1000):Is (gRN (real Tryz.prog) MRr (QD l) (k:Int) (m:Int) (PQ (dsl (QD (addN l k m))))):=by
 refine⟨?_⟩
 rw[AXm]
 exact⟨m,rfl,hm,l,k,rfl,rfl,hl,PQ.of rfl rfl⟩
theorem pu2{g g':FuncId}{S S':Lv->(Value->Prop)->Prop}(h:FY Tryz.prog 100 g S)(h':FY Tryz.prog 100 g' S'):∀x∈[(g,S),(g',S')],FY Tryz.prog 100 x.1 x.2:=fun x hx=>by
 simp only[List.mem_cons,List.not_mem_nil,or_false]at hx
 rcases hx with rfl|rfl
 ·exact h
 ·exact h'
theorem AWp:FY Tryz.prog 100 219 (AU5 MRr):=by
 intro args K h
 unfold AU5 at h
 split at h<;>try exact h.elim
 rename_i v kind n
 obtain⟨rs,⟨l,k,m,rfl,rfl,rfl,hm,hl,hK⟩,hv⟩:=AU3 h
 exact⟨_,AU2 hv (fun B H=>GL okp (EY (pu2 AVJ AWq)) AZ rfl rfl (rnC l k m hm hl) B H),hK⟩
structure ALS(l:List At)(i:Nat):Prop where
 le:i<=l.length
 eq:JB 0 l=JB (lY l i) (l.drop i)
 il:i<=lY l i
 la:lY l i<=255
 bd:(EW (l.take i)).length<=lY l i*65538
def IS(l:List At)(p:{i:Nat // ALS l i}):Lv×Lo:=
 ([dsl (QD l),.string (bytesOf (EW (l.take p.1))),.int .i64 (p.1:Int)],[])
def RS(l:List At)(e:Exit)(v:Lv)(o:Lo):Prop:=
 (JB 0 l=0/\e = .exit 0/\v=[top,top,.string (bytesOf (EW l))]/\o=[])∨
 (JB 0 l≠0/\e = .ret/\v=[.string (bytesOf []),.int .i64 (JB 0 l:Int),top]/\o=[])
theorem ASL{AB:Lv}{extra:Lo}(h:BL (100+0) AB=true):Wk 100 (100+0) AB extra AB []:=I1 (pre:=[]) rfl h (fun i o h=>by simp at h)
theorem ASx(l:List At)(ht:∀a∈l,a.t<256)(p:{i:Nat // ALS l i}):
  Is (wpe Tryz.prog (real Tryz.prog) (AP S0 Sp0 [] [] [(51,AQf MRr)] []) 300 (.code false (AJ Tryz.prog 26 3) (CX 100 75 [0,4,5] [] (IS l p))) (A7 100 [0,4,5] [2,3,4] 75 []
   (fun AB AC=>∃a':{i:Nat // ALS l i},l.length-a'.1<l.length-p.1/\Wk 100 (100+0) AB AC (IS l a').1 (IS l a').2/\∀e v o,RS l e v o->RS l e v o)
   (fun e AB AC=>∃v o,Wk 100 (100+0) AB AC v o/\RS l e v o))):=by
 refine⟨?_⟩
 obtain⟨i,inv⟩:=p
 have hi:=inv.le
 have hbd:=inv.bd
 have heq:=inv.eq
 have hil:=inv.il
 have hla:=inv.la
 show AO7 (real Tryz.prog) MRr (QD l) (bytesOf (EW (l.take i))) (i:Int) _ _
 rw[ANV]
 have hr:(QD l).length=l.length:=by simp[QD]
 refine BI l.length hr (EL (fun hlt=>?_) (fun hge=>?_))
 ·have ha:l[i]?=some l[i]:=by simp[hlt]
  generalize l[i]=a at ha
  have hat:=ht a (List.mem_of_getElem? ha)
  have htake:=iT ha
  have hlast:lY l (i+1)=a.t:=by simp only[lY,ha]
  rw[AAO ha]at heq
  simp only[JB]at heq
  have hk:(EW (l.take i)).length<=255*65538:=Nat.le_trans hbd (Nat.mul_le_mul_right _ hla)
  have bad3:(a.t<=lY l i∨a.len=0)->∃v o,Wk 100 (100+0) [.string (bytesOf []),.int .i64 (3:Int),.string (bytesOf (EW (l.take i)))] [] v o/\RS l .ret v o:=fun h=>by
   rw[if_pos h]at heq
   exact⟨_,_,lS,.inr ⟨by omega,rfl,by rw[heq];rfl,rfl⟩⟩
  have rest:¬(a.t<=lY l i)->¬a.v.data.toList=(bytesOf []).data.toList->(65535<a.v.data.toList.length->∃v o,Wk 100 (100+0) [.string (bytesOf []),.int .i64 (5:Int),.string (bytesOf (EW (l.take i)))] [] v o/\RS l .ret v o)/\
    (¬65535<a.v.data.toList.length->ALS l (i+1)):=by
   intro h1 h2
   rw[XL]at h2
   rw[if_neg (fun h=>h.elim (fun h=>h1 h) (fun h=>h2 h))]at heq
   constructor
   ·intro h3
    rw[if_pos (show 65535<a.len from h3)]at heq
    exact⟨_,_,lS,.inr ⟨by omega,rfl,by rw[heq];rfl,rfl⟩⟩
   ·intro h3
    rw[if_neg (show ¬65535<a.len from h3)]at heq
    refine⟨hlt,by rw[hlast];exact heq,by rw[hlast];omega,by rw[hlast];omega,?_⟩
    rw[hlast,htake,Y2,List.length_append]
    have h4:(ZP a).length=3+a.len:=by simp[ZP,two,At.len];omega
    have h5:a.len<=65535:=by show a.v.data.toList.length<=65535;omega
    have h6:(lY l i+1)*65538<=a.t*65538:=Nat.mul_le_mul_right _ (by omega)
    omega
  have hd:=qQ ha
  have fin:∀h3:¬65535<a.v.data.toList.length,ALS l (i+1)->∃a':{i:Nat // ALS l i},l.length-a'.1<l.length-i/\Wk 100 (100+0) [dsl (QD l),.string (bytesOf (((EW (l.take i)++[UInt8.ofNat a.t])++two a.v.data.toList.length)++a.v.data.toList)),.int .i64 ((i+1:Nat):Int)] [some (.cells [.int .u8 (a.t:Int)] 5 1 false true)] (IS l a').1 (IS l a').2/\∀e v o,RS l e v o->RS l e v o:=by
   intro h3 hinv
   refine⟨⟨i+1,hinv⟩,show l.length-(i+1)<l.length-i by omega,?_,fun _ _ _ h=>h⟩
   have e:((EW (l.take i)++[UInt8.ofNat a.t])++two a.v.data.toList.length)++a.v.data.toList=EW (l.take (i+1)):=by
    rw[htake,Y2];simp[ZP,At.len]
   rw[e]
   exact ASL rfl
  have tl:(two a.v.data.toList.length).length=2:=rfl
  refine DK i rfl hd rfl (CG (z:=(a.t:Int)) rfl (KL (z:=a.v) rfl (DZ (d:=0) (fun h0=>⟨rfl,bad3 (.inl (by omega))⟩) (fun h0=>YD (d:=0) (fun hpos=>?_) (fun hz=>?_)))))
  ·obtain⟨i',rfl⟩:∃i',i=i'+1:=⟨i-1,by omega⟩
   have hb:l[i']?=some l[i']:=by simp[show i' < l.length by omega]
   generalize l[i']=b at hb
   have hlb:lY l (i'+1)=b.t:=by simp only[lY,hb]
   refine DK (i'+1) rfl hd rfl (CG (z:=(a.t:Int)) rfl (KL (z:=a.v) rfl (ASW (by omega) (by omega) (DK i' (by omega) (qQ hb) rfl (CG (z:=(b.t:Int)) rfl (KL (z:=b.v) rfl (SL (fun h1=>⟨rfl,bad3 (.inl (by omega))⟩) (fun h1=>?_))))))))
   refine DK (i'+1) rfl hd rfl (CG (z:=(a.t:Int)) rfl (KL (z:=a.v) rfl (OE (fun h2=>⟨rfl,bad3 (.inr (XL.1 h2))⟩) (fun h2=>?_))))
   obtain⟨r1,r2⟩:=rest (by omega) h2
   refine DK (i'+1) rfl hd rfl (CG (z:=(a.t:Int)) rfl (KL (z:=a.v) rfl (FC (YD (d:=65535) (fun h3=>⟨rfl,r1 h3⟩) (fun h3=>?_)))))
   have h3':¬65535<a.v.data.toList.length:=by omega
   refine DK (i'+1) rfl hd rfl (CG (z:=(a.t:Int)) rfl (KL (z:=a.v) rfl (VP (AAS ?_ (DK (i'+1) rfl hd rfl (CG (z:=(a.t:Int)) rfl (KL (z:=a.v) rfl (FC ⟨a.v.data.toList.length,rfl,by omega,AAS ?_ (DK (i'+1) rfl hd rfl (CG (z:=(a.t:Int)) rfl (KL (z:=a.v) rfl (AAS ?_ (BZ (by omega) ⟨rfl,fin h3' (r2 h3')⟩)))))⟩))))))))
   ·simp only[AV,List.length_map,List.length_cons,List.length_nil];omega
   ·simp only[AV,List.length_append,List.length_map,List.length_cons,List.length_nil,tl];omega
   ·simp only[AV,List.length_append,List.length_map,List.length_cons,List.length_nil,tl];omega
  ·have hi0:i=0:=by omega
   subst hi0
   have hl0:lY l 0=0:=rfl
   refine DK 0 rfl hd rfl (CG (z:=(a.t:Int)) rfl (KL (z:=a.v) rfl (OE (fun h2=>⟨rfl,bad3 (.inr (XL.1 h2))⟩) (fun h2=>?_))))
   obtain⟨r1,r2⟩:=rest (by omega) h2
   refine DK 0 rfl hd rfl (CG (z:=(a.t:Int)) rfl (KL (z:=a.v) rfl (FC (YD (d:=65535) (fun h3=>⟨rfl,r1 h3⟩) (fun h3=>?_)))))
   have h3':¬65535<a.v.data.toList.length:=by omega
   refine DK 0 rfl hd rfl (CG (z:=(a.t:Int)) rfl (KL (z:=a.v) rfl (VP (AAS ?_ (DK 0 rfl hd rfl (CG (z:=(a.t:Int)) rfl (KL (z:=a.v) rfl (FC ⟨a.v.data.toList.length,rfl,by omega,AAS ?_ (DK 0 rfl hd rfl (CG (z:=(a.t:Int)) rfl (KL (z:=a.v) rfl (AAS ?_ (BZ (by omega) ⟨rfl,fin h3' (r2 h3')⟩)))))⟩))))))))
   ·simp only[AV,List.length_map,List.length_cons,List.length_nil];omega
   ·simp only[AV,List.length_append,List.length_map,List.length_cons,List.length_nil,tl];omega
   ·simp only[AV,List.length_append,List.length_map,List.length_cons,List.length_nil,tl];omega
 ·have e:i=l.length:=by omega
  subst e
  rw[List.drop_length]at heq
  refine⟨rfl,[top,top,.string (bytesOf (EW l))],[],?_,.inl ⟨heq,rfl,rfl,rfl⟩⟩
  rw[List.take_length];exact Wk.refl _ _ _ _
def LSs:LSt:=fun c n AB obs A E=>∃l:List At,(∀a∈l,a.t<256)/\c=AJ Tryz.prog 26 3/\n=75/\AB=[dsl (QD l),.string (bytesOf []),.int .i64 (0:Int)]/\obs=[]/\
 (JB 0 l=0->A (bytesOf (EW l)))/\(JB 0 l≠0->E (JB 0 l:Int))
theorem ATl:BH Tryz.prog 100 [0,4,5] (AQa LSs):=by
 show BH Tryz.prog 100 [0,4,5] (lpS [2,3,4] _)
 refine FQ okp (W:=AP S0 Sp0 [] [] [(51,AQf MRr)] []) (EY (pu1 AS6)) AZ ?_
 rintro c n AB obs K ⟨l,ht,hc,hn,hv,ho,hA,hE⟩
 subst hc;subst hn;subst hv;subst ho
 refine⟨{i:Nat // ALS l i},0,300,fun p=>l.length-p.1,IS l,fun _ e v o=>RS l e v o,⟨0,⟨Nat.zero_le _,rfl,by simp[lY],by simp[lY],by simp[EW]⟩⟩,rfl,Wk.refl _ _ _ _,?_,ASx l ht⟩
 intro e v o hR
 rcases hR with⟨h1,rfl,rfl,rfl⟩ | ⟨h1,rfl,rfl,rfl⟩
 ·exact hA h1
 ·exact hE h1
theorem AS8(l:List At)(ht:∀a∈l,a.t<256):Is (AQ1 (real Tryz.prog) LSs (QD l) (PQ (ADL l))):=by
 refine⟨?_⟩
 rw[AO8]
 refine⟨l,ht,rfl,rfl,rfl,rfl,fun h=>?_,fun h=>?_⟩
 ·exact PQ.of (by unfold ADL encS;rw[if_pos h,h];rfl) rfl
 ·exact PQ.of (by unfold ADL encS;rw[if_neg h]) rfl
theorem AWr:FY Tryz.prog 100 26 (AVK MRr):=by
 intro args K h
 unfold AVK at h
 split at h<;>try exact h.elim
 obtain⟨rs,⟨l,rfl,ht,hK⟩,hv⟩:=AU3 h
 exact⟨_,AU2 hv (fun B H=>GL okp DC (lp1 ATl) rfl rfl (AS8 l ht) B H),hK⟩
structure AV6(l:List ByteArray)(i:Nat):Prop where
 le:i<=l.length
 eq:QS l=QS (l.drop i)
 bd:(GV (l.take i)).length<=i*65537
def IT(l:List ByteArray)(p:{i:Nat // AV6 l i}):Lv×Lo:=
 ([dsl (rowsOf cStr l),.string (bytesOf (GV (l.take p.1))),.int .i64 (p.1:Int)],[])
def RT(l:List ByteArray)(e:Exit)(v:Lv)(o:Lo):Prop:=
 (QS l=0/\e = .exit 0/\v=[top,top,.string (bytesOf (GV l))]/\o=[])∨
 (QS l≠0/\e = .ret/\v=[.string (bytesOf []),.int .i64 (QS l:Int),top]/\o=[])
theorem AXA(l:List ByteArray)(hl:l.length<100000)(p:{i:Nat // AV6 l i}):
  Is (wpe Tryz.prog (real Tryz.prog) (AP S0 Sp0 [] [] [(51,AQf MRr)] []) 300 (.code false (AJ Tryz.prog 122 3) (CX 100 32 [0,4,5] [] (IT l p))) (A7 100 [0,4,5] [2,3,4] 32 []
   (fun AB AC=>∃a':{i:Nat // AV6 l i},l.length-a'.1<l.length-p.1/\Wk 100 (100+0) AB AC (IT l a').1 (IT l a').2/\∀e v o,RT l e v o->RT l e v o)
   (fun e AB AC=>∃v o,Wk 100 (100+0) AB AC v o/\RT l e v o))):=by
 refine⟨?_⟩
 obtain⟨i,inv⟩:=p
 have hi:=inv.le
 have hbd:=inv.bd
 have heq:=inv.eq
 show AW7 (real Tryz.prog) MRr (rowsOf cStr l) (bytesOf (GV (l.take i))) (i:Int) _ _
 rw[AWc]
 refine BI l.length (AQ _ _) (EL (fun hlt=>?_) (fun hge=>?_))
 ·have ha:l[i]?=some l[i]:=by simp[hlt]
  generalize l[i]=a at ha
  have htake:=iT ha
  rw[AAO ha]at heq
  simp only[QS]at heq
  have hk:(GV (l.take i)).length<=100000*65537:=Nat.le_trans hbd (Nat.mul_le_mul_right _ (by omega))
  have hd:=CL (c:=cStr) ha
  have tl:(two a.data.toList.length).length=2:=rfl
  refine DK i rfl hd rfl (KL (z:=a) rfl (FC (YD (d:=65535) (fun h3=>?_) (fun h3=>?_))))
  ·rw[if_pos (show 65535<slen a from h3)]at heq
   exact⟨rfl,_,_,lS,.inr ⟨by omega,rfl,by rw[heq];rfl,rfl⟩⟩
  rw[if_neg (show ¬65535<slen a by show ¬65535<a.data.toList.length;omega)]at heq
  have hinv:AV6 l (i+1):=by
   refine⟨hlt,heq,?_⟩
   have hitem:(zM a).length=2+a.data.toList.length:=by simp[zM,two,slen];omega
   rw[htake,fA,List.length_append,hitem,Nat.add_mul]
   omega
  refine DK i rfl hd rfl (KL (z:=a) rfl (FC ⟨a.data.toList.length,rfl,by omega,AAS ?_ (DK i rfl hd rfl (KL (z:=a) rfl (AAS ?_ (BZ (by omega) ⟨rfl,⟨i+1,hinv⟩,?_,?_,fun _ _ _ h=>h⟩))))⟩))
  ·simp only[AV,tl];omega
  ·simp only[AV,List.length_append,tl];omega
  ·show l.length-(i+1)<l.length-i
   omega
  ·have e:(GV (l.take i)++two a.data.toList.length)++a.data.toList=GV (l.take (i+1)):=by
    rw[htake,fA];simp[zM,slen]
   simp only[AV]
   rw[e]
   exact ASL rfl
 ·have e:i=l.length:=by omega
  subst e
  rw[List.drop_length]at heq
  refine⟨rfl,[top,top,.string (bytesOf (GV l))],[],?_,.inl ⟨heq,rfl,rfl,rfl⟩⟩
  rw[List.take_length];exact Wk.refl _ _ _ _
def LTs:LSt:=fun c n AB obs A E=>∃l:List ByteArray,l.length<100000/\c=AJ Tryz.prog 122 3/\n=32/\AB=[dsl (rowsOf cStr l),.string (bytesOf []),.int .i64 (0:Int)]/\obs=[]/\
 (QS l=0->A (bytesOf (GV l)))/\(QS l≠0->E (QS l:Int))
theorem AYd:BH Tryz.prog 100 [0,4,5] (AQa LTs):=by
 show BH Tryz.prog 100 [0,4,5] (lpS [2,3,4] _)
 refine FQ okp (W:=AP S0 Sp0 [] [] [(51,AQf MRr)] []) (EY (pu1 AS6)) AZ ?_
 rintro c n AB obs K ⟨l,hl,hc,hn,hv,ho,hA,hE⟩
 subst hc;subst hn;subst hv;subst ho
 refine⟨{i:Nat // AV6 l i},0,300,fun p=>l.length-p.1,IT l,fun _ e v o=>RT l e v o,⟨0,⟨Nat.zero_le _,rfl,by simp[GV]⟩⟩,rfl,Wk.refl _ _ _ _,?_,AXA l hl⟩
 intro e v o hR
 rcases hR with⟨h1,rfl,rfl,rfl⟩ | ⟨h1,rfl,rfl,rfl⟩
 ·exact hA h1
 ·exact hE h1
theorem AYo(l:List ByteArray)(hl:l.length<100000):Is (AXN (real Tryz.prog) LTs (rowsOf cStr l) (PQ (AKL l))):=by
 refine⟨?_⟩
 rw[AWL]
 refine⟨l,hl,rfl,rfl,rfl,rfl,fun h=>?_,fun h=>?_⟩
 ·exact PQ.of (by unfold AKL EJ;rw[if_pos h,h];rfl) rfl
 ·exact PQ.of (by unfold AKL EJ;rw[if_neg h]) rfl
theorem AX1(l:List ByteArray)(hl:l.length<100000)(B:Base)(H:Heap):BM Tryz.prog 100 B 122 [dsl (rowsOf cStr l)] H (.returned (AKL l)) H:=
 GL okp DC (lp1 AYd) rfl rfl (AYo l hl) B H
theorem AXa:JU Tryz.prog 100 122 (ND MSr):=by
 intro args H K h
 unfold ND at h
 split at h<;>try exact h.elim
 rename_i t b k k'
 split at h<;>try exact h.elim
 rename_i e1
 obtain rfl:=Nat.eq_of_beq_eq_true e1
 obtain⟨rfl,l,hl,rfl,hob,hK⟩:=h
 refine⟨_,H,fun B=>?_,hK⟩
 cases l with
 |nil=>exact PS (.cons .emptyMD .nil) (AX1 [] hl B H)
 |cons s l=>
  refine PS (.cons (.unmark (by simp)) .nil) ?_
  exact fD (pre:=[]) (post:=[]) (fun B H=>AX1 (s::l) hl B H) hob (AJL (s::l)) (KX 0 (s::l)) (by omega) (by rw[AQ]) (Nat.le_refl _) rfl rfl rfl B
end
end Go.Proofs.Ob
namespace Go.Proofs.Ob
open Go Go.Abs Go.Tlv
theorem AGv(f:Nat->List UInt8):∀n j,(CR f n j).length<=n
 | 0,j=>Nat.le_refl 0
 |n+1,j=>by
  have:=AGv f n (j+1)
  have h1:(QW (j+1) (f (j+1))).length<=1:=by unfold QW;split<;>simp
  rw[CR,List.length_append];omega
theorem ANx{x:A9}(he:P9 x=0):J7 x=hdB x.a0 x.a1++encS (JV x):=by unfold J7;rw[if_pos he];rfl
end Go.Proofs.Ob
namespace Go.Proofs.Ob
open Go Go.Abs Go.Tlv
noncomputable section
end
end Go.Proofs.Ob
