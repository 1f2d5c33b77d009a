/- . -/
import Derived.Test.YtblbaohcelldpaaGreatDoorQ4
set_option linter.all false
set_option maxRecDepth 100000
namespace Go.Proofs.Ob
open Go Go.Abs Go.Tlv
noncomputable section
def AJ6(L:LQt):LpS:=lpS [4] fun c n AB obs K=>L c n AB obs (K (.exit 0) [top] []) (K .ret [.bool false] [])
def gNs(N:Nd)(L:LQt)(r r2:Lv)(K:Value->Prop):Prop:=wpe Tryz.prog N (AU Z0 Zp [] [(4,(26,([0,1,5],AJ6 L)))] [] []) 300 (.call 41 [(dsl r),(dsl r2)] h0) (II K)
theorem AHi(N:Nd)(L:LQt)(r r2:Lv)(K:Value->Prop):gNs N L r r2 K=N.dlen r fun n=>N.dlen r2 fun m=>N.cmp .neq .i64 n .i64 m (K (.bool false)) (L (AO Tryz.prog 41 4) 26 [dsl r,dsl r2,.int .i64 0] [] (K (.bool true)) (K (.bool false))):=by kernel_rfl
def AJc(N:Nd)(r r2:Lv)(i:Int)(back:Bk)(out:Ot):Prop:=
 wpe Tryz.prog N (AU Z0 Zp [] [] [] []) 300 (.code false (AO Tryz.prog 41 4) (C9 100 26 [0,1,5] [] ([dsl r,dsl r2,.int .i64 i],[]))) (BM 100 [0,1,5] [4] 26 [] back out)
theorem AEZ(N:Nd)(r r2:Lv)(i:Int)(back:Bk)(out:Ot):AJc N r r2 i back out=N.dlen r fun n=>N.cmp .lss .i64 i .i64 n (N.dget r i 1 fun ca=>N.rdI .u64 ca 0 fun za=>N.dget r2 i 1 fun cb=>N.rdI .u64 cb 0 fun zb=>N.cmp .neq .u64 za .u64 zb (nD/\out .ret [.bool false] [])
 (N.ari .add .i64 i .i64 1 fun j=>nD/\back [dsl r,dsl r2,.int .i64 j] [])) (nD/\out (.exit 0) [top] []):=by kernel_rfl
def INs(l m:List Nat)(i:StQ l m):Lv×Lo:=([dsl (rowsOf CS l),dsl (rowsOf CS m),.int .i64 (i.1:Int)],[])
def LNs(l m:List Nat):LQt:=fun code n AB obs A E=>code=AO Tryz.prog 41 4/\n=26/\AB=[dsl (rowsOf CS l),dsl (rowsOf CS m),.int .i64 0]/\obs=[]/\l.length=m.length/\(l=m->A)/\(l≠m->E)
theorem AJ1(l m:List Nat)(hl:l.length<1000000000)(hm:l.length=m.length)(i:StQ l m):Is (wpe Tryz.prog (real Tryz.prog) (AU Z0 Zp [] [] [] []) 300 (.code false (AO Tryz.prog 41 4) (C9 100 26 [0,1,5] [] (INs l m i))) (BM 100 [0,1,5] [4] 26 []
   (fun AB AL=>∃a':StQ l m,l.length-a'.1<l.length-i.1/\Wk 100 (100+0) AB AL (INs l m a').1 (INs l m a').2/\∀e v o,RQ l m e v o->RQ l m e v o)
   (fun e AB AL=>∃v o,Wk 100 (100+0) AB AL v o/\RQ l m e v o))):=by
 refine⟨?_⟩
 obtain⟨i,inv⟩:=i
 have hi:=inv.le
 show AJc (real Tryz.prog) (rowsOf CS l) (rowsOf CS m) (i:Int) _ _
 rw[AEZ]
 refine CL l.length (BJ _ _) (DW (fun hlt=>?_) (fun hge=>?_))
 ·have ha:l[i]?=some l[i]:=List.getElem?_eq_getElem hlt
  have hlt2:i<m.length:=by omega
  have hb2:m[i]?=some m[i]:=List.getElem?_eq_getElem hlt2
  generalize l[i]=a at ha
  generalize m[i]=b at hb2
  have hms:l.length-(i+1)<l.length-i:=by omega
  refine EG i rfl (E5 ha) rfl (EN rfl (EG i rfl (E5 hb2) rfl (EN rfl (N9 (fun h=>?_) (fun h=>?_)))))
  ·exact⟨rfl,_,_,Wk.refl _ _ _ _,.inr ⟨fun e=>h (by rw[e,hb2]at ha;simpa using ha.symm),rfl,rfl,rfl⟩⟩
  ·have he:a=b:=h
   subst he
   exact BS (by omega) ⟨rfl,⟨i+1,⟨hlt,NS inv.eq ha hb2⟩⟩,hms,Wk.refl _ _ _ _,fun _ _ _ h=>h⟩
 ·have e:i=l.length:=by omega
  have h:=inv.eq
  rw[e,List.take_length,hm,List.take_length]at h
  exact⟨rfl,[top],[],Wk.refl _ _ _ _,.inl ⟨h,rfl,rfl,rfl⟩⟩
theorem AKU(l m:List Nat)(hl:l.length<1000000000):BH Tryz.prog 100 [0,1,5] (AJ6 (LNs l m)):=by
 show BH Tryz.prog 100 [0,1,5] (lpS [4] _)
 refine FW okp (W:=AU Z0 Zp [] [] [] []) DR BN ?_
 rintro cc n AB obs K ⟨hc,hn,hv,ho,hm,hA,hE⟩
 subst hc;subst hn;subst hv;subst ho
 refine⟨StQ l m,0,300,fun a=>l.length-a.1,INs l m,fun _ e v o=>RQ l m e v o,⟨0,⟨Nat.zero_le _,rfl⟩⟩,rfl,Wk.refl _ _ _ _,?_,AJ1 l m hl hm⟩
 intro e v o hR
 rcases hR with⟨h1,rfl,rfl,rfl⟩ | ⟨h1,rfl,rfl,rfl⟩
 ·exact hA h1
 ·exact hE h1
theorem nsC(l m:List Nat):Is (gNs (real Tryz.prog) (LNs l m) (rowsOf CS l) (rowsOf CS m) (fun v=>∃b:Bool,v = .bool b/\(b=true↔l=m))):=by
 refine⟨?_⟩
 rw[AHi]
 exact CL l.length (BJ _ _) (CL m.length (BJ _ _) (N9 (fun h=>⟨false,rfl,DF (fun z:List Nat=>z.length) h⟩) (fun h=>⟨rfl,rfl,rfl,rfl,h,fun h=>⟨true,rfl,fun _=>h,fun _=>rfl⟩,fun h=>⟨false,rfl,DF id h⟩⟩)))
theorem nsH(l m:List Nat)(hl:l.length<1000000000):∃b:Bool,(b=true↔l=m)/\∀B H,BP Tryz.prog 100 B 41 [dsl (rowsOf CS l),dsl (rowsOf CS m)] H (.returned (.bool b)) H:=
 LX DR (E9 (fun z hz=>by simp only[List.mem_singleton]at hz;subst hz;exact AKU l m hl)) rfl (nsC l m)
theorem AKH:∀x∈puR AIJ (AGM CS),EW Tryz.prog 100 x.1 x.2:=fun x hx=>by
 simp only[puR,List.mem_cons,List.not_mem_nil,or_false]at hx
 rcases hx with rfl|rfl|rfl|rfl|rfl|rfl|rfl|rfl|rfl
 ·exact AJV nsH
 ·exact ZH AF1
 ·exact ZH fun x y _=>ADP x y
 ·exact ZH ADV
 ·exact ZH ADN
 ·exact ZH ADL
 ·exact ZH ADR
 ·exact ZH fun x y _=>ADT x y
 ·exact ZH fun x y _=>AF3 x y
theorem AH0(x y:BB)(hx:okP x):∃b:Bool,(b=true↔x=y)/\∀B H,BP Tryz.prog 100 B 22 [JO x,JO y] H (.returned (.bool b)) H:=LX (DI AKH) BN rfl (AHZ x y hx)
def cU8(t:Nat):Lv:=[.int .u8 (t:Int)]
def dO(k:Nat):Nat->List Nat
 | 0=>[]
 |n+1=>dO k n++(if hasB k (n+1)=true then[n+1]else[])
theorem rH(k t:Nat):∀n,t∈dO k n↔1<=t/\t<=n/\hasB k t=true
 | 0=>by simp[dO];omega
 |n+1=>by
  rw[dO,List.mem_append,rH k t n]
  by_cases h:hasB k (n+1)=true
  ·rw[if_pos h,List.mem_singleton]
   constructor
   ·rintro (⟨a,b,c⟩ | rfl)
    ·exact⟨a,by omega,c⟩
    ·exact⟨by omega,by omega,h⟩
   ·rintro ⟨a,b,c⟩
    by_cases e:t=n+1
    ·exact .inr e
    ·exact .inl ⟨a,by omega,c⟩
  ·rw[if_neg h]
   constructor
   ·rintro (⟨a,b,c⟩ | h2)
    ·exact⟨a,by omega,c⟩
    ·cases h2
   ·rintro ⟨a,b,c⟩
    by_cases e:t=n+1
    ·exact absurd (e ▸ c) h
    ·exact .inl ⟨a,by omega,c⟩
theorem rG(k:Nat):∀n,(dO k n).length<=n
 | 0=>Nat.le_refl 0
 |n+1=>by
  have:=rG k n
  rw[dO,List.length_append]
  split<;>simp<;>omega
def AD0(l:List Nat):Lv:=l.flatMap cU8
theorem fD:∀l:List Nat,A8 0 (AD0 l)=true
 | []=>rfl
 |a::l=>by show(true&&A8 0 (AD0 l))=true;rw[fD l];rfl
theorem AGp:∀l:List Nat,BU 1 (rowsOf cU8 l)=some (AD0 l)
 | []=>rfl
 |a::l=>by
  show BU 1 (.agg ⟨[.int .u8 (a:Int)]⟩::rowsOf cU8 l)=_
  simp only[BU,AGp l];rfl
abbrev MHs:=Int->(Lv->Prop)->Prop
def sHs(M:MHs):Lv->(Value->Prop)->Prop
 | [.int .u8 k],K=>M k fun rs=>K (dsl rs)
 |_,_=>False
def AIH:MHs:=fun a K=>∃k:Nat,a=k/\k<256/\K (rowsOf cU8 (dO k 17))
def AIQ:Option AJ:=some (.cells [.nilFunc,.nilFunc,fn2 139 103 104,fn2 141 104 103,fn2 139 106 107,fn2 141 107 106,fn2 139 109 110,fn2 141 110 109,fn2 139 112 113,fn2 141 113 112,fn2 139 115 116,fn2 141 116 115,fn2 143 118 119,fn2 144 119 118,fn2 143 121 122,fn2 144 122 121,fnV 145,fnV 146,fnV 147,fnV 149,fn2 151 127 126,fn2 152 128 126,fn2 163 131 130,fn2 164 132 130,fn2 168 135 134,fn2 169 136 134,fn2 175 139 138,fn2 176 140 138,fn2 186 143 142,fn2 187 144 142,fn2 194 147 146,fn2 195 148 146,fn2 202 151 150,fn2 203 152 150,fn2 206 155 154,fn2 207 156 154] 92 36 false true)
def J5:Lo:=[AIQ,bx [fnV 75] 128,bx [.int .u64 2147483647] 28,bp [fn2 139 103 104,fn2 141 104 103],bx [fnV 76] 128,bx [.int .u64 2147483647] 28,bp [fn2 139 106 107,fn2 141 107 106],bx [fnV 77] 128,bx [.int .u64 2147483647] 28,bp [fn2 139 109 110,fn2 141 110 109],bx [fnV 78] 128,bx [.int .u64 2147483647] 28,bp [fn2 139 112 113,fn2 141 113 112],bx [fnV 79] 128,bx [.int .u64 2147483647] 28,bp [fn2 139 115 116,fn2 141 116 115],bx [fnV 81] 131,bx [.int .u64 18446744073709551615] 28,bp [fn2 143 118 119,fn2 144 119 118],bx [fnV 82] 131,bx [.int .u64 18446744073709551615] 28,bp [fn2 143 121 122,fn2 144 122 121],bp [fnV 145,fnV 146],bp [fnV 147,fnV 149],bx [fnV 86] 135,bx [fnV 87] 136,bx [fnV 88] 137,bp [fn2 151 127 126,fn2 152 128 126],bx [fnV 90] 140,bx [fnV 91] 141,bx [fnV 92] 142,bp [fn2 163 131 130,fn2 164 132 130],bx [fnV 94] 145,bx [fnV 95] 146,bx [fnV 96] 147,bp [fn2 168 135 134,fn2 169 136 134],bx [fnV 98] 150,bx [fnV 99] 151,bx [fnV 100] 152,bp [fn2 175 139 138,fn2 176 140 138],bx [fnV 102] 155,bx [fnV 103] 156,bx [fnV 104] 157,bp [fn2 186 143 142,fn2 187 144 142],bx [fnV 106] 160,bx [fnV 107] 161,bx [fnV 108] 162,bp [fn2 194 147 146,fn2 195 148 146],bx [fnV 110] 165,bx [fnV 111] 166,bx [fnV 112] 167,bp [fn2 202 151 150,fn2 203 152 150],bx [fnV 114] 170,bx [fnV 115] 171,bx [fnV 116] 172,bp [fn2 206 155 154,fn2 207 156 154],AIQ]
def cW(x:BB)(w:Value):Lv:=(lM x).set 10 w
def cWo(x:BB)(w:Value):Option AJ:=some (.cells (cW x w) 51 52 false true)
abbrev MWd:=Lv->ByteArray->(Value->Bool->Prop)->Prop
def AJH(H:Heap)(b:Nat):Bool:=Nat.ble 100 b&&Nat.blt b H.next
def sW2(M:MWd):Lv->Heap->VK->Prop
 | [.pointer (some ⟨b,0,none⟩),.string s],H,K=>match H.get b with
  |some (.cells vs 51 52 false true)=>match AJH H b with
   |true=>M vs s fun w ok=>K (.bool ok) (G9 H [b] [some (.cells (vs.set 10 w) 51 52 false true)])
   |false=>False
  |_=>False
 |_,_,_=>False
abbrev YH:=ByteArray->Int->(Nat->Int->Prop)->Prop
def VZ(M:YH):Lv->(Value->Prop)->Prop
 | [.string s,.int .u64 t],K=>M s t fun n e=>K (.tuple ⟨[.int .u64 (n:Int),.int .i64 e]⟩)
 |_,_=>False
def sRd{α:Type}(v:α->Value)(M:ByteArray->(α->Int->Prop)->Prop):Lv->(Value->Prop)->Prop
 | [.string s],K=>M s fun y e=>K (.tuple ⟨[v y,.int .i64 e]⟩)
 |_,_=>False
structure MDe where
 o:MOf
 n:YH
 w:MWd
 p0:ByteArray->(DX->Int->Prop)->Prop
 p1:ByteArray->(EJ->Int->Prop)->Prop
 p2:ByteArray->(DC->Int->Prop)->Prop
 p3:ByteArray->(CJ->Int->Prop)->Prop
 p4:ByteArray->(D6->Int->Prop)->Prop
 p5:ByteArray->(DL->Int->Prop)->Prop
 p6:ByteArray->(EQ->Int->Prop)->Prop
 p7:ByteArray->(GR->Int->Prop)->Prop
def puD(M:MDe):PuL:=[(34,sOf M.o),(142,VZ M.n),(88,sRd QM M.p0),(92,sRd LC M.p1),(96,sRd LP M.p2),(100,sRd LB M.p3),(104,sRd LA M.p4),(108,sRd LH M.p5),(112,sRd LM M.p6),(116,sRd QN M.p7)]
def rZl:Lv:=(lM ZT).map fun v=>match v with | .iface _ _ => .slice none 0 0|v=>v
def rZ:Option AJ:=some (.cells rZl 51 52 false true)
def spD(b:Nat):Bool:=Nat.beq b 158
abbrev AEf:=Code->Nat->Lv->Lo->(Nat->Option AJ->Prop)->(Nat->Option AJ->Prop)->Prop
def AGH(L:AEf):LpS:=lpS [4,6] fun c n AB obs K=>match AB,obs with
 | [_,e,_,_,_],[some (.cells vs 51 52 false true)]=>L c n AB obs (fun k ob=>K (.exit 0) [top,e] [some (.cells (vs.set 10 (mkS 101 k)) 51 52 false true),ob]) (fun k ob=>K .ret [.bool false,top] [some (.cells (vs.set 10 (mkS 101 k)) 51 52 false true),ob])
 |_,_=>False
def gW2(N:Nd)(ML:WE)(L:AEf)(x:BB)(s:ByteArray)(K:RK):Prop:=wpe Tryz.prog N (AU AAg Zp [] [(3,(42,([0,6,16,17,18],AGH L)))] [(150,sRL ML)] [(42,41)]) 300 (.call 149 [pA 100,(.string s)] (hOf 100 [] [cWo x (.slice none 0 0)])) (PT 100 K)
theorem AHu(N:Nd)(ML:WE)(L:AEf)(x:BB)(s:ByteArray)(K:RK):gW2 N ML L x s K=ML s 128 (fun rs=>N.dlen rs fun n=>L (AO Tryz.prog 149 3) 42 [pA 100,.int .i64 0,dsl rs,.int .i64 n,.int .i64 0] [cWo x (.slice none 0 0)] (fun k ob=>K (.bool true) [cWo x (mkS 101 k),ob]) (fun k ob=>K (.bool false) [cWo x (mkS 101 k),ob]))
 (N.dlen [] fun n=>L (AO Tryz.prog 149 3) 42 [pA 100,.int .i64 3,dsl [],.int .i64 n,.int .i64 0] [cWo x (.slice none 0 0)] (fun k ob=>K (.bool false) [cWo x (mkS 101 k),ob]) (fun k ob=>K (.bool false) [cWo x (mkS 101 k),ob]))
 (N.dlen [] fun n=>L (AO Tryz.prog 149 3) 42 [pA 100,.int .i64 4,dsl [],.int .i64 n,.int .i64 0] [cWo x (.slice none 0 0)] (fun k ob=>K (.bool false) [cWo x (mkS 101 k),ob]) (fun k ob=>K (.bool false) [cWo x (mkS 101 k),ob])):=by kernel_rfl
def AJk(N:Nd)(M:YH)(x:BB)(k:Nat)(ob:Option AJ)(e:Int)(rs:Lv)(n i:Int)(back:Bk)(out:Ot):Prop:=
 wpe Tryz.prog N (AU AAg Zp [] [] [(142,VZ M)] []) 300 (.code false (AO Tryz.prog 149 3) (C9 100 42 [0,6,16,17,18] [] ([pA 100,.int .i64 e,dsl rs,.int .i64 n,.int .i64 i],[cWo x (mkS 101 k),ob]))) (BM 100 [0,6,16,17,18] [4,6] 42 [] back out)
theorem AFa(N:Nd)(M:YH)(x:BB)(k:Nat)(ob:Option AJ)(e:Int)(rs:Lv)(n i:Int)(back:Bk)(out:Ot):AJk N M x k ob e rs n i back out=N.cmp .lss .i64 i .i64 n (N.dget rs i 1 fun c=>N.rdS c 0 fun s=>M s 18446744073709551615 fun z f=>N.cmp .neq .i64 f .i64 0 (nD/\out .ret [.bool false,.int .i64 e] [cWo x (mkS 101 k),ob])
 (N.base true k k ob 28 1 fun vs=>N.appX k vs 1 [.int .u64 (z:Int)] 1 8 fun vs' k'=>N.ari .add .i64 i .i64 1 fun j=>nD/\back [pA 100,.int .i64 e,dsl rs,.int .i64 n,.int .i64 j] [cWo x (.slice (some ⟨103,0,none⟩) k' k'),none,some (.cells [.int .u64 (z:Int)] 28 1 false true),some (.cells vs' 28 1 true true)]))
 (nD/\out (.exit 0) [top,.int .i64 e] [cWo x (mkS 101 k),ob]):=by kernel_rfl
def atO(t:Int)(s:ByteArray):Option AJ:=some (.cells [.int .u8 t,.string s] 94 2 false true)
def lO(v:Value):Lv:=match v with
 | .agg ⟨l⟩=>l
 |_=>[]
def obO(v:Value)(e z:Nat):Option AJ:=some (.cells (lO v) e z false true)
def nxD(N:Nd)(rs:Lv)(n i:Int)(ob:Lo)(back:Bk):Prop:=N.ari .add .i64 i .i64 1 fun j=>nD/\back [pA 100,pA 101,pA 158,dsl rs,.int .i64 n,.int .i64 j] ob
def noD(ob:Lo)(out:Ot):Prop:=nD/\out .ret [pA 100,.int .i64 3,pA 101] ob
def goD(N:Nd)(x:BB)(w:Value)(rs:Lv)(n i:Int)(ex:Lo)(e:Int)(back:Bk)(out:Ot):Prop:=
 N.cmp .eql .i64 e .i64 0 (nxD N rs n i (rZ::cWo x w::(J5++ex)) back) (noD (rZ::cWo x w::(J5++ex)) out)
def AKq(N:Nd)(M:MDe)(x:BB)(w:Value)(rs:Lv)(n i t:Int)(s:ByteArray)(back:Bk)(out:Ot):Prop:=
 M.n s 2147483647 fun z e=>N.conv 28 3 .u64 (z:Int) .i64 fun z'=>goD N {x with a2:=z' } w rs n i [atO t s] e back out
def AKr(N:Nd)(M:MDe)(x:BB)(w:Value)(rs:Lv)(n i t:Int)(s:ByteArray)(back:Bk)(out:Ot):Prop:=
 M.n s 2147483647 fun z e=>N.conv 28 3 .u64 (z:Int) .i64 fun z'=>goD N {x with a3:=z' } w rs n i [atO t s] e back out
def AKs(N:Nd)(M:MDe)(x:BB)(w:Value)(rs:Lv)(n i t:Int)(s:ByteArray)(back:Bk)(out:Ot):Prop:=
 M.n s 2147483647 fun z e=>N.conv 28 3 .u64 (z:Int) .i64 fun z'=>goD N {x with a4:=z' } w rs n i [atO t s] e back out
def AKt(N:Nd)(M:MDe)(x:BB)(w:Value)(rs:Lv)(n i t:Int)(s:ByteArray)(back:Bk)(out:Ot):Prop:=
 M.n s 2147483647 fun z e=>N.conv 28 3 .u64 (z:Int) .i64 fun z'=>goD N {x with a5:=z' } w rs n i [atO t s] e back out
def AKu(N:Nd)(M:MDe)(x:BB)(w:Value)(rs:Lv)(n i t:Int)(s:ByteArray)(back:Bk)(out:Ot):Prop:=
 M.n s 2147483647 fun z e=>N.conv 28 3 .u64 (z:Int) .i64 fun z'=>goD N {x with a6:=z' } w rs n i [atO t s] e back out
def AKv(N:Nd)(M:MDe)(x:BB)(w:Value)(rs:Lv)(n i t:Int)(s:ByteArray)(back:Bk)(out:Ot):Prop:=
 M.n s 18446744073709551615 fun z e=>goD N {x with a7:=z} w rs n i [atO t s] e back out
def AKw(N:Nd)(M:MDe)(x:BB)(w:Value)(rs:Lv)(n i t:Int)(s:ByteArray)(back:Bk)(out:Ot):Prop:=
 M.n s 18446744073709551615 fun z e=>goD N {x with a8:=z} w rs n i [atO t s] e back out
def AKx(N:Nd)(M:MDe)(x:BB)(w:Value)(rs:Lv)(n i t:Int)(s:ByteArray)(back:Bk)(out:Ot):Prop:=
 nxD N rs n i (rZ::cWo {x with a9:=s} w::(J5++[atO t s])) back
def AKy(N:Nd)(M:MDe)(x:BB)(w:Value)(rs:Lv)(n i t:Int)(s:ByteArray)(back:Bk)(out:Ot):Prop:=
 M.w (cW x w) s fun w' b=>branch b (nxD N rs n i (rZ::cWo x w'::(J5++[atO t s])) back) (noD (rZ::cWo x w'::(J5++[atO t s])) out)
def AIV(N:Nd)(M:MDe)(x:BB)(w:Value)(rs:Lv)(n i t:Int)(s:ByteArray)(back:Bk)(out:Ot):Prop:=
 M.p0 s fun y e=>obO (QM y) 32 9=obO (QM y) 32 9/\goD N {x with n:=y} w rs n i [atO t s,obO (QM y) 32 9] e back out
def AIW(N:Nd)(M:MDe)(x:BB)(w:Value)(rs:Lv)(n i t:Int)(s:ByteArray)(back:Bk)(out:Ot):Prop:=
 M.p1 s fun y e=>obO (LC y) 34 5=obO (LC y) 34 5/\goD N {x with f:=y} w rs n i [atO t s,obO (LC y) 34 5] e back out
def AIX(N:Nd)(M:MDe)(x:BB)(w:Value)(rs:Lv)(n i t:Int)(s:ByteArray)(back:Bk)(out:Ot):Prop:=
 M.p2 s fun y e=>obO (LP y) 37 5=obO (LP y) 37 5/\goD N {x with t:=y} w rs n i [atO t s,obO (LP y) 37 5] e back out
def AIY(N:Nd)(M:MDe)(x:BB)(w:Value)(rs:Lv)(n i t:Int)(s:ByteArray)(back:Bk)(out:Ot):Prop:=
 M.p3 s fun y e=>obO (LB y) 39 11=obO (LB y) 39 11/\goD N {x with e:=y} w rs n i [atO t s,obO (LB y) 39 11] e back out
def AIZ(N:Nd)(M:MDe)(x:BB)(w:Value)(rs:Lv)(n i t:Int)(s:ByteArray)(back:Bk)(out:Ot):Prop:=
 M.p4 s fun y e=>obO (LA y) 42 2=obO (LA y) 42 2/\goD N {x with b:=y} w rs n i [atO t s,obO (LA y) 42 2] e back out
def AI0(N:Nd)(M:MDe)(x:BB)(w:Value)(rs:Lv)(n i t:Int)(s:ByteArray)(back:Bk)(out:Ot):Prop:=
 M.p5 s fun y e=>obO (LH y) 45 4=obO (LH y) 45 4/\goD N {x with g:=y} w rs n i [atO t s,obO (LH y) 45 4] e back out
def AI1(N:Nd)(M:MDe)(x:BB)(w:Value)(rs:Lv)(n i t:Int)(s:ByteArray)(back:Bk)(out:Ot):Prop:=
 M.p6 s fun y e=>obO (LM y) 47 3=obO (LM y) 47 3/\goD N {x with m:=y} w rs n i [atO t s,obO (LM y) 47 3] e back out
def AI2(N:Nd)(M:MDe)(x:BB)(w:Value)(rs:Lv)(n i t:Int)(s:ByteArray)(back:Bk)(out:Ot):Prop:=
 M.p7 s fun y e=>obO (QN y) 49 2=obO (QN y) 49 2/\goD N {x with r:=y} w rs n i [atO t s,obO (QN y) 49 2] e back out
def AI9(N:Nd)(M:MDe)(x:BB)(w:Value)(rs:Lv)(n i:Int)(back:Bk)(out:Ot):Prop:=
 wpe Tryz.prog N (AU Z0 spD [(149,sW2 M.w)] [] (puD M) []) 300 (.code false (AO Tryz.prog 17 13) (C9 100 84 [2,6,7,58,59,60] [] ([pA 100,pA 101,pA 158,dsl rs,.int .i64 n,.int .i64 i],rZ::cWo x w::J5))) (BM 100 [2,6,7,58,59,60] [2,3,6] 84 [] back out)
theorem AEN(N:Nd)(M:MDe)(x:BB)(w:Value)(rs:Lv)(n i:Int)(back:Bk)(out:Ot):AI9 N M x w rs n i back out=N.cmp .lss .i64 i .i64 n (N.dget rs i 2 fun c=>N.rdI .u8 c 0 fun t=>N.rdS c 1 fun s=>M.o (x.a0:Int) t (N.split t [False,AKq N M x w rs n i t s back out,AKr N M x w rs n i t s back out,AKs N M x w rs n i t s back out,AKt N M x w rs n i t s back out,AKu N M x w rs n i t s back out,AKv N M x w rs n i t s back out,AKw N M x w rs n i t s back out,AKx N M x w rs n i t s back out,AKy N M x w rs n i t s back out,AIV N M x w rs n i t s back out,AIW N M x w rs n i t s back out,AIX N M x w rs n i t s back out,AIY N M x w rs n i t s back out,AIZ N M x w rs n i t s back out,AI0 N M x w rs n i t s back out,AI1 N M x w rs n i t s back out,AI2 N M x w rs n i t s back out])
 (noD (rZ::cWo x w::(J5++[atO t s])) out)) (nD/\out (.exit 1) [pA 100,top,pA 101] (rZ::cWo x w::J5)):=by kernel_rfl
abbrev LDe:=Code->Nat->Lv->Lo->(BB->Prop)->Prop->Prop
def dH:Lo:=List.replicate 57 none
def AGB(L:LDe):LpS:=lpS [2,3,6] fun c n AB obs K=>L c n AB obs (fun x=>K (.exit 1) [pA 100,top,pA 101] (rZ::some (cM x)::dH)) (K .ret [pA 100,.int .i64 3,top] (rZ::none::dH))
def rZv:Value := .agg ⟨rZl⟩
def erD(e:Int):Value := .tuple ⟨[rZv,.int .i64 e]⟩
def rZk(b z:Int):Option AJ:=some (.cells ((rZl.set 0 (.int .u8 b)).set 1 (.int .u32 z)) 51 52 false true)
def xiN(N:Nd)(s:ByteArray)(K:Int->Int->Prop):Prop:=
 N.sat s 0 fun b0=>N.sat s 1 fun b1=>N.conv 5 27 .u8 b1 .u32 fun c1=>N.ari .shl .u32 c1 .u64 24 fun d1=>N.sat s 2 fun b2=>N.conv 5 27 .u8 b2 .u32 fun c2=>N.ari .shl .u32 c2 .u64 16 fun d2=>N.ari .or .u32 d1 .u32 d2 fun e2=>
  N.sat s 3 fun b3=>N.conv 5 27 .u8 b3 .u32 fun c3=>N.ari .shl .u32 c3 .u64 8 fun d3=>N.ari .or .u32 e2 .u32 d3 fun e3=>N.sat s 4 fun b4=>N.conv 5 27 .u8 b4 .u32 fun c4=>N.ari .or .u32 e3 .u32 c4 fun e4=>K b0 e4
def AI8(N:Nd)(MD:MDt)(L:LDe)(s:ByteArray)(K:Value->Prop):Prop:=wpe Tryz.prog N (AU Z0 Zp [] [(13,(84,([2,6,7,58,59,60],AGB L)))] [(37,ZR MD)] [(84,33)]) 1000 (.call 17 [(.string s)] h0) (II K)
theorem AEM(N:Nd)(MD:MDt)(L:LDe)(s:ByteArray)(K:Value->Prop):AI8 N MD L s K=N.slen s fun n=>N.cmp .lss .i64 n .i64 5 (K (erD 4)) (N.slen s fun n=>N.cmp .gtr .i64 n .i64 16384 (K (erD 5)) (N.sat s 0 fun b=>N.cmp .geq .u8 b .u8 1 (N.cmp .leq .u8 b .u8 46 (N.ssl s (some 5) none fun s'=>MD s' (fun rs=>xiN N s fun b z=>N.dlen rs fun n=>L (AO Tryz.prog 17 13) 84 [pA 100,pA 101,pA 158,dsl rs,.int .i64 n,.int .i64 0] (rZ::rZk b z::J5) (fun x=>K (.tuple ⟨[JO x,.int .i64 0]⟩)) (K (erD 3))) (K (erD 3)) (K (erD 4))) (K (erD 15))) (K (erD 15)))):=by kernel_rfl
end
end Go.Proofs.Ob
namespace Go.Proofs.Ob
open Go Go.Abs Go.Tlv
theorem sU{B:Base}{F:Nm}{w:World}{AL objs':Lo}(R:Rel 100 F (hOf 100 [] AL) B w)(hl:objs'.length=AL.length)
  (key:∀(i:Nat) o',objs'[i]?=some (some o')->∃o,AL[i]?=some (some o)/\o.own=o'.own/\(NA F B w (100+i) o->NA F B w (100+i) o')):Rel 100 F (hOf 100 [] objs') B w:=by
 have key:∀n o',(hOf 100 [] objs').get n=some o'->∃o,(hOf 100 [] AL).get n=some o/\o.own=o'.own/\(NA F B w n o->NA F B w n o'):=by
  intro n o' h
  obtain⟨h1,h2,h3⟩:=S9 h
  obtain⟨o,g1,g2,g3⟩:=key _ _ h3
  have:=Q8 (G:=100) g1
  rw[show 100+(n-100)=n by omega]at this g3
  exact⟨o,this,g2,g3⟩
 have hnx:(hOf 100 [] objs').next=(hOf 100 [] AL).next:=by show 100+objs'.length=100+AL.length;rw[hl]
 constructor
 ·intro n o' h
  obtain⟨o,g1,g2,g3⟩:=key n o' h
  exact g3 (R.obj n o g1)
 ·intro n m o o' h h' hne how
  obtain⟨x,g1,g2,_⟩:=key n o h
  obtain⟨y,k1,_,_⟩:=key m o' h'
  exact R.inj n m x y g1 k1 hne (by rw[g2];exact how)
 ·intro n h;exact R.fresh n (by rw[←hnx];exact h)
 ·exact R.glob
 ·exact R.base
 ·exact R.frame
 ·intro b i v hz
  refine⟨(R.froz b i v hz).1,fun n o h how=>?_⟩
  obtain⟨x,g1,g2,_⟩:=key n o h
  exact(R.froz b i v hz).2 n x g1 (by rw[g2];exact how)
 ·exact R.zprot
 ·exact R.os
 ·exact R.out
 ·exact R.tape
theorem JG{a m m':Lv}(h:BR m m'):BR (a++m) (a++m'):=by
 induction a with
 |nil=>exact h
 |cons v l ih=>exact .cons (.refl v) ih
theorem AGg{j k:Nat}{a r AB:Lv}{e1 z1:Nat}{lo1 ow1:Bool}{AL:Lo}{vs:Lv}{e sz:Nat}(hj:1<=j)(h0:AL[0]?=some (some (.cells (a ++ .slice (some ⟨100+j,0,none⟩) k k::r) e1 z1 lo1 ow1)))(ho:AL[j]?=some (some (.cells vs e sz true true)))
  (hv:A8 0 vs=true) (ha:A8 101 a=true) (hr:A8 101 r=true) (hvals:A8 101 AB=true) (hk:k≠0):
  Wk 100 (100+1) AB AL AB [some (.cells (a++mkS 101 k::r) e1 z1 lo1 ow1),some (.cells vs e sz true true)]:=by
 have hlt:j<AL.length:=(List.getElem?_eq_some_iff.1 ho).1
 have hτ:∀n,n<100+1->tau (100+1) [100+j] (100+AL.length) n=n:=fun n h=>PV h
 have hτ0:tau (100+1) [100+j] (100+AL.length) 101=100+j:=UB (Nat.le_refl _) (by simp)
 have hn:Names 100 1 [100+j] (100+AL.length) AB AL AB [some (.cells (a ++ .slice (some ⟨101,0,none⟩) k k::r) e1 z1 lo1 ow1),some (.cells vs e sz true true)]:=by
  refine⟨?_,rfl,by simp,fun x hx=>?_,by omega,fun i o hi=>?_⟩
  ·rw[←GY,CU hτ AB hvals]
  ·simp only[List.mem_singleton]at hx;omega
  ·rcases i with _|_|i
   ·simp only[List.getElem?_cons_zero,Option.some.injEq]at hi;subst hi
    rw[hτ _ (by omega),show 100+0-100=0 by omega,h0]
    have e3:FZ (tau (100+1) [100+j] (100+AL.length)) (a ++ .slice (some ⟨101,0,none⟩) k k::r)=a ++ .slice (some ⟨100+j,0,none⟩) k k::r:=by
     rw[GY,List.map_append,List.map_cons,←GY,←GY,CU hτ a ha,CU hτ r hr]
     simp only[GA,hτ0]
    simp only[GV,e3]
   ·simp only[List.getElem?_cons_succ,List.getElem?_cons_zero,Option.some.injEq]at hi;subst hi
    rw[show(100+(0+1):Nat)=101 from rfl,hτ0,show 100+j-100=j by omega,ho]
    have:FZ (tau (100+1) [100+j] (100+AL.length)) vs=vs:=CU (n0:=0) (fun n h=>by omega) vs hv
    simp only[GV,this]
   ·simp at hi
 exact(YF hn).trans (CQ (BR.refl _) (.cons (.cells (JG (.cons (.mark hk) (BR.refl _)))) (D7.refl _)))
theorem AGe{k:Nat}{a r AB:Lv}{e1 z1:Nat}{lo1 ow1:Bool}{A7 vs:Lv}{e sz:Nat}(hf:BU sz A7=some vs)(hb:A8 0 vs=true)(hs:0<sz)(hk:k=A7.length):
  Wk 100 (100+1) AB [some (.cells (a++mkS 101 k::r) e1 z1 lo1 ow1),mo vs e sz] AB [some (.cells (a ++ .iface mkD (.agg ⟨A7⟩)::r) e1 z1 lo1 ow1),none]:=by
 subst hk
 cases A7 with
 |nil=>
  simp only[BU,Option.some.injEq]at hf
  subst hf
  exact CQ (BR.refl _) (.cons (.cells (JG (.cons .emptyMD (BR.refl _)))) (.cons (.refl _) .nil))
 |cons r0 A7=>
  have hvs:vs≠[]:=by
   intro e
   subst e
   have:=KH hf
   simp only[List.length_nil,List.length_cons]at this
   have h2:0<(A7.length+1)*sz:=Nat.mul_pos (by omega) hs
   omega
  rw[M9 hvs]
  refine⟨rfl,fun B F w R=>?_⟩
  obtain⟨b,d,o,c,fz,q1,q2,q3,q4,q5,q6⟩:=R.obj 100 _ (Q8 (G:=100) (i:=0) rfl)
  obtain⟨xa,xr,e3,ha,hr2⟩:=VRL.split q3
  simp only[VRL]at hr2
  obtain⟨x,xr',hx,hr3,rfl⟩:=hr2
  have hW:=U0 (G:=100) (n0:=100+1) (i:=1) (AB:=AB++[mkS 101 (r0::A7).length]) (vals':=AB++[.iface mkD (.agg ⟨r0::A7⟩)]) (AL:=[some (.cells (a++mkS 101 (r0::A7).length::r) e1 z1 lo1 ow1),some (.cells vs e sz true true)]) (A7:=r0::A7) rfl hf hb hs (by simp) (fun j v v' h1 h2=>by
   rcases Nat.lt_or_ge j AB.length with hlt|hge
   ·rw[List.getElem?_append_left hlt]at h1 h2
    rw[h1]at h2;exact .inl (Option.some.inj h2).symm
   ·rw[List.getElem?_append_right hge]at h1 h2
    cases hj:j-AB.length with
    |zero=>
     rw[hj]at h1 h2
     simp only[List.getElem?_cons_zero,Option.some.injEq]at h1 h2
     subst h1;subst h2
     exact .inr ⟨rfl,_,Nat.le_refl _,.inr ⟨rfl,by simp⟩⟩
    |succ m=>rw[hj]at h1;simp at h1)
  obtain⟨F',ag,R',hv⟩:=hW.2 B F w R
  have hx':VR F' (.iface mkD (.agg ⟨r0::A7⟩)) x:=hv AB.length _ _ x (by simp) (by simp) hx
  refine⟨F',ag,sU R' rfl fun i o' hi=>?_,fun j v v' x' h1 h2 hx2=>hv j v v' x' (by rw[List.getElem?_append_left (List.getElem?_eq_some_iff.1 h1).1];exact h1) (by rw[List.getElem?_append_left (List.getElem?_eq_some_iff.1 h2).1];exact h2) hx2⟩
  rcases i with _|_|i
  ·simp only[List.getElem?_cons_zero,Option.some.injEq]at hi;subst hi
   refine⟨_,rfl,rfl,fun h=>?_⟩
   obtain⟨b',d',o',c',fz',k1,k2,k3,k4,k5,k6⟩:=h
   have hlen:(a ++ .iface mkD (.agg ⟨r0::A7⟩)::r).length=(a++mkS 101 (r0::A7).length::r).length:=by simp
   refine⟨b',d',o',c',fz',k1,k2,?_,by rw[hlen];exact k4,by rw[hlen];exact k5,k6⟩
   rw[hlen]
   obtain⟨ya,yr,e4,ha4,hr4⟩:=VRL.split k3
   simp only[VRL]at hr4
   obtain⟨y,yr',hy,hr5,rfl⟩:=hr4
   rw[e4]
   have hyx:y=x:=by
    have g1:=ag.at (n:=100) rfl q1
    have g2:F' 100=some (b',d',o'):=k1
    rw[g1]at g2
    simp only[Option.some.injEq,Prod.mk.injEq]at g2
    obtain⟨rfl,rfl,rfl⟩:=g2
    obtain⟨t1,w1,_⟩:=q2
    obtain⟨t2,w2,_⟩:=k2
    rw[w1]at w2
    simp only[Option.some.injEq,Obj.cells.injEq]at w2
    obtain⟨rfl,_,_⟩:=w2
    rw[e3]at e4
    have h5:=(List.append_inj e4 (by rw[ha.length,ha4.length])).2
    simp only[List.cons.injEq]at h5
    exact h5.1.symm
   subst hyx
   exact VRL.app ha4 (by simp only[VRL];exact⟨_,_,hx',hr5,rfl⟩)
  ·simp at hi
  ·simp at hi
end Go.Proofs.Ob
