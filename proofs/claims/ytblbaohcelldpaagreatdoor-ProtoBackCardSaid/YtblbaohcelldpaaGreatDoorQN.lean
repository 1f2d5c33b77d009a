/- . -/
import Derived.Test.YtblbaohcelldpaaGreatDoorQC
set_option linter.all false
set_option maxRecDepth 100000
namespace Go.Proofs.Ob
open Go Go.Abs Go.Tlv
noncomputable section
def AQc(L:LQt):LpS:=lpS [4] fun c n AB obs K=>L c n AB obs (K (.exit 0) [top] []) (K .ret [.bool false] [])
def gNs(N:Nd)(L:LQt)(r r2:Lv)(K:Value->Prop):Prop:=wpe Tryz.prog N (AP Z0 Zp [] [(4,(26,([0,1,5],AQc L)))] [] []) 300 (.call 41 [(dsl r),(dsl r2)] h0) (J6 K)
theorem AMc(N:Nd)(L:LQt)(r r2:Lv)(K:Value->Prop):gNs N L r r2 K=N.dlen r fun n=>N.dlen r2 fun m=>N.cmp .neq .i64 n .i64 m (K (.bool false)) (L (AJ Tryz.prog 41 4) 26 [dsl r,dsl r2,.int .i64 0] [] (K (.bool true)) (K (.bool false))):=by kernel_rfl
def AOT(N:Nd)(r r2:Lv)(i:Int)(back:Bk)(out:Ot):Prop:=
 wpe Tryz.prog N (AP Z0 Zp [] [] [] []) 300 (.code false (AJ Tryz.prog 41 4) (CX 100 26 [0,1,5] [] ([dsl r,dsl r2,.int .i64 i],[]))) (A7 100 [0,1,5] [4] 26 [] back out)
theorem AJV(N:Nd)(r r2:Lv)(i:Int)(back:Bk)(out:Ot):AOT N r r2 i back out=N.dlen r fun n=>N.cmp .lss .i64 i .i64 n (N.dget r i 1 fun ca=>N.rdI .u64 ca 0 fun za=>N.dget r2 i 1 fun cb=>N.rdI .u64 cb 0 fun zb=>N.cmp .neq .u64 za .u64 zb (nD/\out .ret [.bool false] [])
 (N.ari .add .i64 i .i64 1 fun j=>nD/\back [dsl r,dsl r2,.int .i64 j] [])) (nD/\out (.exit 0) [top] []):=by kernel_rfl
def INs(l m:List Nat)(i:StQ l m):Lv×Lo:=([dsl (rowsOf DJ l),dsl (rowsOf DJ m),.int .i64 (i.1:Int)],[])
def LNs(l m:List Nat):LQt:=fun code n AB obs A E=>code=AJ Tryz.prog 41 4/\n=26/\AB=[dsl (rowsOf DJ l),dsl (rowsOf DJ m),.int .i64 0]/\obs=[]/\l.length=m.length/\(l=m->A)/\(l≠m->E)
theorem AP7(l m:List Nat)(hl:l.length<1000000000)(hm:l.length=m.length)(i:StQ l m):Is (wpe Tryz.prog (real Tryz.prog) (AP Z0 Zp [] [] [] []) 300 (.code false (AJ Tryz.prog 41 4) (CX 100 26 [0,1,5] [] (INs l m i))) (A7 100 [0,1,5] [4] 26 []
   (fun AB AC=>∃a':StQ l m,l.length-a'.1<l.length-i.1/\Wk 100 (100+0) AB AC (INs l m a').1 (INs l m a').2/\∀e v o,RQ l m e v o->RQ l m e v o)
   (fun e AB AC=>∃v o,Wk 100 (100+0) AB AC v o/\RQ l m e v o))):=by
 refine⟨?_⟩
 obtain⟨i,inv⟩:=i
 have hi:=inv.le
 show AOT (real Tryz.prog) (rowsOf DJ l) (rowsOf DJ m) (i:Int) _ _
 rw[AJV]
 refine BI l.length (AQ _ _) (EL (fun hlt=>?_) (fun hge=>?_))
 ·have ha:l[i]?=some l[i]:=List.getElem?_eq_getElem hlt
  have hlt2:i<m.length:=by omega
  have hb2:m[i]?=some m[i]:=List.getElem?_eq_getElem hlt2
  generalize l[i]=a at ha
  generalize m[i]=b at hb2
  have hms:l.length-(i+1)<l.length-i:=by omega
  refine DK i rfl (CL ha) rfl (CG rfl (DK i rfl (CL hb2) rfl (CG rfl (MH (fun h=>?_) (fun h=>?_)))))
  ·exact⟨rfl,_,_,Wk.refl _ _ _ _,.inr ⟨fun e=>h (by rw[e,hb2]at ha;simpa using ha.symm),rfl,rfl,rfl⟩⟩
  ·have he:a=b:=h
   subst he
   exact BZ (by omega) ⟨rfl,⟨i+1,⟨hlt,M4 inv.eq ha hb2⟩⟩,hms,Wk.refl _ _ _ _,fun _ _ _ h=>h⟩
 ·have e:i=l.length:=by omega
  have h:=inv.eq
  rw[e,List.take_length,hm,List.take_length]at h
  exact⟨rfl,[top],[],Wk.refl _ _ _ _,.inl ⟨h,rfl,rfl,rfl⟩⟩
theorem ARW(l m:List Nat)(hl:l.length<1000000000):BH Tryz.prog 100 [0,1,5] (AQc (LNs l m)):=by
 show BH Tryz.prog 100 [0,1,5] (lpS [4] _)
 refine FQ okp (W:=AP Z0 Zp [] [] [] []) DC AZ ?_
 rintro cc n AB obs K ⟨hc,hn,hv,ho,hm,hA,hE⟩
 subst hc;subst hn;subst hv;subst ho
 refine⟨StQ l m,0,300,fun a=>l.length-a.1,INs l m,fun _ e v o=>RQ l m e v o,⟨0,⟨Nat.zero_le _,rfl⟩⟩,rfl,Wk.refl _ _ _ _,?_,AP7 l m hl hm⟩
 intro e v o hR
 rcases hR with⟨h1,rfl,rfl,rfl⟩ | ⟨h1,rfl,rfl,rfl⟩
 ·exact hA h1
 ·exact hE h1
theorem nsC(l m:List Nat):Is (gNs (real Tryz.prog) (LNs l m) (rowsOf DJ l) (rowsOf DJ m) (fun v=>∃b:Bool,v = .bool b/\(b=true↔l=m))):=by
 refine⟨?_⟩
 rw[AMc]
 exact BI l.length (AQ _ _) (BI m.length (AQ _ _) (MH (fun h=>⟨false,rfl,CS (fun z:List Nat=>z.length) h⟩) (fun h=>⟨rfl,rfl,rfl,rfl,h,fun h=>⟨true,rfl,fun _=>h,fun _=>rfl⟩,fun h=>⟨false,rfl,CS id h⟩⟩)))
theorem nsH(l m:List Nat)(hl:l.length<1000000000):∃b:Bool,(b=true↔l=m)/\∀B H,BM Tryz.prog 100 B 41 [dsl (rowsOf DJ l),dsl (rowsOf DJ m)] H (.returned (.bool b)) H:=
 IZ DC (GH (fun z hz=>by simp only[List.mem_singleton]at hz;subst hz;exact ARW l m hl)) rfl (nsC l m)
theorem ARO:∀x∈puR ALU (rM DJ),FY Tryz.prog 100 x.1 x.2:=fun x hx=>by
 simp only[puR,List.mem_cons,List.not_mem_nil,or_false]at hx
 rcases hx with rfl|rfl|rfl|rfl|rfl|rfl|rfl|rfl|rfl
 ·exact AF4 nsH
 ·exact VB AKU
 ·exact VB fun x y _=>AIR x y
 ·exact VB AIX
 ·exact VB AIP
 ·exact VB AIN
 ·exact VB AIT
 ·exact VB fun x y _=>AIV x y
 ·exact VB fun x y _=>AKW x y
theorem AMT(x y:A9)(hx:okP x):∃b:Bool,(b=true↔x=y)/\∀B H,BM Tryz.prog 100 B 22 [F8 x,F8 y] H (.returned (.bool b)) H:=IZ (EY ARO) AZ rfl (AMS x y hx)
theorem APS:FY Tryz.prog 100 22 (sSm (AD4 F8 okP Eq)):=ANI fun x y hx _=>AMT x y hx
def AOl:Option AA:=some (.cells [.nilFunc,.nilFunc,fn2 139 103 104,fn2 141 104 103,fn2 139 106 107,fn2 141 107 106,fn2 139 109 110,fn2 141 110 109,fn2 139 112 113,fn2 141 113 112,fn2 139 115 116,fn2 141 116 115,fn2 143 118 119,fn2 144 119 118,fn2 143 121 122,fn2 144 122 121,fnV 145,fnV 146,fnV 147,fnV 149,fn2 151 127 126,fn2 152 128 126,fn2 163 131 130,fn2 164 132 130,fn2 168 135 134,fn2 169 136 134,fn2 175 139 138,fn2 176 140 138,fn2 186 143 142,fn2 187 144 142,fn2 194 147 146,fn2 195 148 146,fn2 202 151 150,fn2 203 152 150,fn2 206 155 154,fn2 207 156 154] 92 36 false true)
def NH:Lo:=[AOl,bx [fnV 75] 128,bx [.int .u64 2147483647] 28,bp [fn2 139 103 104,fn2 141 104 103],bx [fnV 76] 128,bx [.int .u64 2147483647] 28,bp [fn2 139 106 107,fn2 141 107 106],bx [fnV 77] 128,bx [.int .u64 2147483647] 28,bp [fn2 139 109 110,fn2 141 110 109],bx [fnV 78] 128,bx [.int .u64 2147483647] 28,bp [fn2 139 112 113,fn2 141 113 112],bx [fnV 79] 128,bx [.int .u64 2147483647] 28,bp [fn2 139 115 116,fn2 141 116 115],bx [fnV 81] 131,bx [.int .u64 18446744073709551615] 28,bp [fn2 143 118 119,fn2 144 119 118],bx [fnV 82] 131,bx [.int .u64 18446744073709551615] 28,bp [fn2 143 121 122,fn2 144 122 121],bp [fnV 145,fnV 146],bp [fnV 147,fnV 149],bx [fnV 86] 135,bx [fnV 87] 136,bx [fnV 88] 137,bp [fn2 151 127 126,fn2 152 128 126],bx [fnV 90] 140,bx [fnV 91] 141,bx [fnV 92] 142,bp [fn2 163 131 130,fn2 164 132 130],bx [fnV 94] 145,bx [fnV 95] 146,bx [fnV 96] 147,bp [fn2 168 135 134,fn2 169 136 134],bx [fnV 98] 150,bx [fnV 99] 151,bx [fnV 100] 152,bp [fn2 175 139 138,fn2 176 140 138],bx [fnV 102] 155,bx [fnV 103] 156,bx [fnV 104] 157,bp [fn2 186 143 142,fn2 187 144 142],bx [fnV 106] 160,bx [fnV 107] 161,bx [fnV 108] 162,bp [fn2 194 147 146,fn2 195 148 146],bx [fnV 110] 165,bx [fnV 111] 166,bx [fnV 112] 167,bp [fn2 202 151 150,fn2 203 152 150],bx [fnV 114] 170,bx [fnV 115] 171,bx [fnV 116] 172,bp [fn2 206 155 154,fn2 207 156 154],AOl]
def cW(x:A9)(w:Value):Lv:=(lM x).set 10 w
def cWo(x:A9)(w:Value):Option AA:=some (.cells (cW x w) 51 52 false true)
abbrev MWd:=Lv->ByteArray->(Value->Bool->Prop)->Prop
def APv(H:Heap)(b:Nat):Bool:=Nat.ble 100 b&&Nat.blt b H.next
def sW2(M:MWd):Lv->Heap->VK->Prop
 | [.pointer (some ⟨b,0,none⟩),.string s],H,K=>match H.get b with
  |some (.cells vs 51 52 false true)=>match APv H b with
   |true=>M vs s fun w ok=>K (.bool ok) (IW H [b] [some (.cells (vs.set 10 w) 51 52 false true)])
   |false=>False
  |_=>False
 |_,_,_=>False
abbrev AGe:=ByteArray->Int->(Nat->Int->Prop)->Prop
def AFS(M:AGe):Lv->(Value->Prop)->Prop
 | [.string s,.int .u64 t],K=>M s t fun n e=>K (.tuple ⟨[.int .u64 (n:Int),.int .i64 e]⟩)
 |_,_=>False
def sRd{α:Type}(v:α->Value)(M:ByteArray->(α->Int->Prop)->Prop):Lv->(Value->Prop)->Prop
 | [.string s],K=>M s fun y e=>K (.tuple ⟨[v y,.int .i64 e]⟩)
 |_,_=>False
structure MDe where
 o:MOf
 n:AGe
 w:MWd
 p0:ByteArray->(EP->Int->Prop)->Prop
 p1:ByteArray->(E9->Int->Prop)->Prop
 p2:ByteArray->(EB->Int->Prop)->Prop
 p3:ByteArray->(C9->Int->Prop)->Prop
 p4:ByteArray->(ES->Int->Prop)->Prop
 p5:ByteArray->(EI->Int->Prop)->Prop
 p6:ByteArray->(FJ->Int->Prop)->Prop
 p7:ByteArray->(IJ->Int->Prop)->Prop
def puD(M:MDe):PuL:=[(34,sOf M.o),(142,AFS M.n),(88,sRd OI M.p0),(92,sRd K6 M.p1),(96,sRd K9 M.p2),(100,sRd K5 M.p3),(104,sRd K4 M.p4),(108,sRd K7 M.p5),(112,sRd K8 M.p6),(116,sRd OJ M.p7)]
def rZl:Lv:=(lM PZ).map fun v=>match v with | .iface _ _ => .slice none 0 0|v=>v
def rZ:Option AA:=some (.cells rZl 51 52 false true)
def spD(b:Nat):Bool:=Nat.beq b 158
abbrev AJr:=Code->Nat->Lv->Lo->(Nat->Option AA->Prop)->(Nat->Option AA->Prop)->Prop
def ALP(L:AJr):LpS:=lpS [4,6] fun c n AB obs K=>match AB,obs with
 | [_,e,_,_,_],[some (.cells vs 51 52 false true)]=>L c n AB obs (fun k ob=>K (.exit 0) [top,e] [some (.cells (vs.set 10 (mkS 101 k)) 51 52 false true),ob]) (fun k ob=>K .ret [.bool false,top] [some (.cells (vs.set 10 (mkS 101 k)) 51 52 false true),ob])
 |_,_=>False
def gW2(N:Nd)(ML:ZW)(L:AJr)(x:A9)(s:ByteArray)(K:RK):Prop:=wpe Tryz.prog N (AP fF Zp [] [(3,(42,([0,6,16,17,18],ALP L)))] [(150,sRL ML)] [(42,41)]) 300 (.call 149 [pA 100,(.string s)] (hOf 100 [] [cWo x (.slice none 0 0)])) (FD 100 K)
theorem AMi(N:Nd)(ML:ZW)(L:AJr)(x:A9)(s:ByteArray)(K:RK):gW2 N ML L x s K=ML s 128 (fun rs=>N.dlen rs fun n=>L (AJ Tryz.prog 149 3) 42 [pA 100,.int .i64 0,dsl rs,.int .i64 n,.int .i64 0] [cWo x (.slice none 0 0)] (fun k ob=>K (.bool true) [cWo x (mkS 101 k),ob]) (fun k ob=>K (.bool false) [cWo x (mkS 101 k),ob]))
 (N.dlen [] fun n=>L (AJ Tryz.prog 149 3) 42 [pA 100,.int .i64 3,dsl [],.int .i64 n,.int .i64 0] [cWo x (.slice none 0 0)] (fun k ob=>K (.bool false) [cWo x (mkS 101 k),ob]) (fun k ob=>K (.bool false) [cWo x (mkS 101 k),ob]))
 (N.dlen [] fun n=>L (AJ Tryz.prog 149 3) 42 [pA 100,.int .i64 4,dsl [],.int .i64 n,.int .i64 0] [cWo x (.slice none 0 0)] (fun k ob=>K (.bool false) [cWo x (mkS 101 k),ob]) (fun k ob=>K (.bool false) [cWo x (mkS 101 k),ob])):=by kernel_rfl
def APc(N:Nd)(M:AGe)(x:A9)(k:Nat)(ob:Option AA)(e:Int)(rs:Lv)(n i:Int)(back:Bk)(out:Ot):Prop:=
 wpe Tryz.prog N (AP fF Zp [] [] [(142,AFS M)] []) 300 (.code false (AJ Tryz.prog 149 3) (CX 100 42 [0,6,16,17,18] [] ([pA 100,.int .i64 e,dsl rs,.int .i64 n,.int .i64 i],[cWo x (mkS 101 k),ob]))) (A7 100 [0,6,16,17,18] [4,6] 42 [] back out)
theorem AJ3(N:Nd)(M:AGe)(x:A9)(k:Nat)(ob:Option AA)(e:Int)(rs:Lv)(n i:Int)(back:Bk)(out:Ot):APc N M x k ob e rs n i back out=N.cmp .lss .i64 i .i64 n (N.dget rs i 1 fun c=>N.rdS c 0 fun s=>M s 18446744073709551615 fun z f=>N.cmp .neq .i64 f .i64 0 (nD/\out .ret [.bool false,.int .i64 e] [cWo x (mkS 101 k),ob])
 (N.base true k k ob 28 1 fun vs=>N.appX k vs 1 [.int .u64 (z:Int)] 1 8 fun vs' k'=>N.ari .add .i64 i .i64 1 fun j=>nD/\back [pA 100,.int .i64 e,dsl rs,.int .i64 n,.int .i64 j] [cWo x (.slice (some ⟨103,0,none⟩) k' k'),none,some (.cells [.int .u64 (z:Int)] 28 1 false true),some (.cells vs' 28 1 true true)]))
 (nD/\out (.exit 0) [top,.int .i64 e] [cWo x (mkS 101 k),ob]):=by kernel_rfl
def atO(t:Int)(s:ByteArray):Option AA:=some (.cells [.int .u8 t,.string s] 94 2 false true)
def lO(v:Value):Lv:=match v with
 | .agg ⟨l⟩=>l
 |_=>[]
def obO(v:Value)(e z:Nat):Option AA:=some (.cells (lO v) e z false true)
def nxD(N:Nd)(rs:Lv)(n i:Int)(ob:Lo)(back:Bk):Prop:=N.ari .add .i64 i .i64 1 fun j=>nD/\back [pA 100,pA 101,pA 158,dsl rs,.int .i64 n,.int .i64 j] ob
def noD(ob:Lo)(out:Ot):Prop:=nD/\out .ret [pA 100,.int .i64 3,pA 101] ob
def goD(N:Nd)(x:A9)(w:Value)(rs:Lv)(n i:Int)(ex:Lo)(e:Int)(back:Bk)(out:Ot):Prop:=
 N.cmp .eql .i64 e .i64 0 (nxD N rs n i (rZ::cWo x w::(NH++ex)) back) (noD (rZ::cWo x w::(NH++ex)) out)
def ARe(N:Nd)(M:MDe)(x:A9)(w:Value)(rs:Lv)(n i t:Int)(s:ByteArray)(back:Bk)(out:Ot):Prop:=
 M.n s 2147483647 fun z e=>N.conv 28 3 .u64 (z:Int) .i64 fun z'=>goD N {x with a2:=z' } w rs n i [atO t s] e back out
def ARf(N:Nd)(M:MDe)(x:A9)(w:Value)(rs:Lv)(n i t:Int)(s:ByteArray)(back:Bk)(out:Ot):Prop:=
 M.n s 2147483647 fun z e=>N.conv 28 3 .u64 (z:Int) .i64 fun z'=>goD N {x with a3:=z' } w rs n i [atO t s] e back out
def ARg(N:Nd)(M:MDe)(x:A9)(w:Value)(rs:Lv)(n i t:Int)(s:ByteArray)(back:Bk)(out:Ot):Prop:=
 M.n s 2147483647 fun z e=>N.conv 28 3 .u64 (z:Int) .i64 fun z'=>goD N {x with a4:=z' } w rs n i [atO t s] e back out
def ARh(N:Nd)(M:MDe)(x:A9)(w:Value)(rs:Lv)(n i t:Int)(s:ByteArray)(back:Bk)(out:Ot):Prop:=
 M.n s 2147483647 fun z e=>N.conv 28 3 .u64 (z:Int) .i64 fun z'=>goD N {x with a5:=z' } w rs n i [atO t s] e back out
def ARi(N:Nd)(M:MDe)(x:A9)(w:Value)(rs:Lv)(n i t:Int)(s:ByteArray)(back:Bk)(out:Ot):Prop:=
 M.n s 2147483647 fun z e=>N.conv 28 3 .u64 (z:Int) .i64 fun z'=>goD N {x with a6:=z' } w rs n i [atO t s] e back out
def ARj(N:Nd)(M:MDe)(x:A9)(w:Value)(rs:Lv)(n i t:Int)(s:ByteArray)(back:Bk)(out:Ot):Prop:=
 M.n s 18446744073709551615 fun z e=>goD N {x with a7:=z} w rs n i [atO t s] e back out
def ARk(N:Nd)(M:MDe)(x:A9)(w:Value)(rs:Lv)(n i t:Int)(s:ByteArray)(back:Bk)(out:Ot):Prop:=
 M.n s 18446744073709551615 fun z e=>goD N {x with a8:=z} w rs n i [atO t s] e back out
def ARl(N:Nd)(M:MDe)(x:A9)(w:Value)(rs:Lv)(n i t:Int)(s:ByteArray)(back:Bk)(out:Ot):Prop:=
 nxD N rs n i (rZ::cWo {x with a9:=s} w::(NH++[atO t s])) back
def ARm(N:Nd)(M:MDe)(x:A9)(w:Value)(rs:Lv)(n i t:Int)(s:ByteArray)(back:Bk)(out:Ot):Prop:=
 M.w (cW x w) s fun w' b=>branch b (nxD N rs n i (rZ::cWo x w'::(NH++[atO t s])) back) (noD (rZ::cWo x w'::(NH++[atO t s])) out)
def AOr(N:Nd)(M:MDe)(x:A9)(w:Value)(rs:Lv)(n i t:Int)(s:ByteArray)(back:Bk)(out:Ot):Prop:=
 M.p0 s fun y e=>obO (OI y) 32 9=obO (OI y) 32 9/\goD N {x with n:=y} w rs n i [atO t s,obO (OI y) 32 9] e back out
def AOs(N:Nd)(M:MDe)(x:A9)(w:Value)(rs:Lv)(n i t:Int)(s:ByteArray)(back:Bk)(out:Ot):Prop:=
 M.p1 s fun y e=>obO (K6 y) 34 5=obO (K6 y) 34 5/\goD N {x with f:=y} w rs n i [atO t s,obO (K6 y) 34 5] e back out
def AOt(N:Nd)(M:MDe)(x:A9)(w:Value)(rs:Lv)(n i t:Int)(s:ByteArray)(back:Bk)(out:Ot):Prop:=
 M.p2 s fun y e=>obO (K9 y) 37 5=obO (K9 y) 37 5/\goD N {x with t:=y} w rs n i [atO t s,obO (K9 y) 37 5] e back out
def AOu(N:Nd)(M:MDe)(x:A9)(w:Value)(rs:Lv)(n i t:Int)(s:ByteArray)(back:Bk)(out:Ot):Prop:=
 M.p3 s fun y e=>obO (K5 y) 39 11=obO (K5 y) 39 11/\goD N {x with e:=y} w rs n i [atO t s,obO (K5 y) 39 11] e back out
def AOv(N:Nd)(M:MDe)(x:A9)(w:Value)(rs:Lv)(n i t:Int)(s:ByteArray)(back:Bk)(out:Ot):Prop:=
 M.p4 s fun y e=>obO (K4 y) 42 2=obO (K4 y) 42 2/\goD N {x with b:=y} w rs n i [atO t s,obO (K4 y) 42 2] e back out
def AOw(N:Nd)(M:MDe)(x:A9)(w:Value)(rs:Lv)(n i t:Int)(s:ByteArray)(back:Bk)(out:Ot):Prop:=
 M.p5 s fun y e=>obO (K7 y) 45 4=obO (K7 y) 45 4/\goD N {x with g:=y} w rs n i [atO t s,obO (K7 y) 45 4] e back out
def AOx(N:Nd)(M:MDe)(x:A9)(w:Value)(rs:Lv)(n i t:Int)(s:ByteArray)(back:Bk)(out:Ot):Prop:=
 M.p6 s fun y e=>obO (K8 y) 47 3=obO (K8 y) 47 3/\goD N {x with m:=y} w rs n i [atO t s,obO (K8 y) 47 3] e back out
def AOy(N:Nd)(M:MDe)(x:A9)(w:Value)(rs:Lv)(n i t:Int)(s:ByteArray)(back:Bk)(out:Ot):Prop:=
 M.p7 s fun y e=>obO (OJ y) 49 2=obO (OJ y) 49 2/\goD N {x with r:=y} w rs n i [atO t s,obO (OJ y) 49 2] e back out
def AOJ(N:Nd)(M:MDe)(x:A9)(w:Value)(rs:Lv)(n i:Int)(back:Bk)(out:Ot):Prop:=
 wpe Tryz.prog N (AP Z0 spD [(149,sW2 M.w)] [] (puD M) []) 300 (.code false (AJ Tryz.prog 17 13) (CX 100 84 [2,6,7,58,59,60] [] ([pA 100,pA 101,pA 158,dsl rs,.int .i64 n,.int .i64 i],rZ::cWo x w::NH))) (A7 100 [2,6,7,58,59,60] [2,3,6] 84 [] back out)
theorem AJP(N:Nd)(M:MDe)(x:A9)(w:Value)(rs:Lv)(n i:Int)(back:Bk)(out:Ot):AOJ N M x w rs n i back out=N.cmp .lss .i64 i .i64 n (N.dget rs i 2 fun c=>N.rdI .u8 c 0 fun t=>N.rdS c 1 fun s=>M.o (x.a0:Int) t (N.split t [False,ARe N M x w rs n i t s back out,ARf N M x w rs n i t s back out,ARg N M x w rs n i t s back out,ARh N M x w rs n i t s back out,ARi N M x w rs n i t s back out,ARj N M x w rs n i t s back out,ARk N M x w rs n i t s back out,ARl N M x w rs n i t s back out,ARm N M x w rs n i t s back out,AOr N M x w rs n i t s back out,AOs N M x w rs n i t s back out,AOt N M x w rs n i t s back out,AOu N M x w rs n i t s back out,AOv N M x w rs n i t s back out,AOw N M x w rs n i t s back out,AOx N M x w rs n i t s back out,AOy N M x w rs n i t s back out])
 (noD (rZ::cWo x w::(NH++[atO t s])) out)) (nD/\out (.exit 1) [pA 100,top,pA 101] (rZ::cWo x w::NH)):=by kernel_rfl
abbrev LDe:=Code->Nat->Lv->Lo->(A9->Prop)->Prop->Prop
def dH:Lo:=List.replicate 57 none
def ALO(L:LDe):LpS:=lpS [2,3,6] fun c n AB obs K=>L c n AB obs (fun x=>K (.exit 1) [pA 100,top,pA 101] (rZ::some (cM x)::dH)) (K .ret [pA 100,.int .i64 3,top] (rZ::none::dH))
def rZv:Value := .agg ⟨rZl⟩
def erD(e:Int):Value := .tuple ⟨[rZv,.int .i64 e]⟩
def rZk(b z:Int):Option AA:=some (.cells ((rZl.set 0 (.int .u8 b)).set 1 (.int .u32 z)) 51 52 false true)
def xiN(N:Nd)(s:ByteArray)(K:Int->Int->Prop):Prop:=
 N.sat s 0 fun b0=>N.sat s 1 fun b1=>N.conv 5 27 .u8 b1 .u32 fun c1=>N.ari .shl .u32 c1 .u64 24 fun d1=>N.sat s 2 fun b2=>N.conv 5 27 .u8 b2 .u32 fun c2=>N.ari .shl .u32 c2 .u64 16 fun d2=>N.ari .or .u32 d1 .u32 d2 fun e2=>
  N.sat s 3 fun b3=>N.conv 5 27 .u8 b3 .u32 fun c3=>N.ari .shl .u32 c3 .u64 8 fun d3=>N.ari .or .u32 e2 .u32 d3 fun e3=>N.sat s 4 fun b4=>N.conv 5 27 .u8 b4 .u32 fun c4=>N.ari .or .u32 e3 .u32 c4 fun e4=>K b0 e4
def AOI(N:Nd)(MD:MDt)(L:LDe)(s:ByteArray)(K:Value->Prop):Prop:=wpe Tryz.prog N (AP Z0 Zp [] [(13,(84,([2,6,7,58,59,60],ALO L)))] [(37,fO MD)] [(84,33)]) 1000 (.call 17 [(.string s)] h0) (J6 K)
theorem AJO(N:Nd)(MD:MDt)(L:LDe)(s:ByteArray)(K:Value->Prop):AOI N MD L s K=N.slen s fun n=>N.cmp .lss .i64 n .i64 5 (K (erD 4)) (N.slen s fun n=>N.cmp .gtr .i64 n .i64 16384 (K (erD 5)) (N.sat s 0 fun b=>N.cmp .geq .u8 b .u8 1 (N.cmp .leq .u8 b .u8 46 (N.ssl s (some 5) none fun s'=>MD s' (fun rs=>xiN N s fun b z=>N.dlen rs fun n=>L (AJ Tryz.prog 17 13) 84 [pA 100,pA 101,pA 158,dsl rs,.int .i64 n,.int .i64 0] (rZ::rZk b z::NH) (fun x=>K (.tuple ⟨[F8 x,.int .i64 0]⟩)) (K (erD 3))) (K (erD 3)) (K (erD 4))) (K (erD 15))) (K (erD 15)))):=by kernel_rfl
end
end Go.Proofs.Ob
namespace Go.Proofs.Ob
open Go Go.Abs Go.Tlv
theorem AIo{B:Base}{F:Nm}{w:World}{AC objs':Lo}(R:Rel 100 F (hOf 100 [] AC) B w)(hl:objs'.length=AC.length)
  (key:∀(i:Nat) o',objs'[i]?=some (some o')->∃o,AC[i]?=some (some o)/\o.own=o'.own/\(PH F B w (100+i) o->PH F B w (100+i) o')):Rel 100 F (hOf 100 [] objs') B w:=by
 have key:∀n o',(hOf 100 [] objs').get n=some o'->∃o,(hOf 100 [] AC).get n=some o/\o.own=o'.own/\(PH F B w n o->PH F B w n o'):=by
  intro n o' h
  obtain⟨h1,h2,h3⟩:=Y9 h
  obtain⟨o,g1,g2,g3⟩:=key _ _ h3
  have:=V9 (G:=100) g1
  rw[show 100+(n-100)=n by omega]at this g3
  exact⟨o,this,g2,g3⟩
 have hnx:(hOf 100 [] objs').next=(hOf 100 [] AC).next:=by show 100+objs'.length=100+AC.length;rw[hl]
 constructor
 ·intro n o' h
  obtain⟨o,g1,g2,g3⟩:=key n o' h
  exact g3 (R.obj n o g1)
 ·intro n m o o' h h' hne how
  obtain⟨x,g1,g2,_⟩:=key n o h
  obtain⟨y,k1,_,_⟩:=key m o' h'
  exact R.inj n m x y g1 k1 hne (by rw[g2];exact how)
 ·intro n h;exact R.fresh n (by rw[←hnx];exact h)
 ·exact R.glob
 ·exact R.base
 ·exact R.frame
 ·intro b i v hz
  refine⟨(R.froz b i v hz).1,fun n o h how=>?_⟩
  obtain⟨x,g1,g2,_⟩:=key n o h
  exact(R.froz b i v hz).2 n x g1 (by rw[g2];exact how)
 ·exact R.zprot
 ·exact R.os
 ·exact R.out
 ·exact R.tape
theorem bY{a m m':Lv}(h:DT m m'):DT (a++m) (a++m'):=by
 induction a with
 |nil=>exact h
 |cons v l ih=>exact .cons (.refl v) ih
theorem AK5{j k:Nat}{a r AB:Lv}{e1 z1:Nat}{lo1 ow1:Bool}{AC:Lo}{vs:Lv}{e sz:Nat}(hj:1<=j)(h0:AC[0]?=some (some (.cells (a ++ .slice (some ⟨100+j,0,none⟩) k k::r) e1 z1 lo1 ow1)))(ho:AC[j]?=some (some (.cells vs e sz true true)))
  (hv:BL 0 vs=true) (ha:BL 101 a=true) (hr:BL 101 r=true) (hvals:BL 101 AB=true) (hk:k≠0):
  Wk 100 (100+1) AB AC AB [some (.cells (a++mkS 101 k::r) e1 z1 lo1 ow1),some (.cells vs e sz true true)]:=by
 have hlt:j<AC.length:=(List.getElem?_eq_some_iff.1 ho).1
 have hτ:∀n,n<100+1->tau (100+1) [100+j] (100+AC.length) n=n:=fun n h=>Q6 h
 have hτ0:tau (100+1) [100+j] (100+AC.length) 101=100+j:=MZ (Nat.le_refl _) (by simp)
 have hn:Names 100 1 [100+j] (100+AC.length) AB AC AB [some (.cells (a ++ .slice (some ⟨101,0,none⟩) k k::r) e1 z1 lo1 ow1),some (.cells vs e sz true true)]:=by
  refine⟨?_,rfl,by simp,fun x hx=>?_,by omega,fun i o hi=>?_⟩
  ·rw[←MK,EA hτ AB hvals]
  ·simp only[List.mem_singleton]at hx;omega
  ·rcases i with _|_|i
   ·simp only[List.getElem?_cons_zero,Option.some.injEq]at hi;subst hi
    rw[hτ _ (by omega),show 100+0-100=0 by omega,h0]
    have e3:FE (tau (100+1) [100+j] (100+AC.length)) (a ++ .slice (some ⟨101,0,none⟩) k k::r)=a ++ .slice (some ⟨100+j,0,none⟩) k k::r:=by
     rw[MK,List.map_append,List.map_cons,←MK,←MK,EA hτ a ha,EA hτ r hr]
     simp only[F7,hτ0]
    simp only[G8,e3]
   ·simp only[List.getElem?_cons_succ,List.getElem?_cons_zero,Option.some.injEq]at hi;subst hi
    rw[show(100+(0+1):Nat)=101 from rfl,hτ0,show 100+j-100=j by omega,ho]
    have:FE (tau (100+1) [100+j] (100+AC.length)) vs=vs:=EA (n0:=0) (fun n h=>by omega) vs hv
    simp only[G8,this]
   ·simp at hi
 exact(XN hn).trans (EX (DT.refl _) (.cons (.cells (bY (.cons (.mark hk) (DT.refl _)))) (F5.refl _)))
theorem AK4{k:Nat}{a r AB:Lv}{e1 z1:Nat}{lo1 ow1:Bool}{AY vs:Lv}{e sz:Nat}(hf:DI sz AY=some vs)(hb:BL 0 vs=true)(hs:0<sz)(hk:k=AY.length):
  Wk 100 (100+1) AB [some (.cells (a++mkS 101 k::r) e1 z1 lo1 ow1),mo vs e sz] AB [some (.cells (a ++ .iface mkD (.agg ⟨AY⟩)::r) e1 z1 lo1 ow1),none]:=by
 subst hk
 cases AY with
 |nil=>
  simp only[DI,Option.some.injEq]at hf
  subst hf
  exact EX (DT.refl _) (.cons (.cells (bY (.cons .emptyMD (DT.refl _)))) (.cons (.refl _) .nil))
 |cons r0 AY=>
  have hvs:vs≠[]:=by
   intro e
   subst e
   have:=QA hf
   simp only[List.length_nil,List.length_cons]at this
   have h2:0<(AY.length+1)*sz:=Nat.mul_pos (by omega) hs
   omega
  rw[J4 hvs]
  refine⟨rfl,fun B F w R=>?_⟩
  obtain⟨b,d,o,c,fz,q1,q2,q3,q4,q5,q6⟩:=R.obj 100 _ (V9 (G:=100) (i:=0) rfl)
  obtain⟨xa,xr,e3,ha,hr2⟩:=VRL.split q3
  simp only[VRL]at hr2
  obtain⟨x,xr',hx,hr3,rfl⟩:=hr2
  have hW:=rA (G:=100) (n0:=100+1) (i:=1) (AB:=AB++[mkS 101 (r0::AY).length]) (vals':=AB++[.iface mkD (.agg ⟨r0::AY⟩)]) (AC:=[some (.cells (a++mkS 101 (r0::AY).length::r) e1 z1 lo1 ow1),some (.cells vs e sz true true)]) (AY:=r0::AY) rfl hf hb hs (by simp) (fun j v v' h1 h2=>by
   rcases Nat.lt_or_ge j AB.length with hlt|hge
   ·rw[List.getElem?_append_left hlt]at h1 h2
    rw[h1]at h2;exact .inl (Option.some.inj h2).symm
   ·rw[List.getElem?_append_right hge]at h1 h2
    cases hj:j-AB.length with
    |zero=>
     rw[hj]at h1 h2
     simp only[List.getElem?_cons_zero,Option.some.injEq]at h1 h2
     subst h1;subst h2
     exact .inr ⟨rfl,_,Nat.le_refl _,.inr ⟨rfl,by simp⟩⟩
    |succ m=>rw[hj]at h1;simp at h1)
  obtain⟨F',ag,R',hv⟩:=hW.2 B F w R
  have hx':VR F' (.iface mkD (.agg ⟨r0::AY⟩)) x:=hv AB.length _ _ x (by simp) (by simp) hx
  refine⟨F',ag,AIo R' rfl fun i o' hi=>?_,fun j v v' x' h1 h2 hx2=>hv j v v' x' (by rw[List.getElem?_append_left (List.getElem?_eq_some_iff.1 h1).1];exact h1) (by rw[List.getElem?_append_left (List.getElem?_eq_some_iff.1 h2).1];exact h2) hx2⟩
  rcases i with _|_|i
  ·simp only[List.getElem?_cons_zero,Option.some.injEq]at hi;subst hi
   refine⟨_,rfl,rfl,fun h=>?_⟩
   obtain⟨b',d',o',c',fz',k1,k2,k3,k4,k5,k6⟩:=h
   have hlen:(a ++ .iface mkD (.agg ⟨r0::AY⟩)::r).length=(a++mkS 101 (r0::AY).length::r).length:=by simp
   refine⟨b',d',o',c',fz',k1,k2,?_,by rw[hlen];exact k4,by rw[hlen];exact k5,k6⟩
   rw[hlen]
   obtain⟨ya,yr,e4,ha4,hr4⟩:=VRL.split k3
   simp only[VRL]at hr4
   obtain⟨y,yr',hy,hr5,rfl⟩:=hr4
   rw[e4]
   have hyx:y=x:=by
    have g1:=ag.at (n:=100) rfl q1
    have g2:F' 100=some (b',d',o'):=k1
    rw[g1]at g2
    simp only[Option.some.injEq,Prod.mk.injEq]at g2
    obtain⟨rfl,rfl,rfl⟩:=g2
    obtain⟨t1,w1,_⟩:=q2
    obtain⟨t2,w2,_⟩:=k2
    rw[w1]at w2
    simp only[Option.some.injEq,Obj.cells.injEq]at w2
    obtain⟨rfl,_,_⟩:=w2
    rw[e3]at e4
    have h5:=(List.append_inj e4 (by rw[ha.length,ha4.length])).2
    simp only[List.cons.injEq]at h5
    exact h5.1.symm
   subst hyx
   exact VRL.app ha4 (by simp only[VRL];exact⟨_,_,hx',hr5,rfl⟩)
  ·simp at hi
  ·simp at hi
end Go.Proofs.Ob
namespace Go.Proofs.Ob
open Go Go.Abs Go.Tlv
noncomputable section
abbrev YE:Value := .slice none 0 0
def AGd:AGe:=fun s m A=>∃t:Nat,m=t/\(∀n,UZ s.data.toList t=some n->A n 0)/\(UZ s.data.toList t=none->A 0 3)
theorem ALN:FY Tryz.prog 100 142 (AFS AGd):=by
 intro args K h
 unfold AFS at h
 split at h<;>try exact h.elim
 obtain⟨t,rfl,h1,h2⟩:=h
 exact WV _ _ ⟨t,rfl,h1,h2⟩
def MRq{α:Type}(step:α->At->Option α)(z:α):ByteArray->(α->Int->Prop)->Prop:=fun s K=>K (rdE step z s.data.toList).2 ((rdE step z s.data.toList).1:Int)
theorem zV{α:Type}{v:α->Value}{step:α->At->Option α}{z:α}{f:FuncId}(h:∀(s:ByteArray) B H,BM Tryz.prog 100 B f [.string s] H (.returned (.tuple ⟨[v (rdE step z s.data.toList).2,.int .i64 ((rdE step z s.data.toList).1:Int)]⟩)) H):FY Tryz.prog 100 f (sRd v (MRq step z)):=by
 intro args K hh
 unfold sRd at hh
 split at hh<;>try exact hh.elim
 exact⟨_,h _,hh⟩
abbrev rdW(s:ByteArray):Option Nat:=JQ s.data.toList
structure AJw(l:List ByteArray) where
 acc:List Nat
 i:Nat
 le:i<=l.length
 len:acc.length=i
 ok:M7 rdW (l.take i)=some acc
def IW2(x:A9)(e:Int)(l:List ByteArray)(p:AJw l):Lv×Lo:=([pA 100,.int .i64 e,dsl (rowsOf cSt l),.int .i64 (l.length:Int),.int .i64 (p.i:Int)],[cWo x (mkS 101 p.acc.length),mo (p.acc.flatMap DJ) 28 1])
def RW2(x:A9)(e:Int)(l:List ByteArray)(ex:Exit)(v:Lv)(o:Lo):Prop:=
 (∃acc,M7 rdW l=some acc/\ex = .exit 0/\v=[top,.int .i64 e]/\o=[cWo x (mkS 101 acc.length),mo (acc.flatMap DJ) 28 1])∨
 (∃acc:List Nat,M7 rdW l=none/\ex = .ret/\v=[.bool false,top]/\o=[cWo x (mkS 101 acc.length),mo (acc.flatMap DJ) 28 1])
theorem AGB(x:A9)(w:Value):cW x w=(lM x).take 10++w::(lM x).drop 11:=rfl
theorem AP8(x:A9)(e:Int)(l:List ByteArray)(hl:l.length<=1000)(p:AJw l):
  Is (wpe Tryz.prog (real Tryz.prog) (AP fF Zp [] [] [(142,AFS AGd)] []) 300 (.code false (AJ Tryz.prog 149 3) (CX 100 42 [0,6,16,17,18] [] (IW2 x e l p))) (A7 100 [0,6,16,17,18] [4,6] 42 []
   (fun AB AC=>∃a':AJw l,l.length-a'.i<l.length-p.i/\Wk 100 (100+1) AB AC (IW2 x e l a').1 (IW2 x e l a').2/\∀ex v o,RW2 x e l ex v o->RW2 x e l ex v o)
   (fun ex AB AC=>∃v o,Wk 100 (100+1) AB AC v o/\RW2 x e l ex v o))):=by
 refine⟨?_⟩
 obtain⟨acc,i,le,len,ok⟩:=p
 have hT:J3=140737488355328:=rfl
 show APc (real Tryz.prog) AGd x acc.length (mo (acc.flatMap DJ) 28 1) e (rowsOf cSt l) (l.length:Int) (i:Int) _ _
 rw[AJ3]
 refine EL (fun hlt=>?_) (fun hge=>?_)
 ·have hy:l[i]?=some l[i]:=List.getElem?_eq_getElem hlt
  generalize l[i]=y at hy
  have hms:l.length-(i+1)<l.length-i:=by omega
  refine DK i rfl (O1 hy) rfl (KL (z:=y) rfl ⟨18446744073709551615,rfl,fun n hn=>?_,fun hn=>?_⟩)
  ·refine MH (m:=0) (d:=0) (fun h=>absurd rfl h) (fun _=>D6 (LP (c:=DJ) (fun _=>rfl) acc) (by omega) (FV (by omega) rfl rfl (by omega) (by omega) (BZ (by omega) ⟨rfl,⟨acc++[n],i+1,hlt,by simp[len],qK hy ok hn⟩,hms,?_,fun _ _ _ h=>h⟩)))
   have hcell:acc.flatMap DJ++DJ n=(acc++[n]).flatMap DJ:=by simp
   have hacc:(acc++[n]).length=acc.length+1:=by simp
   show Wk 100 (100+1) _ _ [pA 100,.int .i64 e,dsl (rowsOf cSt l),.int .i64 (l.length:Int),.int .i64 ((i+1:Nat):Int)] [cWo x (mkS 101 (acc++[n]).length),mo ((acc++[n]).flatMap DJ) 28 1]
   rw[←hcell,J4 (by simp[DJ]),hacc]
   exact AK5 (j:=3) (a:=(lM x).take 10) (r:=(lM x).drop 11) (by omega) rfl rfl (by rw[hcell];exact sN _) rfl rfl rfl (by omega)
  ·exact MH (m:=3) (d:=0) (fun _=>⟨rfl,[.bool false,top],_,EX (.cons (.refl _) (.cons (.top _) .nil)) (F5.refl _),.inr ⟨acc,kI (f:=rdW) hy hn,rfl,rfl,rfl⟩⟩) (fun h=>absurd h (by decide))
 ·have e1:i=l.length:=by omega
  subst e1
  rw[List.take_length]at ok
  exact⟨rfl,_,_,Wk.refl _ _ _ _,.inl ⟨acc,ok,rfl,rfl,rfl⟩⟩
def AOb(x:A9):AJr:=fun c n AB obs A E=>∃(e:Int) (l:List ByteArray),l.length<=1000/\c=AJ Tryz.prog 149 3/\n=42/\AB=[pA 100,.int .i64 e,dsl (rowsOf cSt l),.int .i64 (Int.ofNat l.length),.int .i64 (0:Int)]/\obs=[cWo x YE]/\
 (∀acc,M7 rdW l=some acc->A acc.length (mo (acc.flatMap DJ) 28 1))/\(∀acc:List Nat,M7 rdW l=none->E acc.length (mo (acc.flatMap DJ) 28 1))
theorem ARX(x:A9):BH Tryz.prog 100 [0,6,16,17,18] (ALP (AOb x)):=by
 show BH Tryz.prog 100 [0,6,16,17,18] (lpS [4,6] _)
 refine FQ okp (W:=AP fF Zp [] [] [(142,AFS AGd)] []) (EY (pu1 ALN)) AZ ?_
 intro c n AB obs K h
 split at h<;>try exact h.elim
 obtain⟨e,l,hl,hc,hn,hv,ho,hA,hE⟩:=h
 subst hc;subst hn
 simp only[cWo,List.cons.injEq,Option.some.injEq,AA.cells.injEq,and_true]at hv ho
 obtain⟨rfl,rfl,rfl,rfl,rfl⟩:=hv
 subst ho
 refine⟨AJw l,1,300,fun p=>l.length-p.i,IW2 x e l,fun _ ex v o=>RW2 x e l ex v o,⟨[],0,Nat.zero_le _,rfl,rfl⟩,rfl,?_,?_,AP8 x e l hl⟩
 ·exact(EX (DT.refl _) (.cons (.cells (bY (a:=(lM x).take 10) (.cons .nilM (DT.refl _)))) .nil)).trans ACs
 intro ex v o hR
 rcases hR with⟨acc,h1,rfl,rfl,rfl⟩ | ⟨acc,h1,rfl,rfl,rfl⟩
 ·exact hA acc h1
 ·exact hE acc h1
def QW2(x:A9)(s:ByteArray):RK:=fun v AC=>∃(acc:List Nat) (b:Bool),((b=true/\F9 JQ 128 s.data.toList=some acc)∨(b=false/\F9 JQ 128 s.data.toList=none))/\Wk 100 (100+1) [v] AC [.bool b] [cWo x (dsl (rowsOf DJ acc))]
theorem ARo(n:Nat)(x:A9)(AY:Lv):BL n (cW x (dsl AY))=true:=rfl
theorem ARp(n:Nat)(x:A9):BL n (cW x YE)=true:=rfl
theorem AF3{x:A9}{b:Bool}{acc:List Nat}:Wk 100 (100+1) [.bool b] [cWo x (mkS 101 acc.length),mo (acc.flatMap DJ) 28 1] [.bool b] [cWo x (dsl (rowsOf DJ acc))]:=
 (AK4 (a:=(lM x).take 10) (r:=(lM x).drop 11) (XX (c:=DJ) (n:=1) (fun _=>rfl) acc) (sN acc) (by omega) (AQ _ _).symm).trans (I1 (k0:=1) (pre:=[cWo x (dsl (rowsOf DJ acc))]) (extra:=[none]) rfl rfl (fun i o h=>by
  cases i with
  |zero=>simp only[List.getElem?_cons_zero,Option.some.injEq]at h;rw[←h];rfl
  |succ i=>simp at h))
theorem AHH{s:List UInt8}:(HY 128 0 s).2.length<=1000:=by
 by_cases h0:(HY 128 0 s).1=0
 ·obtain⟨_,h2,_⟩:=bA s.length s 128 0 (HY 128 0 s).2 (Nat.le_refl _) (Prod.ext h0 rfl)
  rcases h2 with h2|h2
  ·omega
  ·rw[h2];simp
 ·rw[TE _ _ _ h0];simp
theorem w2C(x:A9)(s:ByteArray):Is (gW2 (real Tryz.prog) MRL (AOb x) x s (QW2 x s)):=by
 refine⟨?_⟩
 rw[AMi]
 refine⟨128,rfl,by omega,fun h0=>BI _ (AQ _ _) ⟨0,_,AHH,rfl,rfl,rfl,rfl,fun acc h=>⟨acc,true,.inl ⟨rfl,?_⟩,AF3⟩,fun acc h=>⟨acc,false,.inr ⟨rfl,?_⟩,AF3⟩⟩,fun h3=>BI 0 rfl ⟨3,[],by simp,rfl,rfl,rfl,rfl,fun acc h=>⟨acc,false,.inr ⟨rfl,?_⟩,AF3⟩,fun acc h=>⟨acc,false,.inr ⟨rfl,?_⟩,AF3⟩⟩,fun h4=>BI 0 rfl ⟨4,[],by simp,rfl,rfl,rfl,rfl,fun acc h=>⟨acc,false,.inr ⟨rfl,?_⟩,AF3⟩,fun acc h=>⟨acc,false,.inr ⟨rfl,?_⟩,AF3⟩⟩⟩
 ·unfold F9;rw[if_pos h0];exact h
 ·unfold F9;rw[if_pos h0];exact h
 all_goals(unfold F9;rw[if_neg (by omega)])
def AJt:MWd:=fun vs s A=>∃x,vs=cW x YE/\(∀ws,F9 JQ 128 s.data.toList=some ws->A (dsl (rowsOf DJ ws)) true)/\(F9 JQ 128 s.data.toList=none->∀ws:List Nat,A (dsl (rowsOf DJ ws)) false)
theorem AR7:JU Tryz.prog 100 149 (sW2 AJt):=by
 intro args H K h
 unfold sW2 at h
 split at h<;>try exact h.elim
 rename_i b s
 split at h<;>try exact h.elim
 rename_i vs hg
 split at h<;>try exact h.elim
 rename_i hp
 obtain⟨x,rfl,hA,hE⟩:=h
 obtain⟨v,AC,⟨acc,ok,hb,hw⟩,hC⟩:=LM (EY (F6 AFm)) (lp1 (ARX x)) (w2C x s)
 have hC2:∀B,BM Tryz.prog 100 B 149 [pA 100,.string s] (hOf 100 [] [cWo x YE]) (.returned (.bool ok)) (hOf 100 [] [cWo x (dsl (rowsOf DJ acc))]):=fun B=>IM (hC B) hw
 unfold APv at hp
 simp only[Bool.and_eq_true]at hp
 have hp1:=Nat.le_of_ble_eq_true hp.1
 have hp2:b<H.next:=Nat.le_of_ble_eq_true hp.2
 have hL:∀B,BM Tryz.prog 100 B 149 [.pointer (some ⟨b,0,none⟩),.string s] H (.returned (.bool ok)) (IW H [b] [some (.cells (cW x (dsl (rowsOf DJ acc))) 51 52 false true)]):=by
  intro B
  have hτ:tau 100 [b] H.next 100=b:=MZ (Nat.le_refl _) rfl
  have e0:FE (tau 100 [b] H.next) (cW x YE)=cW x YE:=EA (n0:=0) (fun n h=>by omega) _ (ARp 0 x)
  have e9:FE (tau 100 [b] H.next) (cW x (dsl (rowsOf DJ acc)))=cW x (dsl (rowsOf DJ acc)):=EA (n0:=0) (fun n h=>by omega) _ (ARo 0 x _)
  have h2:=qG (ins:=[cWo x YE]) (upd:=[cWo x (dsl (rowsOf DJ acc))]) (new:=[]) rfl (fun i hi=>by cases i<;>simp[cWo]at hi) rfl hC2 (H:=H) (ns:=[b]) rfl (by simp) (fun m hm=>by simp only[List.mem_singleton]at hm;subst hm;exact⟨hp1,hp2⟩)
   (fun i o hi=>by
    cases i with
    |succ i=>simp at hi
    |zero=>
     simp only[cWo,List.getElem?_cons_zero,Option.some.injEq]at hi;subst hi
     exact⟨b,rfl,by rw[hg];show _=some (AA.cells (FE (tau 100 [b] H.next) (cW x YE)) 51 52 false true);rw[e0]⟩) B
  have e1:FE (tau 100 [b] H.next) [pA 100,.string s]=[.pointer (some ⟨b,0,none⟩),.string s]:=by simp only[FE,pA,F7,hτ]
  rw[e1]at h2
  simp only[mH,F7,List.map_cons,List.map_nil,cWo,Option.map_some,G8,e9]at h2
  exact h2
 rcases hb with⟨rfl,hx⟩ | ⟨rfl,hx⟩
 ·exact⟨_,_,hL,hA acc hx⟩
 ·exact⟨_,_,hL,hE hx acc⟩
end
end Go.Proofs.Ob
