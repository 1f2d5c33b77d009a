/- . -/
import Derived.Test.YtblbaohcelldpaaGreatDoorS1
import Derived.Test.YtblbaohcelldpaaGreatDoorN1
import Derived.Test.YtblbaohcelldpaaGreatDoorWA
set_option linter.all false
set_option maxRecDepth 100000
namespace Go.Tlv
open Go Go.Abs
def OO(l:List At)(k:Nat)(s:ByteArray):List At:=if s.data.toList=[]then l else l++[⟨k,s⟩]
def addN(l:List At)(k n:Nat):List At:=OO l k (bytesOf (I5 n))
def atC(a:At):List Value:=[.int .u8 (a.t:Int),.string a.v]
def DD(l:List At):List Value:=l.flatMap atC
theorem VO(l m:List At):DD (l++m)=DD l++DD m:=by simp[DD]
theorem VP(l:List At):(DD l).length=l.length*2:=by
 induction l with
 |nil=>rfl
 |cons a l ih=>show((atC a)++DD l).length=_;rw[List.length_append,ih,List.length_cons];simp[atC];omega
theorem KE(l:List At):A8 0 (DD l)=true:=by
 induction l with
 |nil=>rfl
 |cons a l ih=>show(true&&(true&&A8 0 (DD l)))=true;rw[ih];rfl
theorem AGo(l:List At):BU 2 (l.map AH6)=some (DD l):=by
 induction l with
 |nil=>rfl
 |cons a l ih=>
  show BU 2 (.agg ⟨[.int .u8 (a.t:Int),.string a.v]⟩::l.map AH6)=_
  simp only[BU,ih];rfl
theorem AEq{l:List At}{k:Nat}{s:ByteArray}(h:l≠[]):OO l k s≠[]:=by
 unfold OO;split
 ·exact h
 ·simp
def okI(n:Int):Bool:=decide (0<=n)&&decide (n<=2147483647)
structure Arm where
 v:Nat
 nx:Int
structure Instr where
 op:Nat
 to:Int
 ak:Nat
 an:Nat
 bk:Nat
 bn:Nat
 n:Int
structure EP where
 w:Nat
 b:Int
def FV(x:Arm):List Value:=[.int .u32 (x.v:Int),.int .i64 x.nx]
def CO(x:Instr):List Value:=[.int .u8 (x.op:Int),.int .i64 x.to,.int .u8 (x.ak:Int),.int .u64 (x.an:Int),.int .u8 (x.bk:Int),.int .u64 (x.bn:Int),.int .i64 x.n]
def CF(x:EP):List Value:=[.int .u64 (x.w:Int),.int .i64 x.b]
def G7(n:Int):List Value:=[.int .i64 n]
def rowsOf{α:Type}(c:α->List Value)(l:List α):List Value:=l.map fun x => .agg ⟨c x⟩
theorem E5{α:Type}{c:α->List Value}{l:List α}{i:Nat}{x:α}(h:l[i]?=some x):(rowsOf c l)[i]?=some (.agg ⟨c x⟩):=by unfold rowsOf;rw[List.getElem?_map,h];rfl
theorem BJ{α:Type}(c:α->List Value)(l:List α):(rowsOf c l).length=l.length:=by simp[rowsOf]
def AHW(x:Arm):Bool:=!okI x.nx
def vY(x:Instr):Bool:=!(okI x.to&&okI x.n)
def nN(x:EP):Bool:=!okI x.b
def CS(n:Nat):List Value:=[.int .u64 (n:Int)]
structure DX where
 id:Int
 size:Int
 lo:Int
 lw:Int
 lu:Int
 so:Int
 sw:Int
 arms:List Arm
 ot:Int
def QM(x:DX):Value := .agg ⟨[.int .i64 x.id,.int .i64 x.size,.int .i64 x.lo,.int .i64 x.lw,.int .i64 x.lu,.int .i64 x.so,.int .i64 x.sw,dsl (rowsOf FV x.arms),.int .i64 x.ot]⟩
def O4(x:DX):Bool:=[x.id,x.size,x.lo,x.lw,x.lu,x.so,x.sw,x.ot].all okI&&(decide ((x.arms.length:Int)<=32)&&!x.arms.any AHW)
def O0(x:DX):Prop:=x.arms.length<1000000000
structure EJ where
 id:Int
 base:Nat
 node:Int
 off:Int
 wid:Int
def LC(x:EJ):Value := .agg ⟨[.int .i64 x.id,.int .u8 (x.base:Int),.int .i64 x.node,.int .i64 x.off,.int .i64 x.wid]⟩
def M5(x:EJ):Bool:=[x.id,x.node,x.off,x.wid].all okI
def XE(_x:EJ):Prop:=True
structure DC where
 id:Int
 kind:Nat
 keys:List Int
 cap:Int
 miss:Int
def LP(x:DC):Value := .agg ⟨[.int .i64 x.id,.int .u8 (x.kind:Int),dsl (rowsOf G7 x.keys),.int .i64 x.cap,.int .i64 x.miss]⟩
def M8(x:DC):Bool:=[x.id,x.cap,x.miss].all okI&&(decide ((x.keys.length:Int)<=4)&&x.keys.all okI)
def MU(x:DC):Prop:=x.keys.length<1000000000
structure CJ where
 tab:Int
 key:ByteArray
 oth:ByteArray
 len:Int
 prio:Int
 blk:Int
 args:List Nat
 idle:Int
 hard:Int
 cook:Nat
 tell:Bool
def LB(x:CJ):Value := .agg ⟨[.int .i64 x.tab,.string x.key,.string x.oth,.int .i64 x.len,.int .i64 x.prio,.int .i64 x.blk,dsl (rowsOf CS x.args),.int .i64 x.idle,.int .i64 x.hard,.int .u64 (x.cook:Int),.bool x.tell]⟩
def M0(x:CJ):Bool:=[x.tab,x.len,x.prio,x.blk].all okI&&(decide (0<=x.idle)&&(decide (0<=x.hard)&&(decide ((x.key.data.toList.length:Int)<=32)&&(decide ((x.oth.data.toList.length:Int)<=32)&&decide ((x.args.length:Int)<=4)))))
def MP(x:CJ):Prop:=x.args.length<1000000000
structure D6 where
 id:Int
 code:List Instr
def LA(x:D6):Value := .agg ⟨[.int .i64 x.id,dsl (rowsOf CO x.code)]⟩
def MZ(x:D6):Bool:=[x.id].all okI&&(decide ((x.code.length:Int)<=32)&&!x.code.any vY)
def MM(x:D6):Prop:=x.code.length<1000000000
structure DL where
 id:Int
 kind:Nat
 fld:Int
 bks:List EP
def LH(x:DL):Value := .agg ⟨[.int .i64 x.id,.int .u8 (x.kind:Int),.int .i64 x.fld,dsl (rowsOf CF x.bks)]⟩
def M6(x:DL):Bool:=[x.id,x.fld].all okI&&(decide ((x.bks.length:Int)<=16)&&!x.bks.any nN)
def MQ(x:DL):Prop:=x.bks.length<1000000000
structure EQ where
 id:Int
 rate:Int
 burst:Int
def LM(x:EQ):Value := .agg ⟨[.int .i64 x.id,.int .i64 x.rate,.int .i64 x.burst]⟩
def M7(x:EQ):Bool:=[x.id].all okI&&(decide (0<=x.rate)&&decide (0<=x.burst))
def XF(_x:EQ):Prop:=True
structure GR where
 id:Int
 size:Int
def QN(x:GR):Value := .agg ⟨[.int .i64 x.id,.int .i64 x.size]⟩
def O5(x:GR):Bool:=[x.id,x.size].all okI
def bB(_x:GR):Prop:=True
abbrev slen(s:ByteArray):Nat:=s.data.toList.length
def y9:List ByteArray->Nat
 | []=>0
 |s::l=>if 65535<slen s then 5 else y9 l
def AJp(s:ByteArray):List UInt8:=two (slen s)++s.data.toList
def vQ(l:List ByteArray):List UInt8:=l.flatMap AJp
def QB(l:List ByteArray):List UInt8:=if y9 l=0 then vQ l else[]
def EL(n:Int):Nat:=(n % 18446744073709551616).toNat
theorem KM(n:Int):EL n<18446744073709551616:=by unfold EL;omega
def lG(x:Arm):List At:=addN (addN [] 1 (EL x.v)) 2 (EL x.nx)
def YL(x:Instr):List At:=addN (addN (addN (addN (addN (addN (addN [] 1 (EL x.op)) 2 (EL x.to)) 3 (EL x.ak)) 4 x.an) 5 (EL x.bk)) 6 x.bn) 7 (EL x.n)
def VJ(x:EP):List At:=addN (addN [] 1 x.w) 2 (EL x.b)
def AGc(x:Instr):Prop:=x.an<18446744073709551616/\x.bn<18446744073709551616
def uC(x:EP):Prop:=x.w<18446744073709551616
def AEa(n:Nat):Prop:=n<18446744073709551616
def eB(x:Arm):ByteArray:=bytesOf (encS (lG x))
def TG(x:Instr):ByteArray:=bytesOf (encS (YL x))
def QH(x:EP):ByteArray:=bytesOf (encS (VJ x))
def nM(n:Int):ByteArray:=bytesOf (I5 (EL n))
def OB(n:Nat):ByteArray:=bytesOf (I5 n)
def AGQ(l:List At)(k:Nat)(b:Bool):List At:=if b=true then addN l k 1 else l
def MC(x:DX):List At:=OO (addN (addN (addN (addN (addN (addN (addN (addN [] 1 (EL x.id)) 2 (EL x.size)) 3 (EL x.lo)) 4 (EL x.lw)) 5 (EL x.lu)) 6 (EL x.so)) 7 (EL x.sw)) 8 (EL x.ot)) 9 (bytesOf (QB (x.arms.map eB)))
def wZ(_x:DX):Prop:=True
def JZ(x:EJ):List At:=addN (addN (addN (addN (addN [] 1 (EL x.id)) 2 (EL x.base)) 3 (EL x.node)) 4 (EL x.off)) 5 (EL x.wid)
def nZ(_x:EJ):Prop:=True
def J4(x:DC):List At:=addN (addN (OO (addN (addN [] 1 (EL x.id)) 2 (EL x.kind)) 3 (bytesOf (QB (x.keys.map nM)))) 4 (EL x.cap)) 5 (EL x.miss)
def oF(_x:DC):Prop:=True
def JY(x:CJ):List At:=AGQ (addN (addN (addN (OO (addN (addN (addN (OO (OO (addN [] 1 (EL x.tab)) 2 x.key) 3 x.oth) 4 (EL x.len)) 5 (EL x.prio)) 6 (EL x.blk)) 7 (bytesOf (QB (x.args.map OB)))) 8 (EL x.idle)) 9 (EL x.hard)) 10 x.cook) 11 x.tell
def nY(x:CJ):Prop:=(∀y∈x.args,AEa y)/\x.cook<18446744073709551616
def JX(x:D6):List At:=OO (addN [] 1 (EL x.id)) 2 (bytesOf (QB (x.code.map TG)))
def nX(x:D6):Prop:=∀y∈x.code,AGc y
def J2(x:DL):List At:=OO (addN (addN (addN [] 1 (EL x.id)) 2 (EL x.kind)) 3 (EL x.fld)) 4 (bytesOf (QB (x.bks.map QH)))
def oC(x:DL):Prop:=∀y∈x.bks,uC y
def J3(x:EQ):List At:=addN (addN (addN [] 1 (EL x.id)) 2 (EL x.rate)) 3 (EL x.burst)
def oD(_x:EQ):Prop:=True
def MF(x:GR):List At:=addN (addN [] 1 (EL x.id)) 2 (EL x.size)
def w9(_x:GR):Prop:=True
structure BB where
 a0:Nat
 a1:Nat
 a2:Int
 a3:Int
 a4:Int
 a5:Int
 a6:Int
 a7:Nat
 a8:Nat
 a9:ByteArray
 a10:List Nat
 n:DX
 f:EJ
 t:DC
 e:CJ
 b:D6
 g:DL
 m:EQ
 r:GR
def JO(x:BB):Value := .agg ⟨[.int .u8 (x.a0:Int),.int .u32 (x.a1:Int),.int .i64 x.a2,.int .i64 x.a3,.int .i64 x.a4,.int .i64 x.a5,.int .i64 x.a6,.int .u64 (x.a7:Int),.int .u64 (x.a8:Int),.string x.a9,dsl (rowsOf CS x.a10),.int .i64 x.n.id,.int .i64 x.n.size,.int .i64 x.n.lo,.int .i64 x.n.lw,.int .i64 x.n.lu,.int .i64 x.n.so,.int .i64 x.n.sw,dsl (rowsOf FV x.n.arms),.int .i64 x.n.ot,.int .i64 x.f.id,.int .u8 (x.f.base:Int),.int .i64 x.f.node,.int .i64 x.f.off,.int .i64 x.f.wid,.int .i64 x.t.id,.int .u8 (x.t.kind:Int),dsl (rowsOf G7 x.t.keys),.int .i64 x.t.cap,.int .i64 x.t.miss,.int .i64 x.e.tab,.string x.e.key,.string x.e.oth,.int .i64 x.e.len,.int .i64 x.e.prio,.int .i64 x.e.blk,dsl (rowsOf CS x.e.args),.int .i64 x.e.idle,.int .i64 x.e.hard,.int .u64 (x.e.cook:Int),.bool x.e.tell,.int .i64 x.b.id,dsl (rowsOf CO x.b.code),.int .i64 x.g.id,.int .u8 (x.g.kind:Int),.int .i64 x.g.fld,dsl (rowsOf CF x.g.bks),.int .i64 x.m.id,.int .i64 x.m.rate,.int .i64 x.m.burst,.int .i64 x.r.id,.int .i64 x.r.size]⟩
def AHU(x:DX):Prop:=O0 x/\wZ x/\x.arms.length<1000
def AFz(x:EJ):Prop:=XE x/\nZ x/\True
def AFF(x:DC):Prop:=MU x/\oF x/\x.keys.length<1000
def AFy(x:CJ):Prop:=MP x/\nY x/\x.args.length<1000
def AFx(x:D6):Prop:=MM x/\nX x/\x.code.length<1000
def AFA(x:DL):Prop:=MQ x/\oC x/\x.bks.length<1000
def AFE(x:EQ):Prop:=XF x/\oD x/\True
def AHV(x:GR):Prop:=bB x/\w9 x/\True
theorem LV{α:Type}{c:α->List Value}{n:Nat}(hc:∀x,(c x).length=n)(l:List α):BU n (rowsOf c l)=some (l.flatMap c):=by
 induction l with
 |nil=>rfl
 |cons a l ih=>
  show BU n (.agg ⟨c a⟩::rowsOf c l)=_
  simp only[BU,ih,hc a,Nat.beq_refl,List.flatMap_cons]
theorem MG{α:Type}{c:α->List Value}(hc:∀x m,A8 0 m=true->A8 0 (c x++m)=true)(l:List α):A8 0 (l.flatMap c)=true:=by
 induction l with
 |nil=>rfl
 |cons a l ih=>rw[List.flatMap_cons];exact hc a _ ih
end Go.Tlv
namespace Go.Proofs.Ob
open Go Go.Abs Go.Tlv
noncomputable section
abbrev RK:=Value->List (Option AJ)->Prop
def h0:Heap:=hOf 100 [] []
theorem t5:Tryz.prog.underlying 5=some (.int .u8):=by kernel_rfl
end
end Go.Proofs.Ob
namespace Go.Abs
open Go
noncomputable section
section
variable {P:Program} {G:Nat} {B:Base}
theorem AFN{F:Nm}{w:World}{AL:List (Option AJ)}(R:Rel G F (hOf G [] AL) B w):Rel G F (hOf G [] (AL++[none])) B w:=by
 have key:∀n o,(hOf G [] (AL++[none])).get n=some o->(hOf G [] AL).get n=some o:=by
  intro n o h
  obtain⟨h1,h2,h3⟩:=S9 h
  rw[List.getElem?_append]at h3
  split at h3
  ·have:=Q8 (G:=G) h3
   rw[show G+(n-G)=n by omega]at this;exact this
  ·rename_i hge
   rw[List.getElem?_singleton]at h3
   split at h3<;>cases h3
 constructor
 ·intro n o h;exact R.obj n o (key n o h)
 ·intro n m o o' h h' hne how;exact R.inj n m o o' (key n o h) (key m o' h') hne how
 ·intro n h
  refine R.fresh n ?_
  have h:G+(AL++[none]).length<=n:=h
  rw[List.length_append]at h
  show G+AL.length<=n
  omega
 ·exact R.glob
 ·exact R.base
 ·exact R.frame
 ·intro b i v hz;exact⟨(R.froz b i v hz).1,fun n o h how=>(R.froz b i v hz).2 n o (key n o h) how⟩
 ·exact R.zprot
 ·exact R.os
 ·exact R.out
 ·exact R.tape
theorem xD{n0:Nat}{AB:List Value}{AL:List (Option AJ)}:Wk G n0 AB AL AB (AL++[none]):=
 ⟨rfl,fun B F w R=>⟨F,Agree.refl _ _,AFN R,fun i v v' x h1 h2 h=>by rw[h1]at h2;simp only[Option.some.injEq]at h2;subst h2;exact h⟩⟩
theorem AIq{n0:Nat}{τ:Nat->Nat}{AB vals':List Value}{AL objs':List (Option AJ)}(hv:AB=vals'.map (GA τ))(hG:G<=n0)(h0:∀n,n<n0->τ n=n)(hge:∀n,G<=n->G<=τ n)(hfr:∀n,G+objs'.length<=n->G+AL.length<=τ n)
  (hinj:∀(i j:Nat) o o',objs'[i]?=some (some o)->objs'[j]?=some (some o')->τ (G+i)=τ (G+j)->i=j) (ho:∀(i:Nat) o,objs'[i]?=some (some o)->AL[τ (G+i)-G]?=some (some (GV τ o))):Wk G n0 AB AL vals' objs':=by
 refine⟨by rw[hv,List.length_map],fun B F w R=>⟨F.re τ,⟨fun n hn => .inl (by simp only[Nm.re,h0 n hn]),ND _⟩,?_,fun i v v' x h1 h2 hx=>?_⟩⟩
 ·have hget:∀n o,(hOf G [] objs').get n=some o->G<=n/\objs'[n-G]?=some (some o)/\(hOf G [] AL).get (τ n)=some (GV τ o):=by
   intro n o h
   obtain⟨h1,h2,h3⟩:=S9 h
   have h4:=Q8 (G:=G) (ho _ _ h3)
   have e1:G+(n-G)=n:=by omega
   rw[e1]at h4
   have h5:=hge n h1
   rw[show G+(τ n-G)=τ n by omega]at h4
   exact⟨h1,h3,h4⟩
  constructor
  ·intro n o h
   exact QG (R.obj _ _ (hget n o h).2.2)
  ·intro n m o o' h h' hne how
   obtain⟨g1,g2,g3⟩:=hget n o h
   obtain⟨k1,k2,k3⟩:=hget m o' h'
   refine R.inj _ _ _ _ g3 k3 (fun e=>hne ?_) (by rw[EX];exact how)
   have:=hinj (n-G) (m-G) o o' g2 k2 (by rw[show G+(n-G)=n by omega,show G+(m-G)=m by omega];exact e)
   omega
  ·intro n h
   exact R.fresh _ (hfr n h)
  ·intro g hg
   simp only[Nm.re,h0 g (by omega)];exact R.glob g hg
  ·exact R.base
  ·exact R.frame
  ·intro b i v hz
   exact⟨(R.froz b i v hz).1,fun n o hn how=>(R.froz b i v hz).2 _ _ (hget n o hn).2.2 (by rw[EX];exact how)⟩
  ·exact R.zprot
  ·exact R.os
  ·exact R.out
  ·exact R.tape
 ·rw[hv,List.getElem?_map,h2]at h1
  simp only[Option.map_some,Option.some.injEq]at h1
  rw[←h1]at hx
  exact(SE _ _).1 hx
theorem I8{k0:Nat}{AB:List Value}{pre extra:List (Option AJ)}(hk:pre.length=k0)(hv:A8 (G+k0) AB=true)(ho:∀(i:Nat) o,pre[i]?=some (some o)->C8 (G+k0) (some o)=true):Wk G (G+k0) AB (pre++extra) AB pre:=by
 have hτ:∀n,n<G+k0->(if n<G+k0 then n else n+extra.length)=n:=fun n h=>if_pos h
 refine AIq (τ:=fun n=>if n<G+k0 then n else n+extra.length) ?_ (by omega) hτ (fun n hn=>?_) (fun n hn=>?_) (fun i j o o' hi hj e=>?_) (fun i o hi=>?_)
 ·rw[←GY,CU hτ AB hv]
 ·show G<=if n<G+k0 then n else n+extra.length
  split<;>omega
 ·show G+(pre++extra).length<=if n<G+k0 then n else n+extra.length
  rw[if_neg (by omega),List.length_append];omega
 ·have h1:=(List.getElem?_eq_some_iff.1 hi).1
  have h2:=(List.getElem?_eq_some_iff.1 hj).1
  simp only[hτ _ (show G+i<G+k0 by omega),hτ _ (show G+j<G+k0 by omega)]at e
  omega
 ·have h1:=(List.getElem?_eq_some_iff.1 hi).1
  simp only[hτ _ (show G+i<G+k0 by omega),Nat.add_sub_cancel_left]
  rw[List.getElem?_append_left h1,hi]
  exact congrArg (fun x=>some (some x)) (VW hτ (ho i o hi)).symm
theorem KN{k0 j k:Nat}{va rest:List Value}{AL pre:List (Option AJ)}{vs:List Value}{e sz:Nat}(hj:k0<=j)(ho:AL[j]?=some (some (.cells vs e sz true true)))(hv:A8 0 vs=true)(hva:A8 (100+k0) va=true)(hr:A8 (100+k0) rest=true)(hk:k≠0)
  (hp:pre.length=k0) (hpre:∀(i:Nat) o,pre[i]?=some (some o)->AL[i]?=some (some o)/\C8 (100+k0) (some o)=true):
  Wk 100 (100+k0) (va ++ .slice (some ⟨100+j,0,none⟩) k k::rest) AL (va++mkS (100+k0) k::rest) (pre++[some (.cells vs e sz true true)]):=by
 have hlt:j<AL.length:=(List.getElem?_eq_some_iff.1 ho).1
 have hτ:∀n,n<100+k0->tau (100+k0) [100+j] (100+AL.length) n=n:=fun n h=>PV h
 have hτ0:tau (100+k0) [100+j] (100+AL.length) (100+k0)=100+j:=UB (Nat.le_refl _) (by simp)
 have hn:Names 100 k0 [100+j] (100+AL.length) (va ++ .slice (some ⟨100+j,0,none⟩) k k::rest) AL (va ++ .slice (some ⟨100+k0,0,none⟩) k k::rest) (pre++[some (.cells vs e sz true true)]):=by
  refine⟨?_,by rw[List.length_append,hp];rfl,by simp,fun x hx=>?_,by omega,fun i o hi=>?_⟩
  ·rw[List.map_append,List.map_cons,←GY,←GY,CU hτ va hva,CU hτ rest hr]
   simp only[GA,hτ0]
  ·simp only[List.mem_singleton]at hx;omega
  ·rw[List.getElem?_append]at hi
   split at hi
   ·rename_i hlt2
    obtain⟨h1,h2⟩:=hpre i o hi
    rw[hτ _ (by omega),show 100+i-100=i by omega,VW hτ h2];exact h1
   ·rename_i hge
    have hi0:i=k0:=by
     have:=(List.getElem?_eq_some_iff.1 hi).1
     simp only[List.length_singleton]at this;omega
    subst hi0
    rw[hp,Nat.sub_self]at hi
    simp only[List.getElem?_cons_zero,Option.some.injEq]at hi;subst hi
    rw[hτ0,show 100+j-100=j by omega,ho]
    have:FZ (tau (100+i) [100+j] (100+AL.length)) vs=vs:=CU (n0:=0) (fun n h=>by omega) vs hv
    simp only[GV,this]
 refine(YF hn).trans (CQ ?_ (D7.refl _))
 have happ:∀l m m':List Value,BR m m'->BR (l++m) (l++m'):=by
  intro l m m' h
  induction l with
  |nil=>exact h
  |cons v l ih=>exact .cons (.refl v) ih
 exact happ _ _ _ (.cons (.mark hk) (BR.refl _))
theorem L6{n0 b:Nat}{va rest:List Value}{AL:List (Option AJ)}:Wk G n0 (va ++ .slice none 0 0::rest) AL (va++mkS b 0::rest) (AL++[none]):=by
 have happ:∀l m m':List Value,BR m m'->BR (l++m) (l++m'):=by
  intro l m m' h
  induction l with
  |nil=>exact h
  |cons v l ih=>exact .cons (.refl v) ih
 exact(CQ (happ _ _ _ (.cons .nilM (BR.refl _))) (D7.refl _)).trans xD
abbrev LK:=Exit->List Value->List (Option AJ)->Prop
abbrev LF:=Code->Nat->List Value->List (Option AJ)->LK->Prop
def lpS(live2:List Nat)(F:LF):LpS:=fun c n AB ds h Q=>match ds with
 | []=>match Nat.ble 100 h.next with
  |true=>F c n AB (CY 100 h) (fun e v o=>Q (.ex e (C9 100 n live2 [] (v,o))))
  |false=>False
 |_=>False
theorem FW(hP:CV P 100=true){W:How}(hkn:QP P 100 W)(hlp:QQ P 100 W){live live2:List Nat}{F:LF}
  (h:∀c n AB obs K,F c n AB obs K->∃(α:Type) (k0 fuel:Nat) (m:α->Nat) (I:α->List Value×List (Option AJ)) (R:α->LK) (a:α),obs.length=k0/\Wk 100 (100+k0) AB obs (I a).1 (I a).2/\(∀e v o,R a e v o->K e v o)/\
   ∀a,Is (wpe P (real P) W fuel (.code false c (C9 100 n live [] (I a))) (BM 100 live live2 n []
   (fun AB AL=>∃a',m a' < m a/\Wk 100 (100+k0) AB AL (I a').1 (I a').2/\∀e v o,R a' e v o->R a e v o)
   (fun e AB AL=>∃v o,Wk 100 (100+k0) AB AL v o/\R a e v o)))):BH P 100 live (lpS live2 F):=by
 intro c n AB ds hh Q hs
 unfold lpS at hs
 split at hs
 ·split at hs
  ·rename_i hle
   obtain⟨α,k0,fuel,m,I,R,a,h1,h2,h3,h4⟩:=h _ _ _ _ _ hs
   obtain⟨e,v,o,g1,g2⟩:=zD hP hkn hlp (live:=live) (live2:=live2) (ds:=[]) rfl m I R h4 a h1 h2 (Nat.le_of_ble_eq_true hle)
   exact⟨_,g2,h3 _ _ _ g1⟩
  ·exact hs.elim
 ·exact hs.elim
theorem uT{f:FuncId}{args args':List Value}{H H':Heap}{e:Ending}(hw:BR args args')(h:BP P G B f args' H e H'):BP P G B f args H e H':=
 fun F w x R ha=>h F w x R (hw.ok ha)
theorem VRL.app{F:Nm}:∀ {l m l' m':List Value},VRL F l l'->VRL F m m'->VRL F (l++m) (l'++m')
 | [],m,l',m',h,h2=>by simp only[VRL]at h;subst h;exact h2
 |v::l,m,l',m',h,h2=>by
  simp only[VRL]at h
  obtain⟨v',r',g1,g2,e⟩:=h
  subst e
  simp only[List.cons_append,VRL]
  exact⟨v',r'++m',g1,VRL.app g2 h2,rfl⟩
end
end
end Go.Abs
namespace Go.Proofs.Ob
open Go Go.Abs Go.Tlv
noncomputable section
theorem t3:Tryz.prog.underlying 3=some (.int .i64):=by kernel_rfl
end
end Go.Proofs.Ob
namespace Go.Proofs.Ob
open Go Go.Abs Go.Tlv
noncomputable section
structure Mw where
 t0:Int->ByteArray->Prop->(List Value->Prop)->Prop
 t1:Nat->List Value->Int->ByteArray->(Nat->List Value->Prop)->Prop
 n0:Int->Int->Prop->(List Value->Prop)->Prop
 n1:Nat->List Value->Int->Int->(Nat->List Value->Prop)->Prop
 bt:Nat->List Value->(ByteArray->Prop)->Prop
 en:Nat->List Value->(ByteArray->Int->Prop)->Prop
 nb:Int->(ByteArray->Prop)->Prop
def unit:Value := .tuple ⟨[]⟩
end
end Go.Proofs.Ob
namespace Go.Proofs.Ob
open Go Go.Abs Go.Tlv
noncomputable section
def isA(len:Nat)(vs:List Value)(l:List At):Prop:=vs=DD l/\len=l.length/\l.length<1000/\l≠[]
def MR:Mw where
 t0:=fun kind s A B=>∃k:Nat,kind=k/\k<256/\(s.data.toList=[]->A)/\(s.data.toList≠[]->B (DD [⟨k,s⟩]))
 t1:=fun len vs kind s K=>∃(l:List At) (k:Nat),kind=k/\k<256/\isA len vs l/\K (OO l k s).length (DD (OO l k s))
 n0:=fun kind n A B=>∃k m:Nat,kind=k/\n=m/\k<256/\m<18446744073709551616/\(m=0->A)/\(m≠0->B (DD [⟨k,bytesOf (I5 m)⟩]))
 n1:=fun len vs kind n K=>∃(l:List At) (k m:Nat),kind=k/\n=m/\k<256/\m<18446744073709551616/\isA len vs l/\K (addN l k m).length (DD (addN l k m))
 bt:=fun len vs K=>∃l:List At,isA len vs l/\(∀a∈l,a.t<256)/\K (bytesOf (encS l))
 en:=fun len vs K=>∃l:List At,isA len vs l/\(∀a∈l,a.t<256)/\K (bytesOf (encS l)) (JS 0 l:Int)
 nb:=fun n K=>∃m:Nat,n=m/\m<18446744073709551616/\K (bytesOf (I5 m))
end
end Go.Proofs.Ob
namespace Go.Proofs.Ob
open Go Go.Abs Go.Tlv
noncomputable section
end
end Go.Proofs.Ob
namespace Go.Proofs.Ob
open Go Go.Abs Go.Tlv
noncomputable section
def big:Nat:=1000000000
end
end Go.Proofs.Ob
namespace Go.Proofs.Ob
open Go Go.Abs Go.Tlv
noncomputable section
structure Mi where
 own:List Value->(Bool->Prop)->Prop
 deep:List Value->(Bool->Prop)->Prop
abbrev Sp0:Nat->Bool:=fun _=>false
end
end Go.Proofs.Ob
namespace Go.Proofs.Ob
open Go Go.Abs Go.Tlv
noncomputable section
def MI:Mi where
 own:=fun vs K=>∃ns:List Int,vs=ns.map (fun n => .int .i64 n)/\ns.length<big/\K (ns.all okI)
 deep:=fun rs K=>∃ns:List Int,rs=rowsOf G7 ns/\ns.length<big/\K (ns.all okI)
end
end Go.Proofs.Ob
namespace Go.Proofs.Ob
open Go Go.Abs Go.Tlv
noncomputable section
end
end Go.Proofs.Ob
namespace Go.Proofs.Ob
open Go Go.Abs Go.Tlv
noncomputable section
end
end Go.Proofs.Ob
namespace Go.Proofs.Ob
open Go Go.Abs Go.Tlv
noncomputable section
def strV(l:List ByteArray):List Value:=l.map fun s => .string s
end
end Go.Proofs.Ob
namespace Go.Proofs.Ob
open Go Go.Abs Go.Tlv
noncomputable section
theorem t2:Tryz.prog.underlying 2=some (.int .i64):=by kernel_rfl
structure ACC(b len:Nat)(vs:List Value)(l:List At):Prop where
 v:vs=DD l
 n:len=l.length
 b:l.length<=b
 ne:l≠[]
 t:∀a∈l,a.t<256
theorem ACC.a{b len:Nat}{vs:List Value}{l:List At}(h:ACC b len vs l)(hb:b<1000):isA len vs l:=⟨h.v,h.n,Nat.lt_of_le_of_lt h.b hb,h.ne⟩
theorem ACC.step{b len:Nat}{vs:List Value}{l:List At}(h:ACC b len vs l){k:Nat}(s:ByteArray)(hk:k<256):ACC (b+1) (OO l k s).length (DD (OO l k s)) (OO l k s):=by
 refine⟨rfl,rfl,?_,AEq h.ne,?_⟩
 ·have:=h.b
  unfold OO;split
  ·omega
  ·simp;omega
 ·unfold OO;split
  ·exact h.t
  ·intro a ha
   rcases List.mem_append.1 ha with ha|ha
   ·exact h.t a ha
   ·simp only[List.mem_singleton]at ha;subst ha;exact hk
end
end Go.Proofs.Ob
namespace Go.Proofs.Ob
open Go Go.Abs Go.Tlv
noncomputable section
def fnV(g:Nat):Value := .func (.func g) ⟨[]⟩ ⟨[]⟩
theorem pu1{g:FuncId}{S:List Value->(Value->Prop)->Prop}(h:EW Tryz.prog 100 g S):∀x∈[(g,S)],EW Tryz.prog 100 x.1 x.2:=fun x hx=>by simp only[List.mem_singleton]at hx;subst hx;exact h
theorem lp1{sy:Sy}{kn:KnL}{pu:PuL}{cf:List (Nat×Nat)}{k n:Nat}{live:List Nat}{S:LpS}(h:BH Tryz.prog 100 live S):QQ Tryz.prog 100 (AU sy Sp0 kn [(k,(n,(live,S)))] pu cf):=E9 (fun x hx=>by simp only[List.mem_singleton]at hx;subst hx;exact h)
end
end Go.Proofs.Ob
namespace Go.Proofs.Ob
open Go Go.Abs Go.Tlv
noncomputable section
end
end Go.Proofs.Ob
