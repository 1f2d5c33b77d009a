/- . -/
import Derived.Test.YtblbaohcelldpaaGreatDoorS5
import Derived.Test.YtblbaohcelldpaaGreatDoorS4
import Derived.WalkKit
import Derived.ProofKit
import Derived.OpenShut
import Derived.Carry
import Derived.Deep.Slices
import Derived.Deep.Fields
import Derived.SizedLaws
set_option linter.all false
set_option maxRecDepth 100000
namespace Go.Tlv
open Go Go.Abs
theorem JQ{n:Int}:okI n=true↔gdI 2147483647 n:=by unfold okI gdI;simp
theorem lF{α:Type}{l:List α}{p:α->Bool}:(!l.any p)=true↔∀y∈l,¬p y=true:=by
 rw[Bool.not_eq_true',List.any_eq_false]
theorem bD{n m:Nat}:decide ((n:Int)<=(m:Int))=true↔n<=m:=by simp
theorem ADa{y:Arm}:¬AHW y=true↔gdI 2147483647 y.nx:=by unfold AHW;rw[Bool.not_eq_true',←JQ];simp
theorem rW{y:EP}:¬nN y=true↔gdI 2147483647 y.b:=by unfold nN;rw[Bool.not_eq_true',←JQ];simp
theorem vZ{y:Instr}:¬vY y=true↔gdI 2147483647 y.to/\gdI 2147483647 y.n:=by unfold vY;rw[Bool.not_eq_true',←JQ,←JQ];simp
theorem rT{x:DX}:O4 x=true↔(gdI 2147483647 x.id/\gdI 2147483647 x.size/\gdI 2147483647 x.lo/\gdI 2147483647 x.lw/\gdI 2147483647 x.lu/\gdI 2147483647 x.so/\gdI 2147483647 x.sw/\gdI 2147483647 x.ot)/\x.arms.length<=32/\∀y∈x.arms,gdI 2147483647 y.nx:=by
 unfold O4
 simp only[List.all_cons,List.all_nil,Bool.and_true,Bool.and_eq_true,JQ,lF,ADa]
 rw[show(decide ((x.arms.length:Int)<=32)=true↔x.arms.length<=32)from bD (m:=32)]
theorem Q6{x:DX}(h:NZ x):O4 x=true:=rT.2 ⟨⟨h.id,h.size,h.lo,h.lw,h.lu,h.so,h.sw,h.ot⟩,h.arms.1,fun y hy=>(h.arms.2 y hy).nx⟩
theorem ZB{x:DX}(h:NZ x):AHU x:=⟨by unfold O0;have:=h.arms.1;omega,trivial,by have:=h.arms.1;omega⟩
theorem nQ{x:DX}(h:NZ x):rdE AY HZ (encS (MC x))=(0,x):=by rw[SL];exact X7.rd_put h
theorem ABa{s:List UInt8}{x:DX}(h:rdE AY HZ s=(0,x)):NZ x/\encS (MC x)=s:=by rw[SL];exact X7.rd_ok h
theorem nA{x:EJ}:M5 x=true↔(gdI 2147483647 x.id/\gdI 2147483647 x.node/\gdI 2147483647 x.off/\gdI 2147483647 x.wid):=by
 unfold M5
 simp only[List.all_cons,List.all_nil,Bool.and_true,Bool.and_eq_true,JQ]
theorem PL{x:EJ}(h:KX x):M5 x=true:=nA.2 ⟨h.id,h.node,h.off,h.wid⟩
theorem XI{x:EJ}(h:KX x):AFz x:=⟨trivial,trivial,trivial⟩
theorem gM{x:EJ}(h:KX x):rdE BC FH (encS (JZ x))=(0,x):=by rw[QY];exact TS.rd_put h
theorem wF{s:List UInt8}{x:EJ}(h:rdE BC FH s=(0,x)):KX x/\encS (JZ x)=s:=by rw[QY];exact TS.rd_ok h
theorem nG{x:DC}:M8 x=true↔(gdI 2147483647 x.id/\gdI 2147483647 x.cap/\gdI 2147483647 x.miss)/\x.keys.length<=4/\∀y∈x.keys,gdI 2147483647 y:=by
 unfold M8
 simp only[List.all_cons,List.all_nil,Bool.and_true,Bool.and_eq_true,JQ,List.all_eq_true]
 rw[show(decide ((x.keys.length:Int)<=4)=true↔x.keys.length<=4)from bD (m:=4)]
theorem PO{x:DC}(h:K3 x):M8 x=true:=nG.2 ⟨⟨h.id,h.cap,h.miss⟩,h.keys.1,fun y hy=>h.keys.2 y hy⟩
theorem XM{x:DC}(h:K3 x):AFF x:=⟨by unfold MU;have:=h.keys.1;omega,trivial,by have:=h.keys.1;omega⟩
theorem gT{x:DC}(h:K3 x):rdE BA FK (encS (J4 x))=(0,x):=by rw[Q3];exact TV.rd_put h
theorem wJ{s:List UInt8}{x:DC}(h:rdE BA FK s=(0,x)):K3 x/\encS (J4 x)=s:=by rw[Q3];exact TV.rd_ok h
theorem mZ{x:CJ}:M0 x=true↔(gdI 2147483647 x.tab/\gdI 2147483647 x.len/\gdI 2147483647 x.prio/\gdI 2147483647 x.blk)/\0<=x.idle/\0<=x.hard/\x.key.data.toList.length<=32/\x.oth.data.toList.length<=32/\x.args.length<=4:=by
 unfold M0
 simp only[List.all_cons,List.all_nil,Bool.and_true,Bool.and_eq_true,JQ,decide_eq_true_eq]
 constructor
 ·rintro ⟨h,a,b,c,d,e⟩
  exact⟨h,a,b,by omega,by omega,by omega⟩
 ·rintro ⟨h,a,b,c,d,e⟩
  exact⟨h,a,b,by omega,by omega,by omega⟩
theorem PK{x:CJ}(h:KW x):M0 x=true:=mZ.2 ⟨⟨h.tab,h.len,h.prio,h.blk⟩,h.idle.1,h.hard.1,h.key,h.oth,h.args.1⟩
theorem XH{x:CJ}(h:KW x):AFy x:=⟨by unfold MP;have:=h.args.1;omega,⟨fun y hy=>(by have:=h.args.2 y hy;unfold XL gdN at this;unfold AEa;omega),(by have:=h.cook;unfold gdN at this;omega)⟩,by have:=h.args.1;omega⟩
theorem gL{x:CJ}(h:KW x):rdE AP FE (encS (JY x))=(0,x):=by rw[QX];exact TQ.rd_put h
theorem wE{s:List UInt8}{x:CJ}(h:rdE AP FE s=(0,x)):KW x/\encS (JY x)=s:=by rw[QX];exact TQ.rd_ok h
theorem mY{x:D6}:MZ x=true↔(gdI 2147483647 x.id)/\x.code.length<=32/\∀y∈x.code,gdI 2147483647 y.to/\gdI 2147483647 y.n:=by
 unfold MZ
 simp only[List.all_cons,List.all_nil,Bool.and_true,Bool.and_eq_true,JQ,lF,vZ]
 rw[show(decide ((x.code.length:Int)<=32)=true↔x.code.length<=32)from bD (m:=32)]
theorem PI{x:D6}(h:KV x):MZ x=true:=mY.2 ⟨h.id,h.code.1,fun y hy=>⟨(h.code.2 y hy).to,(h.code.2 y hy).n⟩⟩
theorem XG{x:D6}(h:KV x):AFx x:=⟨by unfold MM;have:=h.code.1;omega,fun y hy=>(by have h1:=(h.code.2 y hy).an;have h2:=(h.code.2 y hy).bn;unfold gdN at h1 h2;exact⟨by omega,by omega⟩),by have:=h.code.1;omega⟩
theorem gK{x:D6}(h:KV x):rdE stepBlock FD (encS (JX x))=(0,x):=by rw[QW];exact TP.rd_put h
theorem wD{s:List UInt8}{x:D6}(h:rdE stepBlock FD s=(0,x)):KV x/\encS (JX x)=s:=by rw[QW];exact TP.rd_ok h
theorem nC{x:DL}:M6 x=true↔(gdI 2147483647 x.id/\gdI 2147483647 x.fld)/\x.bks.length<=16/\∀y∈x.bks,gdI 2147483647 y.b:=by
 unfold M6
 simp only[List.all_cons,List.all_nil,Bool.and_true,Bool.and_eq_true,JQ,lF,rW]
 rw[show(decide ((x.bks.length:Int)<=16)=true↔x.bks.length<=16)from bD (m:=16)]
theorem PM{x:DL}(h:KY x):M6 x=true:=nC.2 ⟨⟨h.id,h.fld⟩,h.bks.1,fun y hy=>(h.bks.2 y hy).b⟩
theorem XJ{x:DL}(h:KY x):AFA x:=⟨by unfold MQ;have:=h.bks.1;omega,fun y hy=>(by have h1:=(h.bks.2 y hy).w;unfold gdN at h1;unfold uC;omega),by have:=h.bks.1;omega⟩
theorem gN{x:DL}(h:KY x):rdE BF FI (encS (J2 x))=(0,x):=by rw[QZ];exact TT.rd_put h
theorem wH{s:List UInt8}{x:DL}(h:rdE BF FI s=(0,x)):KY x/\encS (J2 x)=s:=by rw[QZ];exact TT.rd_ok h
theorem nE{x:EQ}:M7 x=true↔(gdI 2147483647 x.id)/\0<=x.rate/\0<=x.burst:=by
 unfold M7
 simp only[List.all_cons,List.all_nil,Bool.and_true,Bool.and_eq_true,JQ,decide_eq_true_eq]
theorem PN{x:EQ}(h:KZ x):M7 x=true:=nE.2 ⟨h.id,h.rate.1,h.burst.1⟩
theorem XK{x:EQ}(h:KZ x):AFE x:=⟨trivial,trivial,trivial⟩
theorem gP{x:EQ}(h:KZ x):rdE BL FJ (encS (J3 x))=(0,x):=by rw[Q0];exact TU.rd_put h
theorem wI{s:List UInt8}{x:EQ}(h:rdE BL FJ s=(0,x)):KZ x/\encS (J3 x)=s:=by rw[Q0];exact TU.rd_ok h
theorem rU{x:GR}:O5 x=true↔(gdI 2147483647 x.id/\gdI 2147483647 x.size):=by
 unfold O5
 simp only[List.all_cons,List.all_nil,Bool.and_true,Bool.and_eq_true,JQ]
theorem Q7{x:GR}(h:N7 x):O5 x=true:=rU.2 ⟨h.id,h.size⟩
theorem ZC{x:GR}(h:N7 x):AHV x:=⟨trivial,trivial,trivial⟩
theorem nR{x:GR}(h:N7 x):rdE CB GU (encS (MF x))=(0,x):=by rw[SN];exact X8.rd_put h
theorem ABb{s:List UInt8}{x:GR}(h:rdE CB GU s=(0,x)):N7 x/\encS (MF x)=s:=by rw[SN];exact X8.rd_ok h
def ZT:BB:=⟨0,0,0,0,0,0,0,0,0,bytesOf [],[],HZ,FH,FK,FE,FD,FI,FJ,GU⟩
end Go.Tlv
namespace Go.Proofs.Ob
open Go Go.Abs Go.Tlv
noncomputable section
end
end Go.Proofs.Ob
namespace Go.Abs
open Go
section
variable {P:Program}
def P9(P:Program)(rec:TypeId->List Value->List Value->Option (List (Int×Int)))(xs ys:List Value):List Field->Option (List (Int×Int))
 | []=>some []
 | f :: fs => match f.name == "_" with
  |true=>none
  |false=>match P.underlying f.type with
   |some (.int _)=>match xs[f.offset]?,ys[f.offset]? with
    |some (.int k a),some (.int k' b)=>match decide (k=k')with
     |true=>match P9 P rec xs ys fs with
      |some l=>some ((a,b)::l)
      |none=>none
     |false=>none
    |_,_=>none
   |some (.struct _)=>match EC P f.type with
    |some n=>match rec f.type ((xs.drop f.offset).take n) ((ys.drop f.offset).take n),P9 P rec xs ys fs with
     |some l,some l'=>some (l++l')
     |_,_=>none
    |none=>none
   |_=>none
def Q5(P:Program):Nat->TypeId->List Value->List Value->Option (List (Int×Int))
 | 0,_,_,_=>none
 |d+1,t,xs,ys=>match P.underlying t with
  |some (.struct fs)=>match P.stoodInHeld t with
   |true=>none
   |false=>P9 P (Q5 P d) xs ys fs.toList
  |_=>none
def allEq(l:List (Int×Int)):Bool:=l.all fun(a,b)=>a==b
theorem NF{t:TypeId}{d:TypeDesc}(h:P.underlying t=some d):BG P (underlying t)=some d:=IU h
theorem eG{t:TypeId}{d:TypeDesc}(h:P.underlying t=some d):BG P (isAgg t)=some (RF d):=by
 unfold isAgg;rw[BO,NF h,Option.bind_some]
 cases d<;>rfl
theorem rY{t:TypeId}{n:Nat}(h:EC P t=some n):BG P (sizeOf t)=some n:=by
 unfold EC at h
 cases e:P.info? t with
 |none=>rw[e]at h;cases h
 |some i=>
  rw[e]at h;simp only[Option.map_some,Option.some.injEq]at h;subst h
  simp[sizeOf,typeInfo,program,BO,BG,e]
  rfl
theorem VA{t:TypeId}{d:IntKind}(hu:P.underlying t=some (.int d)){cs:List Value}{off:Nat}{v:Value}(h:cs[off]?=some v):BG P (part t ⟨cs⟩ off)=some v:=by
 unfold part
 rw[BO,eG hu,Option.bind_some]
 simp[RF,h]
 rfl
theorem Y1{t:TypeId}{fs:Array Field}(hu:P.underlying t=some (.struct fs)){cs:List Value}{off n:Nat}(hn:EC P t=some n):BG P (part t ⟨cs⟩ off)=some (.agg ⟨(cs.drop off).take n⟩):=by
 unfold part
 rw[BO,eG hu,Option.bind_some]
 simp only[RF,if_true]
 rw[BO,rY hn,Option.bind_some]
 simp
 rfl
theorem eF{t:TypeId}{q k:IntKind}{a b:Int}(hu:P.underlying t=some (.int q))(n:Nat):BG P (Op.equalIn (n+1) t (.int k a) (.int k b))=some (a==b):=by
 simp only[Op.equalIn,BO,NF hu,Option.bind_some,if_true]
 rfl
theorem r9{t:TypeId}{fs:Array Field}(hu:P.underlying t=some (.struct fs))(hp:P.stoodInHeld t=false)(d:Nat)(xs ys:Array Value):
  BG P (Op.equalIn (d+1) t (.agg xs) (.agg ys))=BG P (Op.eqFields d xs ys fs.toList):=by
 have e0:BG P (program)=some P:=rfl
 simp only[Op.equalIn,BO,NF hu,Option.bind_some,e0,hp,Bool.false_eq_true,if_false]
 rw[←Array.forIn_toList]
 have e1:BG P (pure PUnit.unit:Sem PUnit)=some PUnit.unit:=rfl
 generalize fs.toList=l
 clear hu
 induction l with
 |nil=>rfl
 |cons f fs ih=>
  simp only[List.forIn_cons,Op.eqFields]
  by_cases hn : f.name = "_"
  ·simp only[hn,ne_eq,not_true_eq_false,if_false,BO]
   exact ih
  ·simp only[hn,ne_eq,not_false_eq_true,if_true,BO]
   cases h1:BG P (part f.type xs f.offset)with
   |none=>simp
   |some a=>
    simp only[Option.bind_some]
    cases h2:BG P (part f.type ys f.offset)with
    |none=>simp
    |some b=>
     simp only[Option.bind_some]
     cases h3:BG P (Op.equalIn d f.type a b)with
     |none=>simp
     |some r=>
      simp only[Option.bind_some]
      cases r
      ·rfl
      ·exact ih
theorem jU{rec:TypeId->List Value->List Value->Option (List (Int×Int))}{d:Nat}(hrec:∀t l l' ps,rec t l l'=some ps->BG P (Op.equalIn (d+1) t (.agg ⟨l⟩) (.agg ⟨l'⟩))=some (allEq ps)){xs ys:List Value}:
  ∀(fs:List Field) (ps:List (Int×Int)),P9 P rec xs ys fs=some ps->BG P (Op.eqFields (d+1) ⟨xs⟩ ⟨ys⟩ fs)=some (allEq ps)
 | [],ps,h=>by simp only[P9,Option.some.injEq]at h;subst h;rfl
 |f::fs,ps,h=>by
  have ih:=fun ps h=>jU hrec (xs:=xs) (ys:=ys) fs ps h
  unfold P9 at h
  split at h
  ·cases h
  ·rename_i hn
   have hn : f.name ≠ "_" := by simpa using hn
   split at h
   ·rename_i q hu
    split at h
    ·rename_i k a k' b h1 h2
     split at h
     ·rename_i hk
      simp only[decide_eq_true_eq]at hk;subst hk
      split at h
      ·rename_i l hl
       simp only[Option.some.injEq]at h;subst h
       simp only[Op.eqFields,hn,ne_eq,not_false_eq_true,if_true,BO,VA hu h1,VA hu h2,Option.bind_some,eF hu]
       cases hab:a==b
       ·simp[allEq,hab];rfl
       ·simp only[Bool.not_true,Bool.false_eq_true,if_false,ih _ hl]
        simp[allEq,hab]
      ·cases h
     ·cases h
    ·cases h
   ·rename_i gs hu
    split at h
    ·rename_i n hsz
     split at h
     ·rename_i l l' hl hl'
      simp only[Option.some.injEq]at h;subst h
      simp only[Op.eqFields,hn,ne_eq,not_false_eq_true,if_true,BO,Y1 hu hsz,Option.bind_some,hrec _ _ _ _ hl]
      cases hab:allEq l
      ·simp only[Bool.not_false,if_true]
       simp only[allEq]at hab ⊢
       rw[List.all_append,hab];rfl
      ·simp only[Bool.not_true,Bool.false_eq_true,if_false,ih _ hl']
       simp only[allEq]at hab ⊢
       rw[List.all_append,hab];rfl
     ·cases h
    ·cases h
   ·cases h
theorem eD:∀(d:Nat) (t:TypeId) (l l':List Value) (ps:List (Int×Int)) (n:Nat),d<=n->Q5 P d t l l'=some ps->BG P (Op.equalIn (n+1) t (.agg ⟨l⟩) (.agg ⟨l'⟩))=some (allEq ps)
 | 0,t,l,l',ps,n,hn,h=>by cases h
 |d+1,t,l,l',ps,n,hn,h=>by
  unfold Q5 at h
  split at h
  ·rename_i fs hu
   split at h
   ·cases h
   ·rename_i hp
    rw[r9 hu hp]
    obtain⟨m,rfl⟩:∃m,n=m+1:=⟨n-1,by omega⟩
    exact jU (fun t l l' ps h=>eD d t l l' ps m (by omega) h) _ _ h
  ·cases h
theorem XW{op:BinOp}{t:TypeId}{x y:Operand}{xs ys:Array Value}(hm:P.eqGuardType P.depth t=false):BG P (eqGuard op t x y (.agg xs) (.agg ys))=some ():=by
 have e0:BG P (program)=some P:=rfl
 cases op<;>simp[eqGuard,BO,e0,hm]<;>rfl
theorem AGR{t:TypeId}{l l':List Value}{ps:List (Int×Int)}(h:Q5 P 5 t l l'=some ps)(hm:P.eqGuardType P.depth t=false)(hl:DT l=true)(hl':DT l'=true)(H:Heap)(x y:Operand):
  QR P H .eql t x y (.agg ⟨l⟩) (.agg ⟨l'⟩)=some (.bool (allEq ps)):=by
 have e:BG P (do eqGuard .eql t x y (.agg ⟨l⟩) (.agg ⟨l'⟩);binOp .eql t (.agg ⟨l⟩) (.agg ⟨l'⟩))=some (.bool (allEq ps)):=by
  rw[BO,XW hm,Option.bind_some,show binOp .eql t (.agg ⟨l⟩) (.agg ⟨l'⟩)=(do pure (.bool ((←Op.equalIn (9999+1) t (.agg ⟨l⟩) (.agg ⟨l'⟩)))))from rfl,BO,eD 5 t l l' ps 9999 (by omega) h]
  rfl
 simp only[QR,plain,RO,hl,hl',Bool.and_self,EY,e]
theorem AGS{t:TypeId}{l l':List Value}{ps:List (Int×Int)}(h:Q5 P 5 t l l'=some ps)(hm:P.eqGuardType P.depth t=false)(hl:DT l=true)(hl':DT l'=true)(H:Heap)(x y:Operand):
  QR P H .neq t x y (.agg ⟨l⟩) (.agg ⟨l'⟩)=some (.bool (!allEq ps)):=by
 have e:BG P (do eqGuard .neq t x y (.agg ⟨l⟩) (.agg ⟨l'⟩);binOp .neq t (.agg ⟨l⟩) (.agg ⟨l'⟩))=some (.bool (!allEq ps)):=by
  rw[BO,XW hm,Option.bind_some,show binOp .neq t (.agg ⟨l⟩) (.agg ⟨l'⟩)=(do pure (.bool (!(←Op.equalIn (9999+1) t (.agg ⟨l⟩) (.agg ⟨l'⟩)))))from rfl,BO,eD 5 t l l' ps 9999 (by omega) h]
  rfl
 simp only[QR,plain,RO,hl,hl',Bool.and_self,EY,e]
theorem nI{t:TypeId}{l l':List Value}{ps:List (Int×Int)}{X Y:Prop}(h:Q5 P 5 t l l'=some ps)(hm:P.eqGuardType P.depth t=false)(hl:DT l=true)(hl':DT l'=true)
 (h1:allEq ps=true->X) (h2:allEq ps=false->Y):(real P).agEq .eql t l l' X Y:=⟨_,fun H x y=>AGR h hm hl hl' H x y,h1,h2⟩
theorem nJ{t:TypeId}{l l':List Value}{ps:List (Int×Int)}{X Y:Prop}(h:Q5 P 5 t l l'=some ps)(hm:P.eqGuardType P.depth t=false)(hl:DT l=true)(hl':DT l'=true)
 (h1:allEq ps=false->X) (h2:allEq ps=true->Y):(real P).agEq .neq t l l' X Y:=⟨_,fun H x y=>AGS h hm hl hl' H x y,fun e=>h1 (by simpa using e),fun e=>h2 (by simpa using e)⟩
end
end Go.Abs
namespace Go.Abs
open Go Go.ChangeShapes Go.WideShapes Go.ChangeAt Go.RowKit Go.Deep
inductive CK
 |int (k:IntKind)
 |str
 |bool
 |sl (t:TypeId)
section
variable {H:Type} (enc:TypeId×Value->H) (P:Program) (W:World) (base:Nat) (spare:Nat->Bool) (held:Bool)
def AKj:CK->Value->Prop
 | .int k,v=>∃z,v = .int k z/\(Lit.int k z).wf=true
 | .str,v=>∃s:ByteArray,v = .string s/\s.size<=maxLen
 | .bool,v=>∃b,v = .bool b
 | .sl t,v=>∃fuel x,DataW.trod enc P W base spare held fuel t [v]=some x/\∀n∈x.1.weights P t,n<=reachBytes
def iB:List CK->List Value->Prop
 | [],vs=>vs=[]
 |k::ks,vs=>∃v r,vs=v::r/\AKj enc P W base spare held k v/\iB ks r
variable {enc P W base spare held}
theorem iB.append:∀ {ks ks':List CK} {vs vs':List Value},iB enc P W base spare held ks vs->iB enc P W base spare held ks' vs'->iB enc P W base spare held (ks++ks') (vs++vs')
 | [],ks',vs,vs',h,h'=>by simp only[iB]at h;subst h;exact h'
 |k::ks,ks',vs,vs',⟨v,r,e,h1,h2⟩,h'=>by subst e;exact⟨v,r++vs',rfl,h1,h2.append h'⟩
end
noncomputable section
def ACc(W:World):Nm:=⟨fun n=>if n<100 then some (n,0,0)else none,AIS W⟩
theorem ACd(W:World)(ht:AAl W):Rel 100 (ACc W) (hOf 100 [] []) (ABY W ht) W:=by
 have hno:∀m o',(hOf 100 [] []).get m≠some o':=by
  intro m o' h
  obtain⟨_,h2,_⟩:=S9 h
  simp only[List.length_nil]at h2;omega
 constructor
 ·intro n o h;exact absurd h (hno n o)
 ·intro n m o o' h;exact absurd h (hno n o)
 ·intro n hn
  have hn:100+0<=n:=hn
  show(if n<100 then some (n,0,0)else none)=none
  rw[if_neg (by omega)]
 ·intro g hg
  show(if g<100 then some (g,0,0)else none)=_
  rw[if_pos hg]
 ·exact Nat.le_refl _
 ·intro i _;rfl
 ·intro b i v hz
  refine⟨?_,fun n o h=>absurd h (hno n o)⟩
  have hz:(match W.heap[b]? with|some (.cells c _ _)=>c[i]? | _=>none)=some v:=hz
  split at hz
  ·rename_i c t fz hw;exact⟨c,t,fz,hw,hz,fun hn=>absurd (Array.getElem?_eq_some_iff.1 hw).1 hn⟩
  ·cases hz
 ·intro b i v hz _;exact hz
 ·rfl
 ·rfl
 ·rfl
theorem AAF{P:Program}{f:FuncId}{args:List Value}{args':Array Value}{H':Heap}{W:World}{ht:AAl W}(hc:BP P 100 (ABY W ht) f args (hOf 100 [] []) (.returned (.bool true)) H')(ha:VRL (ACc W) args args'.toList):
  Calls P f args' W fun e w'=>e = .returned (.bool true)/\Below W.heap.size W w':=by
 refine(hc (ACc W) W args' (ACd W ht) ha).mono fun e' w' ⟨F',h1,h2,R'⟩=>?_
 simp only[EnR]at h2
 obtain⟨v',h3,h4⟩:=h2
 simp only[VR]at h3
 subst h3
 exact⟨h4,R'.os,R'.tape,R'.out,R'.base,fun k hk=>R'.frame k hk⟩
theorem AF5{F:Nm}{v v':Value}{l l':List Value}(h:VR F v v')(h':VRL F l l'):VRL F (v::l) (v'::l'):=by simp only[VRL];exact⟨_,_,h,h',rfl⟩
theorem AIb{F:Nm}:VRL F [] []:=by simp only[VRL]
theorem AIc{F:Nm}{s:ByteArray}:VR F (.string s) (.string s):=by simp only[VR]
end
end Go.Abs
namespace Go.Abs
open Go
noncomputable section
section
variable {G:Nat}
theorem VRL.at{F:Nm}:∀ {l l':List Value},VRL F l l'->∀(i:Nat) v,l[i]?=some v->∃v',l'[i]?=some v'/\VR F v v'
 | [],l',h,i,v,hi=>by simp at hi
 |a::l,l',h,i,v,hi=>by
  simp only[VRL]at h
  obtain⟨b,r,h1,h2,e⟩:=h
  subst e
  cases i with
  |zero=>simp only[List.getElem?_cons_zero,Option.some.injEq]at hi;subst hi;exact⟨b,rfl,h1⟩
  |succ i=>simpa using VRL.at h2 i v (by simpa using hi)
theorem VRL.of_at{F:Nm}:∀ {l l':List Value},l'.length=l.length->(∀(i:Nat) v v',l[i]?=some v->l'[i]?=some v'->VR F v v')->VRL F l l'
 | [],l',hl,_=>by
  have:l'=[]:=List.eq_nil_of_length_eq_zero hl
  subst this;simp only[VRL]
 |a::l,[],hl,_=>by simp at hl
 |a::l,b::l',hl,h=>by
  simp only[VRL]
  exact⟨b,l',h 0 a b rfl rfl,VRL.of_at (by simpa using hl) (fun i v v' h1 h2=>h (i+1) v v' (by simpa using h1) (by simpa using h2)),rfl⟩
theorem VR.tupL{F:Nm}{cs:List Value}{v':Value}(h:VR F (.tuple ⟨cs⟩) v'):∃cs':List Value,v' = .tuple ⟨cs'⟩/\VRL F cs cs':=by
 simp only[VR]at h
 obtain⟨⟨cs'⟩,h1,e⟩:=h
 simp only[VRA]at h1
 exact⟨cs',e,h1⟩
theorem VR.ofTupL{F:Nm}{cs cs':List Value}(h:VRL F cs cs'):VR F (.tuple ⟨cs⟩) (.tuple ⟨cs'⟩):=by
 simp only[VR]
 exact⟨⟨cs'⟩,by simp only[VRA];exact h,rfl⟩
theorem fJ{n0:Nat}{cs cs':List Value}{AL objs':List (Option AJ)}(h:Wk G n0 cs AL cs' objs'):Wk G n0 [.tuple ⟨cs⟩] AL [.tuple ⟨cs'⟩] objs':=by
 refine⟨rfl,fun B F w R=>?_⟩
 obtain⟨F',h1,h2,h3⟩:=h.2 B F w R
 refine⟨F',h1,h2,fun i v v' x e1 e2 hx=>?_⟩
 cases i with
 |succ i=>simp at e1
 |zero=>
  simp only[List.getElem?_cons_zero,Option.some.injEq]at e1 e2
  subst e1;subst e2
  obtain⟨xs,rfl,hl⟩:=hx.tupL
  refine VR.ofTupL (VRL.of_at (by rw[hl.length,h.1]) fun i v v' g1 g2=>?_)
  have hlt:i<cs.length:=by rw[←h.1];exact(List.getElem?_eq_some_iff.1 g1).1
  obtain⟨y,k1,k2⟩:=hl.at i cs[i] (List.getElem?_eq_getElem hlt)
  rw[g2]at k1;simp only[Option.some.injEq]at k1;subst k1
  exact h3 i _ v _ (List.getElem?_eq_getElem hlt) g1 k2
theorem uB:∀ {l:List Value} (j:Nat) {v v':Value},l[j]?=some v->EI v v'->BR l (l.set j v')
 | [],j,v,v',h,_=>by simp at h
 |a::l,0,v,v',h,hw=>by simp only[List.getElem?_cons_zero,Option.some.injEq]at h;subst h;exact .cons hw (BR.refl _)
 |a::l,j+1,v,v',h,hw => .cons (.refl _) (uB j (by simpa using h) hw)
theorem GG{n0:Nat}(j i:Nat){AB:List Value}{AL:List (Option AJ)}{A7 vs:List Value}{n e size:Nat}(hj:AB[j]?=some (.iface mkM (.slice (some ⟨G+i,0,none⟩) n n)))(ho:AL[i]?=some (mo vs e size))(hf:BU size A7=some vs)(hb:A8 0 vs=true)(hs:0<size)(hn:n=A7.length):
  Wk G n0 AB AL (AB.set j (.iface mkD (.agg ⟨A7⟩))) (AL.set i none):=by
 subst hn
 cases A7 with
 |nil=>
  simp only[BU,Option.some.injEq]at hf
  subst hf
  have hset:AL.set i none=AL:=by
   apply List.ext_getElem?
   intro k
   rw[List.getElem?_set]
   split
   ·rename_i hik
    subst hik
    rw[ho]
    have hlt:i<AL.length:=(List.getElem?_eq_some_iff.1 ho).1
    rw[if_pos hlt];rfl
   ·rfl
  rw[hset]
  exact CQ (uB j hj .emptyMD) (D7.refl _)
 |cons r A7=>
  have hvs:vs≠[]:=by
   intro e
   subst e
   have:=KH hf
   simp only[List.length_nil,List.length_cons]at this
   rcases Nat.mul_eq_zero.1 this.symm with h|h<;>omega
  rw[M9 hvs]at ho
  refine U0 ho hf hb hs (by simp) (fun k v v' h1 h2=>?_)
  by_cases e:k=j
  ·subst e
   rw[hj]at h1;simp only[Option.some.injEq]at h1;subst h1
   rw[List.getElem?_set_self (List.getElem?_eq_some_iff.1 hj).1]at h2
   simp only[Option.some.injEq]at h2;subst h2
   exact .inr ⟨rfl,(r::A7).length,Nat.le_refl _,.inr ⟨rfl,by simp⟩⟩
  ·rw[List.getElem?_set_ne (fun h=>e h.symm),h1]at h2
   simp only[Option.some.injEq]at h2
   exact .inl h2.symm
end
section
variable {P:Program}
abbrev LFD:=Code->Nat->List Value->List Deferred->List (Option AJ)->LK->Prop
def AA0(live2:List Nat)(F:LFD):LpS:=fun c n AB ds h Q=>match Nat.ble 100 h.next with
 |true=>F c n AB ds (CY 100 h) (fun e v o=>Q (.ex e (C9 100 n live2 ds (v,o))))
 |false=>False
theorem ACX(hP:CV P 100=true){W:How}(hkn:QP P 100 W)(hlp:QQ P 100 W){live live2:List Nat}{F:LFD}
  (h:∀c n AB ds obs K,F c n AB ds obs K->∃(α:Type) (k0 fuel:Nat) (m:α->Nat) (I:α->List Value×List (Option AJ)) (R:α->LK) (a:α),VL (100+k0) ds=true/\obs.length=k0/\Wk 100 (100+k0) AB obs (I a).1 (I a).2/\(∀e v o,R a e v o->K e v o)/\
   ∀a,Is (wpe P (real P) W fuel (.code false c (C9 100 n live ds (I a))) (BM 100 live live2 n ds
   (fun AB AL=>∃a',m a' < m a/\Wk 100 (100+k0) AB AL (I a').1 (I a').2/\∀e v o,R a' e v o->R a e v o)
   (fun e AB AL=>∃v o,Wk 100 (100+k0) AB AL v o/\R a e v o)))):BH P 100 live (AA0 live2 F):=by
 intro c n AB ds hh Q hs
 unfold AA0 at hs
 split at hs
 ·rename_i hle
  obtain⟨α,k0,fuel,m,I,R,a,h0,h1,h2,h3,h4⟩:=h _ _ _ _ _ _ hs
  obtain⟨e,v,o,g1,g2⟩:=zD hP hkn hlp (live:=live) (live2:=live2) (ds:=ds) h0 m I R h4 a h1 h2 (Nat.le_of_ble_eq_true hle)
  exact⟨_,g2,h3 _ _ _ g1⟩
 ·exact hs.elim
theorem zL{m b:Nat}(h:b<256):(m*256) ||| b=m*256+b:=by
 have:=Nat.shiftLeft_add_eq_or_of_lt (i:=8) (b:=b) (by omega) m
 rw[Nat.shiftLeft_eq]at this
 exact this.symm
theorem zI{m:Nat}{K:Int->Prop}(hm:m<36028797018963968)(hk:K ((m*256:Nat):Int)):(real P).ari .shl .i64 (m:Int) .u64 (8:Int) K:=by
 refine⟨((m*256:Nat):Int),?_,hk⟩
 have e:IntKind.i64.wrap ((m:Int)*2 ^ (min (8:Int).toNat IntKind.i64.bits))=((m*256:Nat):Int):=by
  have:(2:Int) ^ (min (8:Int).toNat IntKind.i64.bits)=256:=by decide
  rw[this]
  simp[IntKind.wrap,IntKind.signed,IntKind.bits];omega
 simp only[FU,e];rfl
theorem AFu{m:Nat}{K:Int->Prop}(hm:m<72057594037927936)(hk:K ((m*256:Nat):Int)):(real P).ari .shl .u64 (m:Int) .u64 (8:Int) K:=by
 refine⟨((m*256:Nat):Int),?_,hk⟩
 have e:IntKind.u64.wrap ((m:Int)*2 ^ (min (8:Int).toNat IntKind.u64.bits))=((m*256:Nat):Int):=by
  have:(2:Int) ^ (min (8:Int).toNat IntKind.u64.bits)=256:=by decide
  rw[this]
  simp[IntKind.wrap,IntKind.signed,IntKind.bits];omega
 simp only[FU,e];rfl
theorem AC1{m b:Nat}{K:Int->Prop}(hm:m<36028797018963968)(hb:b<256)(hk:K ((m*256+b:Nat):Int)):(real P).ari .or .i64 ((m*256:Nat):Int) .i64 (b:Int) K:=by
 refine⟨((m*256+b:Nat):Int),?_,hk⟩
 have e:IntKind.i64.wrap ((BitVec.ofInt IntKind.i64.bits ((m*256:Nat):Int)) ||| (BitVec.ofInt IntKind.i64.bits (b:Int))).toNat=((m*256+b:Nat):Int):=by
  rw[BitVec.toNat_or]
  have h1:(BitVec.ofInt IntKind.i64.bits ((m*256:Nat):Int)).toNat=m*256:=by
   rw[BitVec.ofInt_natCast,BitVec.toNat_ofNat];exact Nat.mod_eq_of_lt (by show m*256<2 ^ 64;omega)
  have h2:(BitVec.ofInt IntKind.i64.bits (b:Int)).toNat=b:=by
   rw[BitVec.ofInt_natCast,BitVec.toNat_ofNat];exact Nat.mod_eq_of_lt (by show b<2 ^ 64;omega)
  rw[h1,h2,zL hb]
  simp[IntKind.wrap,IntKind.signed,IntKind.bits];omega
 simp only[FU,e];rfl
theorem AHQ{m b:Nat}{K:Int->Prop}(hm:m<72057594037927936)(hb:b<256)(hk:K ((m*256+b:Nat):Int)):(real P).ari .or .u64 ((m*256:Nat):Int) .u64 (b:Int) K:=by
 refine⟨((m*256+b:Nat):Int),?_,hk⟩
 have e:IntKind.u64.wrap ((BitVec.ofInt IntKind.u64.bits ((m*256:Nat):Int)) ||| (BitVec.ofInt IntKind.u64.bits (b:Int))).toNat=((m*256+b:Nat):Int):=by
  rw[BitVec.toNat_or]
  have h1:(BitVec.ofInt IntKind.u64.bits ((m*256:Nat):Int)).toNat=m*256:=by
   rw[BitVec.ofInt_natCast,BitVec.toNat_ofNat];exact Nat.mod_eq_of_lt (by show m*256<2 ^ 64;omega)
  have h2:(BitVec.ofInt IntKind.u64.bits (b:Int)).toNat=b:=by
   rw[BitVec.ofInt_natCast,BitVec.toNat_ofNat];exact Nat.mod_eq_of_lt (by show b<2 ^ 64;omega)
  rw[h1,h2,zL hb]
  simp[IntKind.wrap,IntKind.signed,IntKind.bits];omega
 simp only[FU,e];rfl
theorem BI{src dst:TypeId}{ks kd k:IntKind}{m:Nat}{K:Int->Prop}(hs:P.underlying src=some (.int ks))(hd:P.underlying dst=some (.int kd))(hw:kd.wrap (m:Int)=(m:Int))(hk:K (m:Int)):(real P).conv src dst k (m:Int) kd K:=
 ABc hs hd (by rw[hw];exact hk)
theorem KU{m:Nat}(h:m<256):IntKind.u8.wrap (m:Int)=(m:Int):=by simp[IntKind.wrap,IntKind.signed,IntKind.bits];omega
theorem JP{m:Nat}(h:m<4294967296):IntKind.u32.wrap (m:Int)=(m:Int):=by simp[IntKind.wrap,IntKind.signed,IntKind.bits];omega
theorem bC{m:Nat}(h:m<18446744073709551616):IntKind.u64.wrap (m:Int)=(m:Int):=by simp[IntKind.wrap,IntKind.signed,IntKind.bits];omega
theorem AX{m:Nat}(h:m<9223372036854775808):IntKind.i64.wrap (m:Int)=(m:Int):=by simp[IntKind.wrap,IntKind.signed,IntKind.bits];omega
def II(K:Value->Prop):Res->Prop
 | .en (.returned v) _ h=>match Nat.ble 100 h.next&&below 100 v with
  |true=>K v
  |false=>False
 |_=>False
theorem PS(hP:CV P 100=true){W:How}(hkn:QP P 100 W)(hlp:QQ P 100 W){f:FuncId}{args:List Value}{v:Value}{n:Nat}(ha:A8 100 args=true)
  (h:Is (wpe P (real P) W n (.call f args (hOf 100 [] [])) (II fun v'=>v'=v))) (B:Base) (H:Heap):BP P 100 B f args H (.returned v) H:=by
 obtain⟨r,h1,h2⟩:=UD hP hkn hlp n _ _ h.out
 unfold II at h2
 split at h2
 ·rename_i v' u h'
  split at h2
  ·rename_i hc
   simp only[Bool.and_eq_true]at hc
   subst h2
   exact NQ (fun B=>GZ (ins:=[]) (P8 (Nat.le_of_ble_eq_true hc.1) (h1 B)) (F5 (by simp only[A8,hc.2];rfl))) ha hc.2 B H
  ·exact h2.elim
 ·exact h2.elim
end
end
end Go.Abs
namespace Go.Abs
open Go
noncomputable section
section
variable {P:Program}
def AAu(n0:Nat):List (Option AJ)->Bool
 | []=>true
 |o::l=>C8 n0 o&&AAu n0 l
theorem lD{n0:Nat}:∀ {l:List (Option AJ)},AAu n0 l=true->∀(i:Nat) o,l[i]?=some (some o)->C8 n0 (some o)=true
 | [],_,i,o,h=>by simp at h
 |x::l,hb,0,o,h=>by
  simp only[AAu,Bool.and_eq_true]at hb
  simp only[List.getElem?_cons_zero,Option.some.injEq]at h;subst h;exact hb.1
 |x::l,hb,i+1,o,h=>by
  simp only[AAu,Bool.and_eq_true]at hb
  exact lD hb.2 i o (by simpa using h)
def wO(k0:Nat)(live live2:List Nat)(N:Nat)(back:List Value->List (Option AJ)->Prop)(out:Exit->List Value->Prop):Res->Prop
 | .ex e s=>match Nat.beq s.ts.n N&&(Nat.ble (100+k0) s.h.next&&AAu (100+k0) ((CY 100 s.h).take k0))with
  |true=>s.ds=[]/\match e with
   | .normal=>match A8 (100+k0) (live.map s.ts.get)with
    |true=>back (live.map s.ts.get) ((CY 100 s.h).take k0)
    |false=>False
   | .exit id=>match A8 (100+k0) (live2.map s.ts.get)with
    |true=>out (.exit id) (live2.map s.ts.get)
    |false=>False
   | .ret=>match A8 (100+k0) (live2.map s.ts.get)with
    |true=>out .ret (live2.map s.ts.get)
    |false=>False
   |_=>False
  |false=>False
 |_=>False
theorem kG:∀l:List (Option AJ),D7 l (l.map fun _=>none)
 | [] => .nil
 |o::l => .cons (.none o) (kG l)
theorem fH{k0:Nat}{AB:List Value}{AL:List (Option AJ)}(hk:k0<=AL.length)(hv:A8 (100+k0) AB=true)(ho:AAu (100+k0) (AL.take k0)=true):Wk 100 (100+k0) AB AL AB (AL.take k0):=by
 have h:=I8 (G:=100) (k0:=k0) (AB:=AB) (pre:=AL.take k0) (extra:=AL.drop k0) (by rw[List.length_take];omega) hv (lD ho)
 rw[List.take_append_drop]at h;exact h
theorem map_none{α β:Type}:∀ {l:List α} {m:List β},l.length=m.length->(l.map fun _=>(none:Option AJ))=m.map fun _=>none
 | [],[],_=>rfl
 |a::l,b::m,h=>by simp only[List.map_cons,map_none (l:=l) (m:=m) (by simpa using h)]
theorem AHL (hP:CV P 100=true) {W:How} (hkn:QP P 100 W) (hlp:QQ P 100 W) {live live2:List Nat} {F:LF}
    (h:∀c n AB obs K,F c n AB obs K->∃(α:Type) (fuel:Nat) (m:α->Nat) (I:α->List Value×List (Option AJ)) (R:α->Exit->List Value->Prop) (a:α),Wk 100 (100+obs.length) AB obs (I a).1 (I a).2/\(∀e v,R a e v->K e v (obs.map fun _=>none))/\
      ∀a,Is (wpe P (real P) W fuel (.code false c (C9 100 n live [] (I a))) (wO obs.length live live2 n
      (fun AB AL=>∃a',m a' < m a/\AB=(I a').1/\AL=(I a').2/\∀e v,R a' e v->R a e v)
      (fun e v=>R a e v)))):BH P 100 live (lpS live2 F):=by
  intro c n AB ds hh Q hs
  unfold lpS at hs
  split at hs
  · split at hs
    · rename_i hle
      obtain⟨α,fuel,m,I,R,a,h2,h3,h4⟩:=h _ _ _ _ _ hs
      let R2:α->Exit->List Value->List (Option AJ)->Prop:=fun a e v o=>R a e v/\o=(CY 100 hh).map fun _=>none
      have hbody:∀a,∃r,(∀B,Holds P 100 B (.code false c (C9 100 n live [] (I a))) r)/\uH 100 (CY 100 hh).length n live live2 [] m I R2 a r:=by
        intro a
        obtain⟨r,g1,g2⟩:=UD hP hkn hlp _ _ _ (h4 a).out
        refine⟨r,g1,?_⟩
        cases r with
        |en _ _ _=>exact g2.elim
        |ex e s=>
          simp only[wO]at g2
          split at g2
          · rename_i hc
            simp only[Bool.and_eq_true]at hc
            obtain⟨hc1,hc2,hc3⟩:=hc
            have hc2:=Nat.le_of_ble_eq_true hc2
            have hlen:(CY 100 hh).length<=(CY 100 s.h).length:=by rw[RL 100 s.h];omega
            have hout:∀e v,A8 (100+(CY 100 hh).length) v=true->R a e v->∃v' o,Wk 100 (100+(CY 100 hh).length) v (CY 100 s.h) v' o/\R2 a e v' o:=by
              intro e v hb hr
              have hl2:((CY 100 s.h).take (CY 100 hh).length).length=(CY 100 hh).length:=by rw[List.length_take];omega
              refine⟨v,_,(fH hlen hb hc3).trans (CQ (BR.refl _) (kG _)),hr,map_none hl2⟩
            obtain⟨hds,g2⟩:=g2
            refine⟨by omega,Nat.eq_of_beq_eq_true hc1,hds,?_⟩
            cases e<;>try exact g2.elim
            · simp only at g2
              split at g2
              · rename_i hb
                obtain⟨a',k1,k2,k3,k4⟩:=g2
                exact⟨a',k1,by rw[←k2,←k3];exact fH hlen hb hc3,fun e v o ⟨r1,r2⟩=>⟨k4 e v r1,r2⟩⟩
              · exact g2.elim
            · simp only at g2
              split at g2
              · rename_i hb;exact⟨rfl,hout _ _ hb g2⟩
              · exact g2.elim
            · simp only at g2
              split at g2
              · rename_i hb;exact⟨rfl,hout _ _ hb g2⟩
              · exact g2.elim
          · exact g2.elim
      obtain⟨e,v,o,g1,g2⟩:=jQ (ds:=[]) rfl (R:=R2) (m:=m) hbody a rfl h2
      exact⟨_,fun B=>dP (Nat.le_of_ble_eq_true hle) (g2 B),by obtain⟨r1,r2⟩:=g1;subst r2;exact h3 _ _ r1⟩
    · exact hs.elim
  · exact hs.elim
end
end
end Go.Abs
