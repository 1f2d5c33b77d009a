/- The evaluator on values that are not all known: where something is not known it leaves a node that says what is asked. -/
import Derived.Test.YtblbaohcelldpaaB9
set_option linter.all false
namespace Go.Abs
open Go
noncomputable section
def objsOf(G:Nat)(h:Heap):List (Option AObj):=go (h.next-G) G
where go:Nat->Nat->List (Option AObj)
 | 0,_=>[]
 |n+1,k=>h.get k::go n (k+1)
def bytesV(s:ByteArray):List Value:=s.data.toList.map fun b => .int .u8 b.toNat
structure Nd where
 ari:BinOp->IntKind->Int->IntKind->Int->(Int->Prop)->Prop
 cmp:BinOp->IntKind->Int->IntKind->Int->Prop->Prop->Prop
 una:UnOp->TypeId->IntKind->Int->(Int->Prop)->Prop
 cat:ByteArray->ByteArray->(ByteArray->Prop)->Prop
 scmp:BinOp->ByteArray->ByteArray->Prop->Prop->Prop
 slen:ByteArray->(Int->Prop)->Prop
 sat:ByteArray->Int->(Int->Prop)->Prop
 ssl:ByteArray->Option Int->Option Int->(ByteArray->Prop)->Prop
 conv:TypeId->TypeId->IntKind->Int->IntKind->(Int->Prop)->Prop
 minI:Builtin->Array TypeId->TypeId->IntKind->Int->Int->(Int->Prop)->Prop
 idx:Nat->Nat->Nat->Int->(Nat->Prop)->Prop
 split:Int->List Prop->Prop
 cells:Option AObj->(List Value->Prop)->Prop
 own:Option AObj->(List Value->TypeId->Nat->Bool->Prop)->Prop
 rdI:IntKind->List Value->Nat->(Int->Prop)->Prop
 rdB:List Value->Nat->Prop->Prop->Prop
 rdS:List Value->Nat->(ByteArray->Prop)->Prop
 rdD:List Value->Nat->(List Value->Prop)->Prop
 rdA:List Value->Nat->Nat->(List Value->Prop)->Prop
 wr:List Value->Nat->Nat->List Value->(List Value->Prop)->Prop
 bcmp:BinOp->Bool->Bool->Prop->Prop->Prop
 agEq:BinOp->TypeId->List Value->List Value->Prop->Prop->Prop
 dlen:List Value->(Nat->Prop)->Prop
 dget:List Value->Int->Nat->(List Value->Prop)->Prop
 dsl:List Value->Nat->Option Int->Option Int->(List Value->Prop)->Prop
 str:List Int->(ByteArray->Prop)->Prop
 strV:List Value->Nat->Nat->(ByteArray->Prop)->Prop
 strM:Nat->Option AObj->(ByteArray->Prop)->Prop
 strD:List Value->(ByteArray->Prop)->Prop
 toB:ByteArray->(List Value->Nat->Prop)->Prop
 base:Bool->Nat->Nat->Option AObj->TypeId->Nat->(List Value->Prop)->Prop
 appX:Nat->List Value->Nat->List Value->Nat->Nat->(List Value->Nat->Prop)->Prop
 appS:Nat->List Value->ByteArray->Nat->Prop->(List Value->Nat->Prop)->Prop
 appD:Nat->List Value->List Value->Nat->Nat->Prop->(List Value->Nat->Prop)->Prop
def real(P:Program):Nd where
 ari:=fun op k a k' b K=>∃z,intBin op k a k' b=some (.int k z)/\K z
 cmp:=fun op k a k' b X Y=>∃t,intBin op k a k' b=some (.bool t)/\(t=true->X)/\(t=false->Y)
 una:=fun op t k a K=>∃z,pureVal P (Op.unary op (.int k a))=some (.int k z)/\K z
 cat:=fun a b K=>∃s,strBin .add a b=some (.string s)/\K s
 scmp:=fun op a b X Y=>∃t,strBin op a b=some (.bool t)/\(t=true->X)/\(t=false->Y)
 slen:=fun s K=>K s.data.toList.length
 sat:=fun s i K=>∃(j:Nat) (b:UInt8),i=j/\s.data.toList[j]?=some b/\K b.toNat
 ssl:=fun s lo hi K=>∃l h m,bnds s.size s.size (lo.map (.int .i64 ·)) (hi.map (.int .i64 ·)) none=some (l,h,m)/\K (bytesOf ((s.data.toList.drop l).take (h-l)))
 conv:=fun src dst k a kd K=>∃z,(∀H,aConvert P H src dst (.int k a)=some (.int kd z,H))/\K z
 minI:=fun bi ats T k a b K=>∃z,(∀H,aBuiltin P H bi ats T [.int k a,.int k b]=some (.int k z,H))/\K z
 idx:=fun len off n i K=>∃j:Nat,i=j/\j<len/\K (off+j*n)
 split:=fun i ps=>∃(j:Nat) (p:Prop),i=j/\ps[j]?=some p/\p
 cells:=fun ob K=>∃vs e z lo ow,ob=some (.cells vs e z lo ow)/\K vs
 own:=fun ob K=>∃vs e z lo,ob=some (.cells vs e z lo true)/\K vs e z lo
 rdI:=fun k vs off K=>∃z,vs[off]?=some (.int k z)/\K z
 rdB:=fun vs off X Y=>∃t,vs[off]?=some (.bool t)/\(t=true->X)/\(t=false->Y)
 rdS:=fun vs off K=>∃s,vs[off]?=some (.string s)/\K s
 rdD:=fun vs off K=>∃rs,vs[off]?=some (.iface mkD (.agg ⟨rs⟩))/\K rs
 rdA:=fun vs off n K=>∃l,off+n<=vs.length/\n≠0/\l=(vs.drop off).take n/\K l
 wr:=fun vs off n l K=>∃vs',l.length=n/\l.all isCell=true/\off+n<=vs.length/\vs'=splice vs off l/\K vs'
 bcmp:=fun op a b X Y=>(op = .eql/\((a==b)=true->X)/\((a==b)=false->Y))∨(op = .neq/\((a==b)=false->X)/\((a==b)=true->Y))
 agEq:=fun op t l l' X Y=>∃b,(∀H x y,aBin P H op t x y (.agg ⟨l⟩) (.agg ⟨l'⟩)=some (.bool b))/\(b=true->X)/\(b=false->Y)
 dlen:=fun rs K=>K rs.length
 dget:=fun rs i n K=>∃(j:Nat) (cs:List Value),i=j/\rs[j]?=some (.agg ⟨cs⟩)/\cs.length=n/\K cs
 dsl:=fun rs n lo hi K=>∃l h m,bnds rs.length rs.length (lo.map (.int .i64 ·)) (hi.map (.int .i64 ·)) none=some (l,h,m)/\rowLen n rs=true/\K ((rs.drop l).take (h-l))
 str:=fun zs K=>K (bytesOf (zs.map fun n=>UInt8.ofNat n.toNat))
 strV:=fun vs off n K=>∃bs,off+n<=vs.length/\toBytes ((vs.drop off).take n)=some bs/\K (bytesOf bs)
 strM:=fun len ob K=>∃bs,((len=0/\bs=[])∨(len≠0/\∃vs e z lo ow,ob=some (.cells vs e z lo ow)/\len<=vs.length/\toBytes (vs.take len)=some bs))/\K (bytesOf bs)
 strD:=fun rs K=>∃l bs,flatRows 1 rs=some l/\toBytes l=some bs/\K (bytesOf bs)
 toB:=fun s K=>K (bytesV s) s.data.toList.length
 base:=fun mk len cap ob elem size K=>∃vs,((mk=true/\len=0/\vs=[])∨(len≠0/\ob=some (.cells vs elem size true true)/\cap=len/\size≠0/\vs.length=len*size))/\K vs
 appX:=fun len vs n xs size bytes K=>∃vs' len',n≠0/\xs.length=n*size/\xs.all isCell=true/\(2*(len+n)+192)*bytes<=tops/\len+n<=1099511627776/\vs'=vs++xs/\len'=len+n/\K vs' len'
 appS:=fun len vs s bytes K0 K=>(s.data.toList=[]->K0)/\(s.data.toList≠[]->(2*(len+s.data.toList.length)+192)*bytes<=tops/\len+s.data.toList.length<=1099511627776/\K (vs++bytesV s) (len+s.data.toList.length))
 appD:=fun len vs rs size bytes K0 K=>∃xs,flatRows size rs=some xs/\xs.all isCell=true/\(rs=[]->K0)/\(rs≠[]->(2*(len+rs.length)+192)*bytes<=tops/\len+rs.length<=1099511627776/\K (vs++xs) (len+rs.length))
def branch(b:Bool)(A B:Prop):Prop:=Bool.rec (motive:=fun _=>Prop) B A b
def opt{α:Type}(o:Option α)(K:α->Prop):Prop:=match o with
 |some a=>K a
 |none=>False
abbrev VK:=Value->Heap->Prop
abbrev Sy:=Nat->Option Bool
def wInt(N:Nd)(op:BinOp)(k:IntKind)(a:Int)(k':IntKind)(b:Int)(K:Value->Prop):Prop:=match op with
 | .eql | .neq | .lss | .leq | .gtr | .geq=>N.cmp op k a k' b (K (.bool true)) (K (.bool false))
 |_=>N.ari op k a k' b fun z=>K (.int k z)
def wStr(N:Nd)(op:BinOp)(a b:ByteArray)(K:Value->Prop):Prop:=match op with
 | .add=>N.cat a b fun s=>K (.string s)
 |_=>N.scmp op a b (K (.bool true)) (K (.bool false))
def wBin(P:Program)(N:Nd)(op:BinOp)(t:TypeId)(x y:Operand)(a b:Value)(H:Heap)(K:VK):Prop:=
 match a,b with
 | .int k m,.int k' n=>wInt N op k m k' n (K · H)
 | .string s,.string s'=>wStr N op s s' (K · H)
 | .bool s,.bool s'=>match P.underlying t with
  |some .bool=>N.bcmp op s s' (K (.bool true) H) (K (.bool false) H)
  |_=>False
 | .agg ⟨l⟩,.agg ⟨l'⟩=>N.agEq op t l l' (K (.bool true) H) (K (.bool false) H)
 |a,b=>opt (aBin P H op t x y a b) (K · H)
def wRdCells(N:Nd)(vs:List Value):List Value->Nat->List Value->(List Value->Prop)->Prop
 | [],_,acc,K=>K acc.reverse
 |z::zs,off,acc,K=>match z with
  | .int k _=>N.rdI k vs off fun z=>wRdCells N vs zs (off+1) (.int k z::acc) K
  | .bool _=>N.rdB vs off (wRdCells N vs zs (off+1) (.bool true::acc) K) (wRdCells N vs zs (off+1) (.bool false::acc) K)
  | .string _=>N.rdS vs off fun z=>wRdCells N vs zs (off+1) (.string z::acc) K
  | .slice none _ _=>N.rdD vs off fun rs=>wRdCells N vs zs (off+1) (.iface mkD (.agg ⟨rs⟩)::acc) K
  |_=>False
def wRd(P:Program)(N:Nd)(t:TypeId)(vs:List Value)(off:Nat)(K:Value->Prop):Prop:=
 match P.underlying t with
 |some (.int k)=>N.rdI k vs off fun z=>K (.int k z)
 |some .bool=>N.rdB vs off (K (.bool true)) (K (.bool false))
 |some .string=>N.rdS vs off fun z=>K (.string z)
 |some (.slice _)=>N.rdD vs off fun rs=>K (.iface mkD (.agg ⟨rs⟩))
 |some (.struct _)=>opt (aSize P t) fun n=>match Nat.ble n 64 with
  |true=>match n,aZero P t with
   |_+1,some (.agg ⟨z⟩)=>match Nat.beq z.length n with
    |true=>wRdCells N vs z off [] fun l=>K (.agg ⟨l⟩)
    |false=>False
   |_,_=>False
  |false=>N.rdA vs off n fun l=>K (.agg ⟨l⟩)
 |some (.array _ _)=>opt (aSize P t) fun n=>N.rdA vs off n fun l=>K (.agg ⟨l⟩)
 |_=>False
def wLoad(P:Program)(N:Nd)(sy:Sy)(t:TypeId)(ad:Addr)(H:Heap)(K:VK):Prop:=
 match sy ad.block with
 |some false=>match ad.spot,H.get ad.block with
  |none,some (.cells vs _ _ _ _)=>wRd P N t vs ad.off (K · H)
  |_,_=>False
 |some true=>match ad.spot with
  |none=>N.cells (H.get ad.block) fun vs=>wRd P N t vs ad.off (K · H)
  |_=>False
 |none=>opt (aLoad P H t ad) (K · H)
def wStore(P:Program)(N:Nd)(sy:Sy)(t:TypeId)(ad:Addr)(v:Value)(H:Heap)(K:VK):Prop:=
 match sy ad.block with
 |some false=>match ad.spot,H.get ad.block,aSize P t with
  |none,some (.cells vs e z lo true),some n=>N.wr vs ad.off n v.cells.toList fun vs'=>K undef (H.put ad.block (some (.cells vs' e z lo true)))
  |_,_,_=>False
 |some true=>match ad.spot,aSize P t with
  |none,some n=>N.own (H.get ad.block) fun vs e z lo=>N.wr vs ad.off n v.cells.toList fun vs'=>K undef (H.put ad.block (some (.cells vs' e z lo true)))
  |_,_=>False
 |none=>opt (aStore P H t ad v) (K undef ·)
def splitL(f:Nat->Prop):Nat->Nat->List Prop
 | 0,_=>[]
 |n+1,k=>f k::splitL f n (k+1)
def wIdx(P:Program)(N:Nd)(sy:Sy)(sp:Nat->Bool)(t:TypeId)(x ix:Value)(H:Heap)(K:VK):Prop:=
 match ix with
 | .int k i=>match P.underlying t,x with
  |some (.array len elem),.pointer (some ad)=>match sy ad.block,ad.spot,aSize P elem with
   |some _,none,some n=>N.idx len ad.off n i fun o=>K (.pointer (some ⟨ad.block,o,none⟩)) H
   |_,_,some n=>match sp ad.block with
    |true=>N.split i (splitL (fun j=>K (.pointer (some (ad.add (j*n)))) H) len 0)
    |false=>opt (aIndexAddr P t x ix) (K · H)
   |_,_,_=>False
  |some (.slice elem),.slice (some ad) len _=>match sy ad.block,ad.spot,aSize P elem with
   |some _,none,some n=>N.idx len ad.off n i fun o=>K (.pointer (some ⟨ad.block,o,none⟩)) H
   |_,_,_=>opt (aIndexAddr P t x ix) (K · H)
  |some (.slice elem),.iface m (.agg ⟨rs⟩)=>match Nat.beq m mkD,aSize P elem,aZero P elem with
   |true,some n,some z=>match Nat.beq z.cells.toList.length n with
    |true=>N.dget rs i n fun cs=>wRdCells N cs z.cells.toList 0 [] fun l=>K (.iface mkP (.agg ⟨l⟩)) H
    |false=>False
   |_,_,_=>False
  |some (.slice elem),.iface m (.slice (some ad) len _)=>match Nat.beq m mkM,ad.spot,aSize P elem with
   |true,none,some n=>N.idx len ad.off n i fun o=>K (.pointer (some ⟨ad.block,o,none⟩)) H
   |_,_,_=>False
  |_,_=>False
 |_=>False
def wFld (P:Program) (sy:Sy) (s:TypeId) (x:Value) (f:Nat) (H:Heap) (K:VK):Prop:=
  match x with
  | .pointer (some ad)=>match sy ad.block with
    |some _=>match ad.spot,P.underlying s with
      |none,some (.struct fields)=>match fields[f]? with
        |some fd=>match aSize P fd.type with
          |some (_+1)=>K (.pointer (some ⟨ad.block,ad.off+fd.offset,none⟩)) H
          |_=>False
        |none=>False
      |_,_=>False
    |none=>opt (aFieldAddr P s x f) (K · H)
  | .iface m (.agg ⟨cs⟩)=>match Nat.beq m mkP with
    |true=>opt (dField P s cs f) (K · H)
    |false=>False
  |_=>False
def wPart(P:Program)(t:TypeId)(x:Value)(f:Nat)(H:Heap)(K:VK):Prop:=opt (aField P t x f) (K · H)
def wAt(P:Program)(N:Nd)(t:TypeId)(x ix:Value)(H:Heap)(K:VK):Prop:=
 match P.underlying t,x,ix with
 |some .string,.string s,.int _ i=>N.sat s i fun z=>K (.int .u8 z) H
 |_,_,_=>opt (aIndex P t x ix) (K · H)
def bdO:Option Value->Option (Option Int)
 |none=>some none
 |some (.int .i64 i)=>some (some i)
 |_=>none
def intsU8:List Value->Option (List Int)
 | []=>some []
 | .int .u8 z::r=>match intsU8 r with
  |some l=>some (z::l)
  |none=>none
 |_::_=>none
def wSlice(P:Program)(N:Nd)(o:Oper)(t:TypeId)(x lo hi mx:Option Operand)(ρ:Operand->Value)(H:Heap)(K:VK):Prop:=
 let alt:=opt (aOp P o ρ H) fun(v,h)=>K v h
 match x.map ρ,mx with
 |some (.string s),none=>match P.underlying t,bdO (lo.map ρ),bdO (hi.map ρ)with
  |some .string,some l,some h=>N.ssl s l h fun s'=>K (.string s') H
  |_,_,_=>False
 |some (.iface m (.agg ⟨rs⟩)),none=>match Nat.beq m mkD,P.underlying t with
  |true,some (.slice elem)=>match aSize P elem,bdO (lo.map ρ),bdO (hi.map ρ)with
   |some n,some l,some h=>N.dsl rs n l h fun rs'=>K (.iface mkD (.agg ⟨rs'⟩)) H
   |_,_,_=>False
  |_,_=>False
 |_,_=>alt
def wConv(P:Program)(N:Nd)(sy:Sy)(o:Oper)(src dst:TypeId)(x:Operand)(ρ:Operand->Value)(H:Heap)(K:VK):Prop:=
 let alt:=opt (aOp P o ρ H) fun(v,h)=>K v h
 match ρ x with
 | .int k a=>match P.underlying dst with
  |some (.int kd)=>N.conv src dst k a kd fun z=>K (.int kd z) H
  |_=>alt
 | .string s=>match P.underlying src,P.underlying dst with
  |some _,some (.slice e)=>match isU8 (P.underlying e)with
   |true=>N.toB s fun vs n=>K (.slice (some ⟨H.next,0,none⟩) n n) (H.push (.cells vs e 1 true true))
   |false=>False
  |_,_=>alt
 | .slice (some a) n c=>match P.underlying src,P.underlying dst with
  |some (.slice e),some .string=>match isU8 (P.underlying e),sy a.block with
   |true,some false=>match a.spot,H.get a.block with
    |none,some (.cells vs _ _ _ _)=>N.strV vs a.off n fun s=>K (.string s) H
    |_,_=>False
   |true,some true=>False
   |true,none=>match aCells H a n with
    |some l=>match intsU8 l with
     |some zs=>N.str zs fun s=>K (.string s) H
     |none=>False
    |none=>False
   |false,_=>False
  |_,_=>alt
 | .iface m (.slice (some a) n c)=>match Nat.beq m mkM,a.off,a.spot with
  |true,0,none=>match P.underlying src,P.underlying dst with
   |some (.slice e),some .string=>match isU8 (P.underlying e)with
    |true=>N.strM n (H.get a.block) fun s=>K (.string s) H
    |false=>False
   |_,_=>False
  |_,_,_=>False
 | .iface m (.agg ⟨rs⟩)=>match Nat.beq m mkD with
  |true=>match P.underlying src,P.underlying dst with
   |some (.slice e),some .string=>match isU8 (P.underlying e)with
    |true=>N.strD rs fun s=>K (.string s) H
    |false=>False
   |_,_=>False
  |false=>False
 |_=>alt
def wBase (N:Nd) (sy:Sy) (s:Value) (H:Heap) (elem:TypeId) (size:Nat) (K:Nat->List Value->Heap->Prop):Prop:=match s with
  | .slice none len cap=>match len,cap with
    | 0,0=>K 0 [] H
    |_,_=>False
  | .slice (some a) len cap=>match a.off,a.spot with
    | 0,none=>match sy a.block with
      |some _=>N.base false len cap (H.get a.block) elem size fun vs=>K len vs (H.put a.block none)
      |none=>match H.get a.block with
        |some (.cells vs e2 sz lo ow)=>match lo with
          |true=>N.base false len cap (some (.cells vs e2 sz true ow)) elem size fun vs=>K len vs (H.put a.block none)
          |false=>match Nat.beq len cap&&Nat.beq (len*size) vs.length with
            |true=>K len vs H
            |false=>False
        |_=>False
    |_,_=>False
  | .iface m (.slice (some a) len cap)=>match Nat.beq m mkM,a.off,a.spot with
    |true,0,none=>N.base true len cap (H.get a.block) elem size fun vs=>K len vs (H.put a.block none)
    |_,_,_=>False
  |_=>False
def wApp (P:Program) (N:Nd) (sy:Sy) (argTypes:Array TypeId) (s x:Value) (H:Heap) (K:VK):Prop:=
  match argTypes.toList with
  | [sType,xType]=>match P.underlying sType,P.underlying xType with
    | some (.slice elem),some dx=>match notInt dx,P.info? elem with
      |true,some i=>match i.zero with
        |some z=>match Nat.beq z.cells.toList.length i.size&&plain z with
          |true=>wBase N sy s H elem i.size fun len vs H1=>
            let put:=fun(vs':List Value) (len':Nat)=>K (.slice (some ⟨H.next,0,none⟩) len' len') (H1.push (.cells vs' elem i.size true true))
            match x with
            | .string t=>match Nat.beq i.size 1 with
              |true=>N.appS len vs t i.bytes (K s H) put
              |false=>False
            | .iface m (.agg ⟨rs⟩)=>match Nat.beq m mkD with
              |true=>N.appD len vs rs i.size i.bytes (K s H) put
              |false=>False
            |x=>match aCellsOf H i.size x with
              |some (n,xs)=>match n with
                | 0=>K s H
                |_+1=>N.appX len vs n xs i.size i.bytes put
              |none=>False
          |false=>False
        |none=>False
      |_,_=>False
    |_,_=>False
  |_=>False
def wLen(P:Program)(N:Nd)(o:Oper)(argTypes:Array TypeId)(x:Value)(alt:Prop)(H:Heap)(K:VK):Prop:=
 match (argTypes[0]?).bind P.underlying,x with
 |some .string,.string s=>N.slen s fun z=>K (.int .i64 z) H
 |some (.slice _),.slice _ n _=>K (.int .i64 n) H
 |some (.slice _),.iface m v=>match Nat.beq m mkD,v with
  |true,.agg ⟨rs⟩=>N.dlen rs fun n=>K (.int .i64 n) H
  |_,.slice (some _) n _=>match Nat.beq m mkM with
   |true=>K (.int .i64 n) H
   |false=>False
  |_,_=>False
 |_,_=>alt
def wOp(P:Program)(N:Nd)(sy:Sy)(sp:Nat->Bool)(o:Oper)(ρ:Operand->Value)(H:Heap)(K:VK):Op->Prop
 | .binOp op t x y _=>wBin P N op t x y (ρ x) (ρ y) H K
 | .unOp op t x=>match ρ x,op with
  | .bool b,.not=>branch b (K (.bool false) H) (K (.bool true) H)
  | .int k a,op=>N.una op t k a fun z=>K (.int k z) H
  |_,_=>opt (aOp P o ρ H) fun(v,h)=>K v h
 | .load t a=>match ρ a with
  | .pointer (some ad)=>wLoad P N sy t ad H K
  | .iface m (.agg ⟨cs⟩)=>match Nat.beq m mkP with
   |true=>opt (dLoad P t cs) (K · H)
   |false=>False
  |_=>False
 | .store t a x=>match ρ a with
  | .pointer (some ad)=>wStore P N sy t ad (ρ x) H K
  |_=>False
 | .pick c a b=>match ρ c with
  | .bool t=>branch t (K (ρ a) H) (K (ρ b) H)
  |_=>False
 | .indexAddr t x ix=>wIdx P N sy sp t (ρ x) (ρ ix) H K
 | .fieldAddr s x f=>wFld P sy s (ρ x) f H K
 | .field t x f=>wPart P t (ρ x) f H K
 | .index t x ix=>wAt P N t (ρ x) (ρ ix) H K
 | .slice t x lo hi mx=>wSlice P N o t (some x) lo hi mx ρ H K
 | .convert src dst x=>wConv P N sy o src dst x ρ H K
 | .call {callee := .builtin b,args,argTypes}=>match b,args.toList.map ρ with
  | .append,[s,x]=>wApp P N sy argTypes s x H K
  | .len,[x]=>wLen P N o argTypes x (opt (aOp P o ρ H) fun(v,h)=>K v h) H K
  | .min,[.int k a,.int k' b]=>match decide (k=k')with
   |true=>N.minI .min argTypes o.type k a b fun z=>K (.int k z) H
   |false=>False
  | .max,[.int k a,.int k' b]=>match decide (k=k')with
   |true=>N.minI .max argTypes o.type k a b fun z=>K (.int k z) H
   |false=>False
  |_,_=>opt (aOp P o ρ H) fun(v,h)=>K v h
 |_=>opt (aOp P o ρ H) fun(v,h)=>K v h
end
end Go.Abs
