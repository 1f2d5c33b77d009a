/- Operations on lists that stay, and on lists of one's own that may be nil. -/
import Derived.Test.YtblbaohcelldpaaM1
set_option linter.all false
namespace Go.Abs
open Go
noncomputable section
section
variable {P:Program} {G:Nat} {F:Nm} {H:Heap} {w0:Base} {w:World}
theorem addr_eta{a:Addr}(h:a.spot=none):a=⟨a.block,a.off,none⟩:=by rw[←h]
theorem addr_add{a:Addr}(h:a.spot=none)(n:Nat):a.add n=⟨a.block,a.off+n,none⟩:=by
 unfold Addr.add;split
 ·rename_i e;rw[e,Nat.add_zero];exact addr_eta h
 ·rfl
def dLoad(P:Program)(t:TypeId)(cs:List Value):Option Value:=match P.underlying t with
 |none=>none
 |some d=>match isAggD d with
  |true=>match aSize P t with
   |some n=>match Nat.ble n cs.length with
    |true=>some (.agg ⟨cs.take n⟩)
    |false=>none
   |none=>none
  |false=>cs[0]?
theorem dLoad_ok(R:Rel G F H w0 w){cs:List Value}{v':Value}(hx:VR F (.iface mkP (.agg ⟨cs⟩)) v'){t:TypeId}{v:Value}(h:dLoad P t cs=some v):
  ∃a,v' = .pointer (some a)/\∃v2,(loadVar t a).run P w = .ok v2 w/\VR F v v2:=by
 obtain⟨cs',a,h1,h2,h3,h4⟩:=hx.P_cases
 refine⟨a,h2,?_⟩
 have ea:=addr_eta h3
 unfold dLoad at h
 split at h
 ·cases h
 rename_i d hd
 split at h
 ·rename_i hagg
  split at h
  ·rename_i n hn
   split at h
   ·rename_i hle
    have hle:=Nat.le_of_ble_eq_true hle
    simp only[Option.some.injEq]at h;subst h
    have hl:=h1.length
    have hr:=R.zload P h4 (n:=n) (by omega)
    rw[←ea]at hr
    refine⟨.agg ⟨cs'.take n⟩,?_,VR.ofAggL (VRL.take n h1.bare_up)⟩
    simp[loadVar,run_isAgg hd,hagg,run_sizeOf' hn,hr]
   ·cases h
  ·cases h
 ·rename_i hagg
  obtain⟨v2,g1,g2⟩:=h1.get h
  refine⟨v2,?_,g2.bare_up⟩
  have hc:=R.zcell (h4 0 v2 g1)
  rw[Nat.add_zero,←ea]at hc
  simp only[loadVar,Sem.run_bind,run_isAgg hd,hagg,Result.andThen_ok,Bool.false_eq_true,if_false,run_load,hc]
def dField(P:Program)(s:TypeId)(cs:List Value)(field:Nat):Option Value:=match P.underlying s with
 |some (.struct fields)=>match fields[field]? with
  |some f=>match aSize P f.type with
   |some (_+1)=>some (.iface mkP (.agg ⟨cs.drop f.offset⟩))
   |_=>none
  |none=>none
 |_=>none
theorem dField_ok{cs:List Value}{v':Value}(hx:VR F (.iface mkP (.agg ⟨cs⟩)) v'){s:TypeId}{f:Nat}{v:Value}(h:dField P s cs f=some v)(w:World):
  ∃v2,(Instr.fieldAt s v' f).run P w = .ok v2 w/\VR F v v2:=by
 obtain⟨cs',a,h1,h2,h3,h4⟩:=hx.P_cases
 subst h2
 unfold dField at h
 split at h
 ·rename_i fields hu
  split at h
  ·rename_i fd hf
   split at h
   ·rename_i n hs
    simp only[Option.some.injEq]at h;subst h
    refine⟨.pointer (some (a.add fd.offset)),?_,VR.P_mk (cs':=cs'.drop fd.offset) (VRL.drop _ h1) (by rw[addr_add h3]) fun j x hj=>?_⟩
    ·simp[Instr.fieldAt,run_underlying hu,hf,Instr.sureAddr,fieldPlace,run_sizeOf' hs]
    ·rw[List.getElem?_drop]at hj
     have:=h4 _ x hj
     rw[addr_add h3]
     rw[←Nat.add_assoc]at this;exact this
   ·cases h
  ·cases h
 ·cases h
def dIndex(P:Program)(t:TypeId)(rows:List Value)(i:Int):Option Value:=match P.underlying t with
 |some (.slice elem)=>match aSize P elem,decide (0<=i),rows[i.toNat]? with
  |some n,true,some (.agg ⟨cs⟩)=>match Nat.beq cs.length n with
   |true=>some (.iface mkP (.agg ⟨cs⟩))
   |false=>none
  |_,_,_=>none
 |_=>none
theorem dIndex_ok{rows:List Value}{v':Value}(hx:VR F (.iface mkD (.agg ⟨rows⟩)) v'){t:TypeId}{k:IntKind}{i:Int}{v:Value}(h:dIndex P t rows i=some v)(w:World):
  ∃v2,(Instr.indexAt t v' (.int k i)).run P w = .ok v2 w/\VR F v v2:=by
 unfold dIndex at h
 split at h
 ·rename_i elem hu
  split at h
  ·rename_i n cs hs hi hr
   split at h
   ·rename_i hl
    have hl:=Nat.eq_of_beq_eq_true hl
    have hi:0<=i:=by simpa using hi
    simp only[Option.some.injEq]at h;subst h
    have hlt:i.toNat<rows.length:=(List.getElem?_eq_some_iff.1 hr).1
    rcases hx.D_cases with⟨e,_⟩ | ⟨rows',a,c,sz,g1,g2,g3,g4,g5,g6⟩
    ·subst e;simp at hlt
    ·subst g2
     obtain⟨r',q1,q2⟩:=g1.get hr
     obtain⟨cs',e1,q3⟩:=q2.aggL
     subst e1
     obtain⟨cs2,k1,k2,k3⟩:=g6 _ _ q1
     simp only[Value.agg.injEq,Array.mk.injEq]at k1;subst k1
     have hsz:sz=n:=by rw[←k2,q3.length,hl]
     subst hsz
     refine⟨.pointer (some (a.add (i.toNat*sz))),?_,VR.P_mk q3 (by rw[addr_add g4]) (by rw[addr_add g4];exact k3)⟩
     have hlt:0<=i/\i<(rows.length:Int):=⟨hi,by omega⟩
     simp[Instr.indexAt,asIntOf,run_underlying hu,run_sizeOf' hs,hlt]
   ·cases h
  ·cases h
 ·cases h
theorem mIndex_ok{a:Addr}{n c:Nat}{v':Value}(hx:VR F (.iface mkM (.slice (some a) n c)) v'){t:TypeId}{k:IntKind}{i:Int}{v:Value}(h:aIndexAddr P t (.slice (some a) n c) (.int k i)=some v)(w:World):
  ∃v2,(Instr.indexAt t v' (.int k i)).run P w = .ok v2 w/\VR F v v2:=by
 rcases hx.M_cases with⟨_,hx⟩ | ⟨e,_⟩
 ·exact aIndexAddr_ok hx h w
 ·subst e
  unfold aIndexAddr at h
  simp only at h
  split at h
  ·rename_i e;cases e
  ·rename_i e
   simp only[Value.slice.injEq,Option.some.injEq]at e
   obtain⟨_,e2,_⟩:=e
   subst e2
   split at h
   ·rename_i hc
    simp[Nat.blt]at hc
   ·cases h
  ·cases h
def rowLen(size:Nat):List Value->Bool
 | []=>true
 | .agg ⟨cs⟩::_=>Nat.beq cs.length size
 |_::_=>false
def dSlice(P:Program)(t:TypeId)(rows:List Value)(lo hi mx:Option Value):Option Value:=match P.underlying t with
 |some (.slice elem)=>match aSize P elem,bnds rows.length rows.length lo hi mx with
  |some size,some (l,h,m)=>match mx with
   |none=>match rowLen size rows with
    |true=>some (.iface mkD (.agg ⟨(rows.drop l).take (h-l)⟩))
    |false=>none
   |some _=>match Nat.beq l m with
    |true=>some (.iface mkM (.slice (some ⟨0,0,none⟩) 0 0))
    |false=>none
  |_,_=>none
 |_=>none
theorem zRows.drop{z:Nat->Nat->Option Value}{b off sz:Nat}{rows:List Value}(h:zRows z b off sz rows)(l:Nat):zRows z b (off+l*sz) sz (rows.drop l):=fun i r hi=>by
 rw[List.getElem?_drop]at hi
 obtain⟨cs,g1,g2,g3⟩:=h _ r hi
 refine⟨cs,g1,g2,?_⟩
 rw[show off+l*sz+i*sz=off+(l+i)*sz by rw[Nat.add_mul];omega];exact g3
theorem zRows.take{z:Nat->Nat->Option Value}{b off sz:Nat}{rows:List Value}(h:zRows z b off sz rows)(l:Nat):zRows z b off sz (rows.take l):=fun i r hi=>by
 rw[List.getElem?_take]at hi
 split at hi
 ·exact h i r hi
 ·cases hi
theorem rowLen_sz{z:Nat->Nat->Option Value}{b off sz size:Nat}:∀ {rows rows':List Value},rowLen size rows=true->rows≠[]->VRL F.bare rows rows'->zRows z b off sz rows'->sz=size
 | [],_,_,h,_,_=>absurd rfl h
 |r::rs,rows',hrl,hne,g1,g6=>by
  clear hne
  simp only[VRL]at g1
  obtain⟨x,y,q1,_,q2⟩:=g1
  subst q2
  cases r<;>simp only[rowLen,Bool.false_eq_true]at hrl
  rename_i cc
  obtain⟨cs⟩:=cc
  obtain⟨cs',e1,q3⟩:=q1.aggL
  obtain⟨cs2,k1,k2,_⟩:=g6 0 x rfl
  rw[e1]at k1;simp only[Value.agg.injEq,Array.mk.injEq]at k1;subst k1
  rw[←k2,q3.length,Nat.eq_of_beq_eq_true hrl]
theorem dSlice_ok{rows:List Value}{v':Value}(hx:VR F (.iface mkD (.agg ⟨rows⟩)) v'){t:TypeId}{lo hi mx:Option Value}{v:Value}(h:dSlice P t rows lo hi mx=some v)(w:World):
  ∃v2,(Instr.sliceAt t v' lo hi mx).run P w = .ok v2 w/\VR F v v2:=by
 unfold dSlice at h
 split at h
 case h_2=>cases h
 rename_i elem hu
 split at h
 case h_2=>cases h
 rename_i size l h' m hs hb
 -- what comes of it
 have key:∀(a:Option Addr) (d:Nat),∀(hn:a=none->rows.length=0),(Instr.sliceAt t (.slice a rows.length (rows.length+d)) lo hi mx).run P w=
   .ok (.slice (a.map fun a=>if (if mx.isSome then m else m+d)=l then a else a.add (l*size)) (h' - l) ((if mx.isSome then m else m+d)-l)) w:=by
  intro a d hn
  obtain⟨hrun,_,_,_⟩:=bnds_ok3 (P:=P) hb true d w
  cases a with
  |none=>simp[Instr.sliceAt,Instr.slice,run_underlying hu,hrun,run_sizeOf' hs]
  |some a=>
   simp only[Instr.sliceAt,Instr.slice,Sem.run_bind,run_underlying hu,Result.andThen_ok,hrun,run_sizeOf' hs]
   split<;>split<;>simp_all
 obtain⟨_,hlh,hhm,hmc⟩:=bnds_ok3 (P:=P) hb true 0 w
 -- how it lies
 have lies:∃a d,v' = .slice a rows.length (rows.length+d)/\(a=none->rows.length=0):=by
  rcases hx.D_cases with⟨e,a,c,e2⟩ | ⟨rows',a,c,sz,g1,g2,g3,g4,g5,g6⟩
  ·subst e;subst e2;exact⟨a,c,by simp,fun _=>rfl⟩
  ·subst g2;exact⟨some a,c-rows.length,by congr 1;omega,fun e=>by cases e⟩
 split at h
 ·split at h
  ·rename_i hrl
   simp only[Option.some.injEq]at h;subst h
   have hm:=hmc rfl
   by_cases he:h' - l=0
   ·obtain⟨a,d,e,hn⟩:=lies
    subst e
    rw[key a d hn,he]
    exact⟨_,rfl,by rw[List.take_zero];exact VR.D_nil _ _⟩
   ·rcases hx.D_cases with⟨e,a,c,e2⟩ | ⟨rows',a,c,sz,g1,g2,g3,g4,g5,g6⟩
    ·subst e;simp at hm;omega
    ·have e3:c=rows.length+(c-rows.length):=by omega
     subst g2
     rw[e3,key (some a) (c-rows.length) (fun e=>by cases e)]
     refine⟨_,rfl,?_⟩
     simp only[Option.isSome_none,Bool.false_eq_true,if_false,Option.map_some]
     rw[if_neg (by omega)]
     have hsz:sz=size:=rowLen_sz hrl (fun e=>by subst e;simp at hm;omega) g1 g6
     subst hsz
     have hlen:((rows.drop l).take (h' - l)).length=h' - l:=by rw[List.length_take,List.length_drop];omega
     have:=VR.D_mk (F:=F) (rows:=(rows.drop l).take (h' - l)) (rows':=(rows'.drop l).take (h' - l)) (a:=a.add (l*sz)) (c:=m+(c-rows.length)-l) (sz:=sz) (VRL.take _ (VRL.drop _ g1)) (by omega) (by rw[addr_add g4]) g5
      (by rw[addr_add g4];exact(g6.drop l).take _)
     rw[hlen]at this;exact this
  ·cases h
 ·split at h
  ·rename_i y hlm
   have hlm:=Nat.eq_of_beq_eq_true hlm
   simp only[Option.some.injEq]at h;subst h
   obtain⟨a,d,e,hn⟩:=lies
   subst e
   rw[key a d hn]
   refine⟨_,rfl,?_⟩
   simp only[Option.isSome_some,if_true]
   rw[show h' - l=0 by omega,show m-l=0 by omega]
   exact VR.M_nil _ _ _
  ·cases h
def dLen:Value->Option Int
 | .iface m (.agg ⟨rows⟩)=>match Nat.beq m mkD with
  |true=>some rows.length
  |false=>none
 | .iface m (.slice (some _) n _)=>match Nat.beq m mkM with
  |true=>some n
  |false=>none
 |_=>none
theorem dLen_ok{x x':Value}(hx:VR F x x'){n:Int}(h:dLen x=some n):∃(a:Option Addr) (k c:Nat),n=k/\x' = .slice a k c:=by
 unfold dLen at h
 split at h
 ·split at h
  ·rename_i hm
   have hm:=Nat.eq_of_beq_eq_true hm
   subst hm
   simp only[Option.some.injEq]at h;subst h
   rcases hx.D_cases with⟨e,a,c,e2⟩ | ⟨rows',a,c,sz,g1,g2,_⟩
   ·subst e;exact⟨a,0,c,rfl,e2⟩
   ·exact⟨_,_,_,rfl,g2⟩
  ·cases h
 ·split at h
  ·rename_i hm
   have hm:=Nat.eq_of_beq_eq_true hm
   subst hm
   simp only[Option.some.injEq]at h;subst h
   rcases hx.M_cases with⟨_,hx⟩ | ⟨e,a',e2⟩
   ·simp only[VR]at hx;obtain⟨a',d,o,_,_,_,e⟩:=hx;exact⟨_,_,_,rfl,e⟩
   ·subst e;exact⟨_,_,_,rfl,e2⟩
  ·cases h
 ·cases h
def dConv(P:Program)(H:Heap)(src dst:TypeId)(x:Value):Option Value:=match P.underlying src,P.underlying dst with
 |some (.slice e),some .string=>match isU8 (P.underlying e),aCellsOf H 1 x with
  |true,some (n,l)=>match mkd x,Nat.beq l.length n,toBytes l with
   |true,true,some bs=>some (.string (bytesOf bs))
   |_,_,_=>none
  |_,_=>none
 |_,_=>none
theorem dConv_ok(R:Rel G F H w0 w){x x':Value}(hx:VR F x x'){src dst:TypeId}{v:Value}(h:dConv P H src dst x=some v):∃v2,(convert src dst x').run P w = .ok v2 w/\VR F v v2:=by
 unfold dConv at h
 split at h
 case h_2=>cases h
 rename_i e hs hd
 split at h
 case h_2=>cases h
 rename_i n l he hc
 split at h
 case h_2=>cases h
 rename_i bs hmk hl hbs
 have hl:=Nat.eq_of_beq_eq_true hl
 simp only[Option.some.injEq]at h;subst h
 obtain⟨h1,l',h2,h3⟩:=aCellsOf_ok (P:=P) R hx hc
 have he':P.underlying e=some (.int .u8):=by
  unfold isU8 at he;split at he
  ·assumption
  ·cases he
 have hx':∃a k c,x' = .slice a k c:=by
  cases x<;>try(simp[mkd]at hmk;done)
  rename_i t x
  have hmk:isMk t=true:=hmk
  rcases hx.iface_cases with⟨e,_⟩ | ⟨_,h⟩
  ·rw[hmk]at e;cases e
  ·rcases h with h|⟨a,e⟩
   ·exact h
   ·subst e
    simp[Builtin.lenOf]at h1
 obtain⟨a,k,c,e1⟩:=hx'
 subst e1
 have hk:k=n:=by simpa [Builtin.lenOf]using h1
 subst hk
 obtain⟨ns,g1,g2⟩:=toBytes_ok _ _ _ h3 hbs
 subst g1;subst g2
 refine⟨.string (bytesOf (ns.map fun n=>UInt8.ofNat n.toNat)),?_,by simp[VR]⟩
 rw[run_convert_bytes_string w src dst e _ _ _ hs he' hd]
 cases a with
 |none=>
  simp only[Builtin.firstCells,Sem.run_pure,Result.ok.injEq,and_true]at h2
  have h4:ns=[]:=by
   have:=congrArg Array.toList h2
   cases ns<;>simp_all
  subst h4
  rfl
 |some a=>
  simp only[Builtin.firstCells,Nat.mul_one]at h2
  rw[run_bytesToString w a k c ns (by simpa using h2),foldl_push]
  rfl
def dApp (P:Program) (H:Heap) (argTypes:Array TypeId) (args:List Value):Option (Value×Heap):=
  match argTypes.toList,args with
  | [sType,xType],[s,x]=>match s with
    | .iface m (.slice (some a) len cap)=>match Nat.beq m mkM with
      | true => match P.underlying sType,P.underlying xType with
        | some (.slice elem),some dx=>match notInt dx,P.info? elem with
          |true,some i=>match aCellsOf H i.size x,i.zero with
            | some (n,xs),some z=>match Nat.beq z.cells.toList.length i.size&&plain z&&Nat.beq xs.length (n*i.size)&&xs.all isCell&&Nat.ble len cap with
              |true=>match n with
                | 0=>some (s,H)
                |_=>match len with
                  | 0=>match Nat.ble ((2*n+192)*i.bytes) tops&&Nat.ble n 1099511627776 with
                    |true=>some (aGrown (H.put a.block none) elem i.size xs n)
                    |false=>none
                  |k+1=>aAppend P H argTypes [.slice (some a) (k+1) cap,x]
              |false=>none
            |_,_=>none
          |_,_=>none
        |_,_=>none
      |false=>none
    |_=>none
  |_,_=>none
theorem dApp_ok(R:Rel G F H w0 w){argTypes:Array TypeId}{t:TypeId}{args:List Value}{args':Array Value}(ha:VRL F args args'.toList){r:Value×Heap}
  (h:dApp P H argTypes args=some r):OpOK P G F w0 w (Builtin.append_ argTypes t args') r.1 r.2:=by
 unfold dApp at h
 split at h
 case h_2=>cases h
 rename_i sType xType s x hat
 obtain⟨s',x',e,hs,hx⟩:=ha.two
 have e1:args'=#[s',x']:=by apply Array.ext';simpa using e
 have e2:argTypes=#[sType,xType]:=by apply Array.ext';simpa using hat
 subst e1
 split at h
 case h_2=>cases h
 rename_i m a len cap
 split at h
 case h_2=>cases h
 rename_i hm
 have hm:=Nat.eq_of_beq_eq_true hm
 subst hm
 split at h
 case h_2=>cases h
 rename_i elem dx hus hux
 split at h
 case h_2=>cases h
 rename_i i hdx hi
 split at h
 case h_2=>cases h
 rename_i n xs z hcx hz
 obtain⟨hlen,xs',hrx,hvx⟩:=aCellsOf_ok (P:=P) R hx hcx
 split at h
 case h_2=>cases h
 rename_i hc
 simp only[Bool.and_eq_true]at hc
 obtain⟨⟨⟨⟨hc1,hc2⟩,hc3⟩,hc4⟩,hc5⟩:=hc
 have hc1:=Nat.eq_of_beq_eq_true hc1
 have hc3:=Nat.eq_of_beq_eq_true hc3
 have hc5:=Nat.le_of_ble_eq_true hc5
 simp only[Array.length_toList]at hc1
 split at h
 ·simp only[Option.some.injEq]at h;subst h
  have hxs:xs=[]:=by cases xs<;>simp_all
  subst hxs;simp only[VRL]at hvx;subst hvx;subst e2
  have hsl:∃b l c,s' = .slice b l c/\l<=c:=by
   rcases hs.M_cases with⟨_,hs⟩ | ⟨_,a',e⟩
   ·simp only[VR]at hs;obtain⟨a',d,o,_,_,_,e⟩:=hs;exact⟨_,_,_,e,by omega⟩
   ·exact⟨_,_,_,e,Nat.le_refl _⟩
  obtain⟨b,l,c,e3,hle⟩:=hsl
  subst e3
  refine OpOK.same R (v' := .slice b l c) ?_ hs
  rw[append_fit hus hux hdx hi hlen (by omega),hrx]
  cases b<;>simp[storeCells]
 ·rename_i hn
  split at h
  ·subst e2
   have hs0:∃a',s' = .slice a' 0 0:=by
    rcases hs.M_cases with⟨e,_⟩ | ⟨_,h⟩
    ·exact absurd rfl e
    ·exact h
   obtain⟨a',e3⟩:=hs0
   subst e3
   split at h
   case h_2=>cases h
   rename_i hb
   simp only[Bool.and_eq_true]at hb
   have hb1:=Nat.le_of_ble_eq_true hb.1
   have hb2:=Nat.le_of_ble_eq_true hb.2
   simp only[Option.some.injEq]at h;subst h
   obtain⟨newCap,w1,hcap,⟨k,hk⟩,hrun⟩:=append_grow (P:=P) (w:=w) (t:=t) (sLen:=0) (sCap:=0) (base:=a') hus hux hdx hi hz hlen (fun e=>hn (by omega)) (by simpa using hb1) (by simpa using hb2)
   subst hk
   obtain⟨_,ys,hry,hvy⟩:=aCellsOf_ok (P:=P) (R.draws k) hx hcx
   obtain⟨F',v',w',g1,g2,g3,g4⟩:=aGrown_ok (P:=P) ((R.draws k).drop a.block) (elem:=elem) (sz:=i.size) (z:=z.cells) (newCap:=newCap) hvy hc1 (by simpa using hcap)
   refine⟨F',v',w',g1,?_,g3,g4⟩
   rw[hrun]
   have h0:(Builtin.firstCells i.size 0 (.slice a' 0 0)).run P {w with drawn:=k} = .ok #[] {w with drawn:=k}:=by
    cases a'<;>simp[Builtin.firstCells,loadCells,loadCellsFrom]
   rw[h0]
   simp only[Result.andThen_ok]
   rw[hry]
   simpa using g2
  ·rename_i k
   rcases hs.M_cases with⟨_,hs⟩ | ⟨e,_⟩
   ·exact aAppend_ok (P:=P) (t:=t) (args':=#[s',x']) R (by simp only[VRL];exact⟨s',_,hs,⟨x',_,hx,rfl,rfl⟩,rfl⟩) h
   ·cases e
end
end
end Go.Abs
