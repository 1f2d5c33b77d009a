/- More operations over the abstract heap: building, slicing, appending, converting, comparing. -/
import Derived.Test.YtblbaohcelldpaaA2
import Derived.Laws.BytesString
import Derived.Laws.Strings
set_option linter.all false
namespace Go.Abs
open Go
noncomputable section
section
variable {P:Program} {G:Nat} {F:Nm} {H:Heap} {w0:Base} {w:World}
def aFill(place:Nat->Option (Nat×Nat)):List Value->List (Nat×Value)->Option (List Value)
 |cells,[]=>some cells
 |cells,(i,v)::rest=>match place i with
  |none=>none
  |some (off,size)=>match Nat.beq v.cells.toList.length size&&Nat.ble (off+size) cells.length&&not (isTop v)with
   |true=>aFill place (splice cells off v.cells.toList) rest
   |false=>none
theorem VRL.setAll{F:Nm}:∀ {l l':List Value} {vs vs':List Value} (i:Nat),VRL F vs vs'->VRL F l l'->VRL F (Abs.setAll vs i l) (Abs.setAll vs' i l')
 | [],l',vs,vs',i,h,hl=>by simp only[VRL]at hl;subst hl;exact h
 |v::l,l',vs,vs',i,h,hl=>by
  simp only[VRL]at hl;obtain⟨v',r',h1,h2,e⟩:=hl;subst e
  exact VRL.setAll (i+1) (h.set i h1) h2
theorem zipIdx_setAll(off:Nat):∀(l:List Value) (k:Nat) (cs:Array Value),
  ((l.zipIdx k).foldl (fun(cs:Array Value) (x:Value×Nat)=>cs.setIfInBounds (off+x.2) x.1) cs).toList=setAll cs.toList (off+k) l
 | [],k,cs=>rfl
 |v::l,k,cs=>by
  simp only[List.zipIdx_cons,List.foldl_cons,setAll]
  rw[zipIdx_setAll off l (k+1)]
  simp[Nat.add_assoc]
def PR(F:Nm):List (Nat×Value)->List (Nat×Value)->Prop
 | [],l'=>l'=[]
 |(i,v)::l,l'=>∃v' r',VR F v v'/\PR F l r'/\l'=(i,v')::r'
theorem aFill_ok(place:Nat->Option (Nat×Nat)):∀(parts parts':List (Nat×Value)) (cells:List Value) (cells':Array Value) (r:List Value),
  VRL F cells cells'.toList->PR F parts parts'->aFill place cells parts=some r->∃r',Instr.fill place cells' parts'=some r'/\VRL F r r'.toList
 | [],parts',cells,cells',r,hc,hp,h=>by
  simp only[PR]at hp;subst hp
  simp only[aFill,Option.some.injEq]at h;subst h
  exact⟨cells',rfl,hc⟩
 |(i,v)::parts,parts',cells,cells',r,hc,hp,h=>by
  simp only[PR]at hp;obtain⟨v',q',h1,h2,e⟩:=hp;subst e
  simp only[aFill,splice_eq]at h
  split at h
  ·cases h
  ·rename_i off size hpl
   split at h
   ·rename_i hcond
    simp only[Bool.and_eq_true]at hcond
    have c1:=Nat.eq_of_beq_eq_true hcond.1.1
    have c2:=Nat.le_of_ble_eq_true hcond.1.2
    have h1c:=h1.cells (by simpa using hcond.2)
    have hl:=h1c.length
    have hl2:=hc.length
    simp only[Array.length_toList]at hl hl2 c1
    obtain⟨r',hr,hv⟩:=aFill_ok place parts q' _ (v'.cells.zipIdx.foldl (fun cs (c,j)=>cs.setIfInBounds (off+j) c) cells') r
     (by
      rw[←Array.foldl_toList,Array.toList_zipIdx,zipIdx_setAll]
      simpa using VRL.setAll off hc h1c) h2 h
    refine⟨r',?_,hv⟩
    simp only[Instr.fill,hpl]
    rw[if_neg (by simp[hl,c1,hl2];omega)]
    exact hr
   ·cases h
def aPlaces(P:Program):List Field->Option (List (Nat×Nat))
 | []=>some []
 |f::r=>match aSize P f.type,aPlaces P r with
  |some n,some l=>some ((f.offset,n)::l)
  |_,_=>none
theorem aPlaces_ok:∀(fs:List Field) (l:List (Nat×Nat)),aPlaces P fs=some l->∀w,(fs.mapM fun f=>(Prod.mk f.offset <$> sizeOf f.type:Sem (Nat×Nat))).run P w = .ok l w
 | [],l,h,w=>by simp only[aPlaces,Option.some.injEq]at h;subst h;rfl
 |f::r,l,h,w=>by
  simp only[aPlaces]at h
  split at h
  ·rename_i n l2 hn hl
   simp only[Option.some.injEq]at h;subst h
   simp[List.mapM_cons,run_sizeOf' hn,aPlaces_ok r l2 hl w]
  ·cases h
def aBuild(P:Program)(t:TypeId)(parts:List (Nat×Value)):Option Value:=
 match aZero P t,P.underlying t with
 |some z,some (.struct fields)=>match plain z,aPlaces P fields.toList with
  |true,some places=>match aFill (places[·]?) z.cells.toList parts with
   |some l=>some (.agg l.toArray)
   |none=>none
  |_,_=>none
 |some z,some (.array _ elem)=>match plain z,aSize P elem with
  |true,some size=>match aFill (fun i=>some (i*size,size)) z.cells.toList parts with
   |some l=>some (.agg l.toArray)
   |none=>none
  |_,_=>none
 |_,_=>none
theorem aBuild_ok{t:TypeId}{parts:List (Nat×Value)}{parts':Array (Nat×Value)}(hp:PR F parts parts'.toList){v:Value}(h:aBuild P t parts=some v)(w:World):
  ∃v',(Instr.build t parts').run P w = .ok v' w/\VR F v v':=by
 unfold aBuild at h
 split at h
 ·rename_i z fields hz hu
  split at h
  ·rename_i places hpl hplaces
   split at h
   ·rename_i l hl
    simp only[Option.some.injEq]at h;subst h
    have hz2:=((VR.plain_eq (F:=F) z z hpl).2 rfl).cells (plain_top hpl)
    obtain⟨r',hr,hv⟩:=aFill_ok _ _ _ _ z.cells l hz2 hp hl
    refine⟨.agg r',?_,by simp only[VR];exact⟨r',VRA.ofL (by simpa using hv),rfl⟩⟩
    have hm:(fields.mapM fun f=>(do pure (f.offset,←sizeOf f.type):Sem (Nat×Nat))).run P w = .ok places.toArray w:=by
     rw[Array.mapM_eq_mapM_toList]
     simp[aPlaces_ok _ _ hplaces w]
    simp only[Instr.build,Sem.run_bind,run_zeroValue hz,Result.andThen_ok,run_underlying hu]
    rw[hm]
    simp only[Result.andThen_ok]
    have e:(fun x:Nat=>places.toArray[x]?)=(fun x:Nat=>places[x]?):=by funext x;simp
    rw[e,hr];rfl
   ·cases h
  ·cases h
 ·rename_i z n elem hz hu
  split at h
  ·rename_i size hpl hs
   split at h
   ·rename_i l hl
    simp only[Option.some.injEq]at h;subst h
    have hz2:=((VR.plain_eq (F:=F) z z hpl).2 rfl).cells (plain_top hpl)
    obtain⟨r',hr,hv⟩:=aFill_ok _ _ _ _ z.cells l hz2 hp hl
    refine⟨.agg r',?_,by simp only[VR];exact⟨r',VRA.ofL (by simpa using hv),rfl⟩⟩
    simp only[Instr.build,Sem.run_bind,run_zeroValue hz,Result.andThen_ok,run_underlying hu,run_sizeOf' hs,hr]
    rfl
   ·cases h
  ·cases h
 ·cases h
def aZeros(zs:List Value)(n:Nat):List Value:=match zs with
 | [z]=>List.replicate n z
 |zs=>(List.range n).map fun i=>zs.getD (i % zs.length) default
theorem plainL_get{l:List Value}(h:plainL l=true)(i:Nat):plain (l.getD i default)=true:=by
 induction l generalizing i with
 |nil=>rfl
 |cons v r ih=>
  simp only[plainL,Bool.and_eq_true]at h
  cases i with
  |zero=>exact h.1
  |succ i=>simpa using ih h.2 i
theorem plainL_map{α:Type}(f:α->Value)(hf:∀x,plain (f x)=true):∀l:List α,plainL (l.map f)=true
 | []=>rfl
 |x::l=>by simp only[List.map_cons,plainL,hf x,Bool.true_and];exact plainL_map f hf l
theorem plainA_list{c:Array Value}(h:plainA c=true):plainL c.toList=true:=by cases c;exact h
theorem plain_cells{v:Value}(h:plain v=true):plainL v.cells.toList=true:=by
 cases v<;>first
  |(simp only[Value.cells,plainL,Bool.and_true];exact h)
  |(simp only[plain]at h;exact plainA_list h)
theorem plainL_replicate{z:Value}(h:plain z=true):∀n:Nat,plainL (List.replicate n z)=true
 | 0=>rfl
 |n+1=>by rw[List.replicate_succ,plainL,h,plainL_replicate h n];rfl
theorem aZeros_plain{zs:List Value}(h:plainL zs=true)(n:Nat):plainL (aZeros zs n)=true:=by
 unfold aZeros
 split
 ·simp only[plainL,Bool.and_true]at h;exact plainL_replicate h n
 ·exact plainL_map _ (fun _=>plainL_get h _) _
theorem aZeros_eq(z:Array Value)(n:Nat):((Array.range n).map (z[· % z.size]!)).toList=aZeros z.toList n:=by
 have key:((Array.range n).map (z[· % z.size]!)).toList=(List.range n).map fun i=>z.toList.getD (i % z.toList.length) default:=by
  simp only[Array.toList_map,Array.toList_range]
  refine List.map_congr_left fun i _=>?_
  simp[Array.getElem!_eq_getD,Array.getD_eq_getD_getElem?]
 rw[key]
 unfold aZeros
 split
 ·rename_i v e
  rw[e]
  apply List.ext_getElem?
  intro i
  rw[List.getElem?_map,List.getElem?_replicate]
  by_cases hi:i<n
  ·rw[List.getElem?_range hi,if_pos hi];simp[Nat.mod_one]
  ·rw[List.getElem?_eq_none (by simpa using hi),if_neg hi];rfl
 ·rfl
theorem zeros_run{α:Type}{n:Nat}{elem:TypeId}{z:Value}(hz:aZero P elem=some z)(K:Array Value->Sem α)(w:World):
  (if n=0 then(do let zero ←pure #[];K zero)else(do let x ←zeroValue elem;let zero ←pure x.cells;K zero):Sem α).run P w=(K (if n=0 then #[]else z.cells)).run P w:=by
 by_cases h:n=0<;>simp[h,run_zeroValue hz]
def aZeros0(zs:List Value)(n:Nat):List Value:=match n with | 0=>[] | _=>aZeros zs n
theorem zeros_VRL{z:Value}(hp:plain z=true)(n:Nat):
  VRL F (aZeros0 z.cells.toList n) ((Array.range n).map ((if n=0 then #[]else z.cells)[· % (if n=0 then #[]else z.cells).size]!)).toList:=by
 by_cases h:n=0
 ·subst h;simp[aZeros0,VRL]
 ·have:aZeros0 z.cells.toList n=aZeros z.cells.toList n:=by unfold aZeros0;split<;>simp_all
  rw[this,if_neg h,aZeros_eq]
  exact(VRL.plain_eq _ _ (aZeros_plain (plain_cells hp) _)).2 rfl
def aNewSlice(H:Heap)(elem:TypeId)(sz:Nat)(l:List Value)(len cap:Nat):Value×Heap:=
 (.slice (some ⟨H.next,0,none⟩) len cap,H.push (.cells l elem sz false true))
theorem aNewSlice_ok(R:Rel G F H w0 w){elem:TypeId}{sz:Nat}{l:List Value}{c:Array Value}(hl:VRL F l c.toList)(len cap:Nat):
  OpOK P G F w0 w (do pure (.slice (some (←newRow elem c)) len cap)) (aNewSlice H elem sz l len cap).1 (aNewSlice H elem sz l len cap).2:=by
 have hlen:=hl.length
 simp only[Array.length_toList]at hlen
 obtain⟨hle,R'⟩:=R.push (vs:=l) (c:=c) (elem:=elem) (sz:=sz) (d:=0) (lo:=false) (0,0)
  (by rw[List.take_of_length_le (by simp[hlen])];exact hl) (by simp[hlen]) (fun _=>⟨rfl,hlen,rfl⟩) (by intro i _;simp)
 refine⟨_,.slice (some ⟨w.heap.size,0,none⟩) len cap,_,hle,by simp[newRow],?_,R'⟩
 simp only[aNewSlice,VR];exact⟨⟨w.heap.size,0,none⟩,0,0,Nm.with_self _ _ _,rfl,rfl,rfl⟩
def aBuildSlice(P:Program)(H:Heap)(t:TypeId)(len:Nat)(parts:List (Nat×Value)):Option (Value×Heap):=
 match P.underlying t with
 |some (.slice elem)=>match aSize P elem,aZero P elem with
  |some size,some z=>match Nat.ble (len*size) 16777216&&plain z with
   |true=>match aFill (fun i=>some (i*size,size)) (aZeros0 z.cells.toList (len*size)) parts with
    |some l=>some (aNewSlice H elem size l len len)
    |none=>none
   |false=>none
  |_,_=>none
 |_=>none
theorem aBuildSlice_ok(R:Rel G F H w0 w){t:TypeId}{len:Nat}{parts:List (Nat×Value)}{parts':Array (Nat×Value)}(hp:PR F parts parts'.toList){r:Value×Heap}
  (h:aBuildSlice P H t len parts=some r):OpOK P G F w0 w (Instr.buildSlice t len parts') r.1 r.2:=by
 unfold aBuildSlice at h
 split at h
 ·rename_i elem hu
  split at h
  ·rename_i size z hs hz
   split at h
   ·rename_i hc
    split at h
    ·rename_i l hl
     simp only[Option.some.injEq]at h;subst h
     simp only[Bool.and_eq_true]at hc
     have hle:=Nat.le_of_ble_eq_true hc.1
     obtain⟨r',hr,hv'⟩:=aFill_ok _ _ _ _ _ l (zeros_VRL (F:=F) hc.2 (len*size)) hp hl
     obtain⟨F',v',w',h1,h2,h3,h4⟩:=aNewSlice_ok (P:=P) R (elem:=elem) (sz:=size) hv' len len
     refine⟨F',v',w',h1,?_,h3,h4⟩
     simp only[Instr.buildSlice,Sem.run_bind,run_underlying hu,Result.andThen_ok,run_sizeOf' hs]
     rw[if_neg (by omega)]
     rw[zeros_run (P:=P) hz]
     rw[hr];exact h2
    ·cases h
   ·cases h
  ·cases h
 ·cases h
def tops:Nat:=140737488355328
def aMakeSlice (P:Program) (H:Heap) (t:TypeId) (len cap:Value):Option (Value×Heap):=
  match P.underlying t,len,cap with
  | some (.slice elem),.int _ l,.int _ c=>match P.info? elem with
    |some i=>match decide (0<=l)&&decide (l<=c)&&Nat.ble c.toNat 1099511627776&&Nat.ble (c.toNat*i.bytes) tops with
      |true=>match i.zero with
        |some z=>match plain z with
          |true=>some (aNewSlice H elem i.size (aZeros0 z.cells.toList (c.toNat*i.size)) l.toNat c.toNat)
          |false=>none
        |none=>none
      |false=>none
    |none=>none
  |_,_,_=>none
theorem wrap_small{l:Int}(h:0<=l)(h2:l<=1099511627776):IntKind.i64.wrap l=l:=by
 simp[IntKind.wrap,IntKind.bits,IntKind.signed];omega
theorem aMakeSlice_ok(R:Rel G F H w0 w){t:TypeId}{len cap:Value}{r:Value×Heap}(h:aMakeSlice P H t len cap=some r):
  OpOK P G F w0 w (Instr.makeSlice t len cap) r.1 r.2:=by
 unfold aMakeSlice at h
 split at h
 ·rename_i elem k1 l k2 c hu
  split at h
  ·rename_i i hi
   split at h
   ·rename_i hc
    split at h
    ·rename_i z hz
     split at h
     ·rename_i hp
      simp only[Option.some.injEq]at h;subst h
      simp only[Bool.and_eq_true,decide_eq_true_eq]at hc
      obtain⟨⟨⟨h1,h2⟩,h3⟩,h4⟩:=hc
      have h3:=Nat.le_of_ble_eq_true h3
      have h4:=Nat.le_of_ble_eq_true h4
      unfold tops at h4
      have hl:IntKind.i64.wrap l=l:=wrap_small h1 (by omega)
      have hcw:IntKind.i64.wrap c=c:=wrap_small (by omega) (by omega)
      have hz':aZero P elem=some z:=by simp[aZero,hi,hz]
      have hsz:aSize P elem=some i.size:=by simp[aSize,hi]
      obtain⟨F',v',w',g1,g2,g3,g4⟩:=aNewSlice_ok (P:=P) R (elem:=elem) (sz:=i.size) (zeros_VRL (F:=F) hp (c.toNat*i.size)) l.toNat c.toNat
      refine⟨F',v',w',g1,?_,g3,g4⟩
      have hb1:(i.bytes:Int)*c<=2 ^ 47:=by
       have:((c.toNat*i.bytes:Nat):Int)<=140737488355328:=by omega
       rw[Int.natCast_mul,Int.toNat_of_nonneg (by omega)]at this
       rw[Int.mul_comm];omega
      have ht:((decide (c<0)||decide ((i.bytes:Int)*c > 2 ^ 48))||decide (l<0)||decide (l > c))=false:=by
       simp only[Bool.or_eq_false_iff,decide_eq_false_iff_not]
       refine⟨⟨⟨by omega,?_⟩,by omega⟩,by omega⟩
       have:(2:Int) ^ 47<=2 ^ 48:=by decide
       omega
      simp only[Instr.makeSlice,Sem.run_bind,run_underlying hu,Result.andThen_ok,asInt,asIntOf,Sem.run_pure,run_typeInfo hi,hl,hcw]
      rw[ht]
      simp only[Bool.false_eq_true,if_false,Sem.run_bind,run_askRoom,Result.andThen_ok,run_sizeOf' hsz]
      rw[zeros_run (P:=P) hz']
      exact g2
     ·cases h
    ·cases h
   ·cases h
  ·cases h
 ·cases h
end
end
end Go.Abs
namespace Go.Abs
open Go
noncomputable section
section
variable {P:Program} {G:Nat} {F:Nm} {H:Heap} {w0:Base} {w:World}
def bnd(v:Option Value)(dflt top:Nat):Option Nat:=
 match v with
 |none=>some dflt
 |some (.int _ i)=>match decide (0<=i)&&Nat.ble i.toNat top with
  |true=>some i.toNat
  |false=>none
 |_=>none
theorem bnd_ok{v:Option Value}{dflt top r:Nat}(h:bnd v dflt top=some r)(x:Value)(hv:v=some x)(top':Nat)(ht:top<=top')(code:BoundsCode)(w:World):
  (Instr.sliceBound x top' code).run P w = .ok r w/\r<=top:=by
 subst hv
 unfold bnd at h
 split at h
 ·rename_i e;cases e
 ·rename_i k i e
  simp only[Option.some.injEq]at e;subst e
  split at h
  ·rename_i hc
   simp only[Option.some.injEq]at h;subst h
   simp only[Bool.and_eq_true,decide_eq_true_eq]at hc
   have:=Nat.le_of_ble_eq_true hc.2
   refine⟨?_,this⟩
   simp only[Instr.sliceBound,asIntOf,Sem.run_bind,Sem.run_pure,Result.andThen_ok]
   rw[if_pos ⟨hc.1,by omega⟩];rfl
  ·cases h
 ·cases h
def bnds (len cap:Nat) (lo hi mx:Option Value):Option (Nat×Nat×Nat):=
  match bnd mx cap cap with
  |none=>none
  |some m=>match hi,mx with
    |none,some _=>none
    |_,_=>match bnd hi len m with
      |none=>none
      |some h=>match bnd lo 0 h with
        |none=>none
        |some l=>match Nat.ble h m with
          |true=>some (l,h,m)
          |false=>none
theorem bnds_ok3{len cap:Nat}{lo hi mx:Option Value}{l h m:Nat}(hb:bnds len cap lo hi mx=some (l,h,m))(isS:Bool)(d:Nat)(w:World):
  (Instr.sliceBounds isS len (cap+d) lo hi mx).run P w = .ok (l,h,if mx.isSome then m else m+d) w/\l<=h/\h<=m/\(mx=none->m=cap):=by
 unfold bnds at hb
 split at hb
 ·cases hb
 ·rename_i m' hm
  split at hb
  ·cases hb
  ·rename_i hne
   split at hb
   ·cases hb
   ·rename_i h' hh
    split at hb
    ·cases hb
    ·rename_i l' hl
     split at hb
     ·rename_i hle
      simp only[Option.some.injEq,Prod.mk.injEq]at hb
      obtain⟨e1,e2,e3⟩:=hb
      subst e1;subst e2;subst e3
      have hle:=Nat.le_of_ble_eq_true hle
      have hlh:l'<=h':=by
       cases lo with
       |none=>simp only[bnd,Option.some.injEq]at hl;omega
       |some x=>exact(bnd_ok hl x rfl h' (Nat.le_refl _) .index w (P:=P)).2
      have hmc:mx=none->m'=cap:=by
       intro e;subst e;simp only[bnd,Option.some.injEq]at hm;exact hm.symm
      refine⟨?_,hlh,hle,hmc⟩
      cases mx with
      |none=>
       have hm':=hmc rfl;subst hm'
       cases hi with
       |none=>
        simp only[bnd,Option.some.injEq]at hh;subst hh
        cases lo with
        |none=>simp only[bnd,Option.some.injEq]at hl;subst hl;simp[Instr.sliceBounds]
        |some x=>simp[Instr.sliceBounds,(bnd_ok hl x rfl _ (Nat.le_refl _) .sliceB w (P:=P)).1]
       |some y=>
        have hy:=fun code=>(bnd_ok hh y rfl (m'+d) (by omega) code w (P:=P)).1
        cases lo with
        |none=>simp only[bnd,Option.some.injEq]at hl;subst hl;simp[Instr.sliceBounds,hy]
        |some x=>simp[Instr.sliceBounds,hy,(bnd_ok hl x rfl _ (Nat.le_refl _) .sliceB w (P:=P)).1]
      |some z=>
       have hz:=fun code=>(bnd_ok hm z rfl (cap+d) (by omega) code w (P:=P)).1
       cases hi with
       |none=>exact absurd rfl (hne z rfl)
       |some y=>
        have hy:=fun code=>(bnd_ok hh y rfl m' (Nat.le_refl _) code w (P:=P)).1
        cases lo with
        |none=>simp only[bnd,Option.some.injEq]at hl;subst hl;simp[Instr.sliceBounds,hz,hy]
        |some x=>simp[Instr.sliceBounds,hz,hy,(bnd_ok hl x rfl _ (Nat.le_refl _) .slice3C w (P:=P)).1]
     ·cases hb
theorem Rel.name(R:Rel G F H w0 w)(x:Nat×Nat×Nat):
  Nm.le F (F.with H.next x)/\Rel G (F.with H.next x) {H with next:=H.next+1} w0 w:=by
 have hle:Nm.le F (F.with H.next x):=Nm.le_with (R.fresh _ (Nat.le_refl _)) _
 have hne:∀n o,H.get n=some o->n≠H.next:=fun n o h e=>by
  rw[e,R.nolive (Nat.le_refl _)]at h;cases h
 refine⟨hle,?_⟩
 constructor
 ·intro n o hn
  have h1:=R.obj n o hn
  exact objR_mono hle h1
 ·intro n m o o' hn hm hne' how
  have e1:blk (F.with H.next x) n=blk F n:=by simp[blk,Nm.with,hne n o hn]
  have e2:blk (F.with H.next x) m=blk F m:=by simp[blk,Nm.with,hne m o' hm]
  rw[e1,e2];exact R.inj n m o o' hn hm hne' how
 ·intro n hn
  have hn':H.next+1<=n:=hn
  simp only[Nm.with];rw[if_neg (by omega)];exact R.fresh n (by omega)
 ·intro g hg;exact hle.nm _ _ (R.glob g hg)
 ·exact R.base
 ·exact R.frame
 ·intro b i v hz
  refine⟨(R.froz b i v hz).1,fun n o hn ho=>?_⟩
  have e1:blk (F.with H.next x) n=blk F n:=by simp[blk,Nm.with,hne n o hn]
  rw[e1];exact(R.froz b i v hz).2 n o hn ho
 ·exact R.zprot
 ·exact R.os
 ·exact R.out
 ·exact R.tape
def bytesOf(l:List UInt8):ByteArray:=⟨l.toArray⟩
theorem extract_bytes(s:ByteArray)(l h:Nat):s.extract l h=bytesOf ((s.data.toList.drop l).take (h-l)):=by
 apply ByteArray.ext
 simp only[bytesOf,ByteArray.data_extract]
 apply Array.ext'
 simp[List.extract_eq_take_drop]
def exact? (H:Heap)(n:Nat):Bool:=match H.get n with
 |some (.cells _ _ _ false _)=>true
 |_=>false
def live? (H:Heap)(n:Nat):Bool:=match H.get n with
 |some _=>true
 |none=>false
theorem exact_room(R:Rel G F H w0 w){n b d o:Nat}(h:exact? H n=true)(hF:F n=some (b,d,o)):d=0/\o=0:=by
 unfold exact? at h
 split at h
 ·rename_i vs elem sz ow hg
  obtain⟨b',d',o',c,fz,hF',_,_,_,hex,_⟩:=R.obj _ _ hg
  rw[hF]at hF';simp only[Option.some.injEq,Prod.mk.injEq]at hF'
  obtain⟨_,e2,e3⟩:=hF'
  obtain⟨x1,x2,_⟩:=hex rfl
  exact⟨by omega,by omega⟩
 ·cases h
theorem bnds_ok{len cap:Nat}{lo hi mx:Option Value}{l h m:Nat}(hb:bnds len cap lo hi mx=some (l,h,m))(isS:Bool)(d:Nat)(hd:mx=none∨d=0)(w:World):
 (Instr.sliceBounds isS len (cap+d) lo hi mx).run P w = .ok (l,h,if mx.isSome then m else m+d) w/\l<=h/\h<=m/\(mx=none->m=cap):=bnds_ok3 hb isS d w
def aSlice (P:Program) (H:Heap) (t:TypeId) (x:Value) (lo hi mx:Option Value):Option (Value×Heap):=
  match P.underlying t with
  |some .string=>match x,mx with
    | .string s,none=>match bnds s.size s.size lo hi none with
      |some (l,h,_)=>some (.string (bytesOf ((s.data.toList.drop l).take (h-l))),H)
      |none=>none
    |_,_=>none
  |some (.array n elem)=>match x with
    | .pointer (some a)=>match exact? H a.block,aSize P elem with
      |true,some size=>match bnds n n lo hi mx with
        |some (l,h,m)=>some (.slice (some (if m=l then a else a.add (l*size))) (h-l) (m-l),H)
        |none=>none
      |_,_=>none
    |_=>none
  | some (.slice elem)=>match x with
    | .slice none len cap=>match aSize P elem,bnds len cap lo hi none,mx with
      |some _,some (l,h,m),none=>some (.slice none (h-l) (m-l),H)
      |_,_,_=>none
    | .slice (some a) len cap=>match aSize P elem with
      |none=>none
      |some size=>match bnds len cap lo hi mx with
        |none=>none
        | some (l,h,m)=>match exact? H a.block with
          |true=>some (.slice (some (if m=l then a else a.add (l*size))) (h-l) (m-l),H)
          |false=>match mx with
            |some _=>match a.spot with
              |none=>some (.slice (some ⟨H.next,0,none⟩) (h-l) (m-l),{H with next:=H.next+1})
              |some _=>none
            |none=>match l with
              | 0=>some (.slice (some a) h m,H)
              |_=>match Nat.blt l m with
                |true=>some (.slice (some (a.add (l*size))) (h-l) (m-l),H)
                |false=>match a.spot with
                  |none=>some (.slice (some ⟨H.next,0,none⟩) 0 0,{H with next:=H.next+1})
                  |some _=>none
    |_=>none
  |_=>none
theorem aSlice_ok(R:Rel G F H w0 w){t:TypeId}{x x':Value}(hx:VR F x x'){lo hi mx:Option Value}{r:Value×Heap}(h:aSlice P H t x lo hi mx=some r):
  OpOK P G F w0 w (Instr.sliceAt t x' lo hi mx) r.1 r.2:=by
 unfold aSlice at h
 split at h
 ·rename_i hu
  split at h
  ·rename_i s
   split at h
   ·rename_i l h' m hb
    simp only[Option.some.injEq]at h;subst h
    simp only[VR]at hx;subst hx
    have:=(bnds_ok (P:=P) hb false 0 (.inl rfl) w).1
    simp only[Nat.add_zero,Option.isSome_none,Bool.false_eq_true,if_false]at this
    refine OpOK.same R (v' := .string (bytesOf ((s.data.toList.drop l).take (h' - l)))) ?_ (by simp[VR])
    simp[Instr.sliceAt,Instr.slice,run_underlying hu,this,extract_bytes]
   ·cases h
  ·cases h
 ·rename_i n elem hu
  split at h
  ·rename_i a
   split at h
   ·rename_i size hex hs
    split at h
    ·rename_i l h' m hb
     simp only[Option.some.injEq]at h;subst h
     simp only[VR]at hx;obtain⟨a',ha,e⟩:=hx;subst e
     have:=(bnds_ok (P:=P) hb false 0 (.inr rfl) w).1
     simp only[Nat.add_zero,ite_self]at this
     have har:AR F (if m=l then a else a.add (l*size)) (if m=l then a' else a'.add (l*size)):=by
      split
      ·exact ha
      ·exact ha.add _
     obtain⟨d,o,hF,h1,h2⟩:=ha
     have hbk:(if m=l then a else a.add (l*size)).block=a.block:=by split<;>first|rfl|(unfold Addr.add;split<;>rfl)
     have hd:=(exact_room R hex hF).1
     subst hd
     refine OpOK.same R (v' := .slice (some (if m=l then a' else a'.add (l*size))) (h' - l) (m-l)) ?_ ?_
     ·simp[Instr.sliceAt,run_underlying hu,Instr.sureAddr,this,run_sizeOf' hs]
     ·simp only[VR]
      obtain⟨d2,o2,hF2,h3,h4⟩:=har
      rw[hbk]at hF2
      rw[hF]at hF2;simp only[Option.some.injEq,Prod.mk.injEq]at hF2
      refine⟨_,0,o2,?_,h3,h4,rfl⟩
      rw[hbk,hF,hF2.1,hF2.2.1,hF2.2.2]
    ·cases h
   ·cases h
  ·cases h
 ·rename_i elem hu
  split at h
  ·rename_i len cap
   split at h
   ·rename_i size l h' m hs hb
    simp only[Option.some.injEq]at h;subst h
    simp only[VR]at hx;subst hx
    have:=(bnds_ok (P:=P) hb true 0 (.inl rfl) w).1
    simp only[Nat.add_zero,Option.isSome_none,Bool.false_eq_true,if_false]at this
    ·refine OpOK.same R (v' := .slice none (h' - l) (m-l)) ?_ (by simp[VR])
     simp[Instr.sliceAt,Instr.slice,run_underlying hu,this,run_sizeOf' hs]
   ·cases h
  ·rename_i a len cap
   split at h
   ·cases h
   ·rename_i size hs
    split at h
    ·cases h
    ·rename_i l h' m hb
     simp only[VR]at hx;obtain⟨a',d,o,hF,h1,h2,e⟩:=hx;subst e
     have ha:AR F a a':=⟨d,o,hF,h1,h2⟩
     split at h
     ·rename_i hex
      simp only[Option.some.injEq]at h;subst h
      have hd:=(exact_room R hex hF).1
      subst hd
      have:=(bnds_ok (P:=P) hb true 0 (.inr rfl) w).1
      simp only[Nat.add_zero,ite_self]at this
      have har:AR F (if m=l then a else a.add (l*size)) (if m=l then a' else a'.add (l*size)):=by
       split
       ·exact ha
       ·exact ha.add _
      have hbk:(if m=l then a else a.add (l*size)).block=a.block:=by split<;>first|rfl|(unfold Addr.add;split<;>rfl)
      refine OpOK.same R (v' := .slice (some (if m=l then a' else a'.add (l*size))) (h' - l) (m-l)) ?_ ?_
      ·simp only[Instr.sliceAt,Instr.slice,Sem.run_bind,run_underlying hu,Result.andThen_ok,Nat.add_zero,this,run_sizeOf' hs]
       split<;>simp
      ·simp only[VR]
       obtain⟨d2,o2,hF2,h3,h4⟩:=har
       rw[hbk]at hF2
       rw[hF]at hF2;simp only[Option.some.injEq,Prod.mk.injEq]at hF2
       refine⟨_,0,o2,?_,h3,h4,rfl⟩
       rw[hbk,hF,hF2.1,hF2.2.1,hF2.2.2]
     ·split at h
      ·rename_i y
       split at h
       ·rename_i hsp
        simp only[Option.some.injEq]at h;subst h
        obtain⟨hrun,_,_,_⟩:=bnds_ok3 (P:=P) hb true d w
        simp only[Option.isSome_some,if_true]at hrun
        obtain⟨a2,ha2⟩:∃a2,a2=(if m=l then a' else a'.add (l*size)):=⟨_,rfl⟩
        have hb2:a2.spot=none:=by
         rw[ha2];split
         ·rw[h2,hsp]
         ·unfold Addr.add;split<;>simp[h2,hsp]
        obtain⟨hle,R'⟩:=R.name (a2.block,0,a2.off)
        refine⟨_,.slice (some a2) (h' - l) (m-l),w,hle,?_,?_,R'⟩
        ·simp only[Instr.sliceAt,Instr.slice,Sem.run_bind,run_underlying hu,Result.andThen_ok,hrun,run_sizeOf' hs]
         rw[ha2];split<;>simp
        ·simp only[VR]
         exact⟨a2,0,a2.off,Nm.with_self _ _ _,by simp,by simpa using hb2,rfl⟩
       ·cases h
      ·rename_i hmx
       obtain⟨hrun,hlh,hhm,hmc⟩:=bnds_ok (P:=P) hb true d (.inl rfl) w
       simp only[Option.isSome_none,Bool.false_eq_true,if_false]at hrun
       have hmc:=hmc rfl
       subst hmc
       split at h
       ·rename_i hl0
        simp only[Option.some.injEq]at h;subst h
        refine OpOK.same R (v' := .slice (some a') h' (m+d)) ?_ ?_
        ·simp only[Instr.sliceAt,Instr.slice,Sem.run_bind,run_underlying hu,Result.andThen_ok,hrun,run_sizeOf' hs]
         split<;>simp[Addr.add]
        ·simp only[VR];exact⟨a',d,o,hF,h1,h2,rfl⟩
       ·split at h
        ·rename_i hlt
         have hlt:l<m:=Nat.le_of_ble_eq_true hlt
         simp only[Option.some.injEq]at h;subst h
         have har:=ha.add (l*size)
         obtain⟨d2,o2,hF2,h3,h4⟩:=har
         have hbk:(a.add (l*size)).block=a.block:=by unfold Addr.add;split<;>rfl
         rw[hbk,hF]at hF2;simp only[Option.some.injEq,Prod.mk.injEq]at hF2
         refine OpOK.same R (v' := .slice (some (a'.add (l*size))) (h' - l) (m+d-l)) ?_ ?_
         ·simp only[Instr.sliceAt,Instr.slice,Sem.run_bind,run_underlying hu,Result.andThen_ok,hrun,run_sizeOf' hs]
          rw[if_neg (by omega)];simp
         ·simp only[VR]
          refine⟨_,d,o2,?_,h3,h4,?_⟩
          ·rw[hbk,hF,hF2.1,hF2.2.2]
          ·congr 1;omega
        ·rename_i hlt
         split at h
         ·rename_i hsp
          simp only[Option.some.injEq]at h;subst h
          have hlm:l=m:=by
           have:¬l<m:=fun hc=>by rw[show Nat.blt l m=true from Nat.ble_eq_true_of_le hc]at hlt;cases hlt
           omega
          obtain⟨a2,ha2⟩:∃a2,a2=(if m+d=l then a' else a'.add (l*size)):=⟨_,rfl⟩
          have hb2:a2.spot=none:=by
           rw[ha2];split
           ·rw[h2,hsp]
           ·unfold Addr.add;split<;>simp[h2,hsp]
          obtain⟨hle,R'⟩:=R.name (a2.block,d,a2.off)
          refine⟨_,.slice (some a2) (h' - l) (m+d-l),w,hle,?_,?_,R'⟩
          ·simp only[Instr.sliceAt,Instr.slice,Sem.run_bind,run_underlying hu,Result.andThen_ok,hrun,run_sizeOf' hs]
           rw[ha2];split<;>simp
          ·simp only[VR]
           refine⟨a2,d,a2.off,Nm.with_self _ _ _,by simp,by simpa using hb2,?_⟩
           congr 1<;>omega
         ·cases h
  ·cases h
 ·cases h
end
end
end Go.Abs
