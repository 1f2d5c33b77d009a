/- Addresses of parts, parts of values, appending, copying, converting. -/
import Derived.Test.YtblbaohcelldpaaA4
set_option linter.all false
namespace Go.Abs
open Go
noncomputable section
section
variable {P:Program} {G:Nat} {F:Nm} {H:Heap} {w0:Base} {w:World}
def aFieldAddr(P:Program)(s:TypeId)(x:Value)(field:Nat):Option Value:=
 match P.underlying s with
 |some (.struct fields)=>match fields[field]?,x with
  |some f,.pointer (some a)=>match aSize P f.type with
   |some (_+1)=>some (.pointer (some (a.add f.offset)))
   |_=>none
  |_,_=>none
 |_=>none
theorem aFieldAddr_ok{s:TypeId}{x x':Value}(hx:VR F x x'){field:Nat}{v:Value}(h:aFieldAddr P s x field=some v)(w:World):
  ∃v',(Instr.fieldAt s x' field).run P w = .ok v' w/\VR F v v':=by
 unfold aFieldAddr at h
 split at h
 ·rename_i fields hu
  split at h
  ·rename_i f a hf
   split at h
   ·rename_i n hs
    simp only[Option.some.injEq]at h;subst h
    simp only[VR]at hx;obtain⟨a',ha,e⟩:=hx;subst e
    refine⟨.pointer (some (a'.add f.offset)),?_,by simp only[VR];exact⟨_,ha.add _,rfl⟩⟩
    simp[Instr.fieldAt,run_underlying hu,hf,Instr.sureAddr,fieldPlace,run_sizeOf' hs]
   ·cases h
  ·cases h
 ·cases h
def aIndexAddr(P:Program)(t:TypeId)(x index:Value):Option Value:=
 match index with
 | .int _ i=>match P.underlying t,x with
  |some (.array len elem),.pointer (some a)=>match aSize P elem,decide (0<=i)&&Nat.blt i.toNat len with
   |some n,true=>some (.pointer (some (a.add (i.toNat*n))))
   |_,_=>none
  |some (.slice elem),.slice (some a) len _=>match aSize P elem,decide (0<=i)&&Nat.blt i.toNat len with
   |some n,true=>some (.pointer (some (a.add (i.toNat*n))))
   |_,_=>none
  |_,_=>none
 |_=>none
theorem aIndexAddr_ok{t:TypeId}{x x' index:Value}(hx:VR F x x'){v:Value}(h:aIndexAddr P t x index=some v)(w:World):
  ∃v',(Instr.indexAt t x' index).run P w = .ok v' w/\VR F v v':=by
 unfold aIndexAddr at h
 split at h
 ·rename_i k i
  split at h
  ·rename_i len elem a hu
   split at h
   ·rename_i n hs hc
    simp only[Option.some.injEq]at h;subst h
    simp only[Bool.and_eq_true,decide_eq_true_eq]at hc
    have h2:=Nat.le_of_ble_eq_true hc.2
    simp only[VR]at hx;obtain⟨a',ha,e⟩:=hx;subst e
    refine⟨.pointer (some (a'.add (i.toNat*n))),?_,by simp only[VR];exact⟨_,ha.add _,rfl⟩⟩
    have hlt:0<=i/\i<(len:Int):=⟨hc.1,by omega⟩
    simp[Instr.indexAt,asIntOf,run_underlying hu,Instr.sureAddr,run_sizeOf' hs,hlt]
   ·cases h
  ·rename_i elem a len cap hu
   split at h
   ·rename_i n hs hc
    simp only[Option.some.injEq]at h;subst h
    simp only[Bool.and_eq_true,decide_eq_true_eq]at hc
    have h2:=Nat.le_of_ble_eq_true hc.2
    simp only[VR]at hx;obtain⟨a',d,o,hF,h3,h4,e⟩:=hx;subst e
    have ha:AR F a a':=⟨d,o,hF,h3,h4⟩
    refine⟨.pointer (some (a'.add (i.toNat*n))),?_,by simp only[VR];exact⟨_,ha.add _,rfl⟩⟩
    have hlt:0<=i/\i<(len:Int):=⟨hc.1,by omega⟩
    simp[Instr.indexAt,asIntOf,run_underlying hu,run_sizeOf' hs,hlt]
   ·cases h
  ·cases h
 ·cases h
def aField(P:Program)(t:TypeId)(x:Value)(field:Nat):Option Value:=
 match P.underlying t,x with
 |some (.struct fields),.agg cs=>match fields[field]? with
  |some f=>aPart P f.type cs.toList f.offset
  |none=>none
 |_,_=>none
theorem aField_ok{t:TypeId}{x x':Value}(hx:VR F x x'){field:Nat}{v:Value}(h:aField P t x field=some v)(w:World):
  ∃v',(Instr.field t x' field).run P w = .ok v' w/\VR F v v':=by
 unfold aField at h
 split at h
 ·rename_i fields cs hu
  split at h
  ·rename_i f hf
   simp only[VR]at hx;obtain⟨cs',hc,e⟩:=hx;subst e
   obtain⟨v',hr,hv⟩:=aPart_ok hc h w
   exact⟨v',by simp[Instr.field,run_underlying hu,hf,asAgg,hr],hv⟩
  ·cases h
 ·cases h
def aIndex(P:Program)(t:TypeId)(x index:Value):Option Value:=
 match index with
 | .int _ i=>match decide (0<=i)with
  |false=>none
  |true=>match P.underlying t,x with
   |some (.array len elem),.agg cs=>match aSize P elem,Nat.blt i.toNat len with
    |some n,true=>aPart P elem cs.toList (i.toNat*n)
    |_,_=>none
   |some .string,.string s=>match s.data.toList[i.toNat]? with
    |some b=>some (.int .u8 b.toNat)
    |none=>none
   |_,_=>none
 |_=>none
theorem bytes_getElem? (s:ByteArray)(i:Nat):s[i]?=s.data.toList[i]?:=by
 by_cases h:i<s.size
 ·rw[ByteArray.getElem?_lt' s i h]
  obtain⟨d⟩:=s
  have h':i<d.size:=h
  show some d[i]=d.toList[i]?
  simp[h']
 ·rw[ByteArray.getElem?_ge' s i h]
  obtain⟨d⟩:=s
  have h':¬i<d.size:=h
  show none=d.toList[i]?
  simp;omega
theorem aIndex_ok{t:TypeId}{x x' index:Value}(hx:VR F x x'){v:Value}(h:aIndex P t x index=some v)(w:World):
  ∃v',(Instr.index t x' index).run P w = .ok v' w/\VR F v v':=by
 unfold aIndex at h
 split at h
 ·rename_i k i
  split at h
  ·cases h
  ·rename_i hi
   have hi:0<=i:=by simpa using hi
   split at h
   ·rename_i len elem cs hu
    split at h
    ·rename_i n hs hc
     have h2:=Nat.le_of_ble_eq_true hc
     simp only[VR]at hx;obtain⟨cs',hc',e⟩:=hx;subst e
     obtain⟨v',hr,hv⟩:=aPart_ok hc' h w
     have hlt:0<=i/\i<(len:Int):=⟨hi,by omega⟩
     exact⟨v',by simp[Instr.index,asIntOf,run_underlying hu,hlt,run_sizeOf' hs,hr],hv⟩
    ·cases h
   ·rename_i s hu
    split at h
    ·rename_i b hb
     simp only[Option.some.injEq]at h;subst h
     simp only[VR]at hx;subst hx
     refine⟨.int .u8 b.toNat,?_,by simp[VR]⟩
     have hb':s[i.toNat]?=some b:=by rw[bytes_getElem?];exact hb
     simp[Instr.index,asIntOf,run_underlying hu,hi,hb']
    ·cases h
   ·cases h
 ·cases h
theorem storeCells_raw{b:Nat}{elem:TypeId}{fz:Nat×Nat}:∀(l:List Value) (i off:Nat) (c:Array Value) (w:World),w.heap[b]?=some (.cells c elem fz)->
  (∀i,i<c.size->¬(fz.1<=i/\i<fz.2))->off+i+l.length<=c.size->(∀v∈l,v.oneCell'=true)->
  ∃w',(storeCells ⟨b,off,none⟩ l i).run P w = .ok () w'/\w'.heap[b]?=some (.cells (setAll c.toList (off+i) l).toArray elem fz)/\
   (∀j,j≠b->w'.heap[j]?=w.heap[j]?)/\w'.heap.size=w.heap.size/\w'.os=w.os/\w'.output=w.output/\w'.tape=w.tape
 | [],i,off,c,w,hw,_,_,_=>⟨w,by simp[storeCells],by simpa [setAll]using hw,fun _ _=>rfl,rfl,rfl,rfl,rfl⟩
 |v::l,i,off,c,w,hw,hfz,hle,hc=>by
  simp only[List.length_cons]at hle
  have ha:(Addr.add ⟨b,off,none⟩ i)=⟨b,off+i,none⟩:=by unfold Addr.add;split<;>simp_all
  have hcell:w.cell? ⟨b,off+i,none⟩=some c[off+i]:=by
   simp[World.cell?,hw]
  have hfr:w.frozen? ⟨b,off+i,none⟩=false:=by
   simp only[World.frozen?,hw,Bool.and_eq_false_iff,decide_eq_false_iff_not]
   have:=hfz (off+i) (by omega)
   omega
  have hset:(w.setCell ⟨b,off+i,none⟩ v).heap[b]?=some (.cells (c.setIfInBounds (off+i) v) elem fz):=by
   simp[World.setCell,Array.getElem?_modify,hw]
  obtain⟨w',hr,h1,h2,h3,h4,h5,h6⟩:=storeCells_raw l (i+1) off (c.setIfInBounds (off+i) v) (w.setCell ⟨b,off+i,none⟩ v) hset (by simpa using hfz) (by simp;omega)
   (fun x hx=>hc x (List.mem_cons_of_mem _ hx))
  refine⟨w',?_,?_,?_,?_,h4,h5,h6⟩
  ·simp only[storeCells,Sem.run_bind,ha]
   rw[run_store P w _ _ _ (hc v (List.mem_cons_self ..))]
   simp only[hcell,hfr,Bool.false_eq_true,if_false,Result.andThen_ok]
   exact hr
  ·rw[h1];simp[setAll,Nat.add_assoc]
  ·intro j hj;rw[h2 j hj,heap_setCell _ _ _ _ hj]
  ·rw[h3];simp
theorem setAll_append(pre mid post:List Value)(l:List Value)(h:l.length=mid.length):setAll (pre++mid++post) pre.length l=pre++l++post:=by
 induction l generalizing pre mid with
 |nil=>cases mid<;>simp_all[setAll]
 |cons v l ih=>
  cases mid with
  |nil=>simp at h
  |cons m mid=>
   simp only[setAll]
   have e:(pre++m::mid++post).set pre.length v=(pre++[v])++mid++post:=by simp
   rw[e]
   have:=ih (pre++[v]) mid (by simpa using h)
   simp only[List.length_append,List.length_singleton]at this
   rw[this];simp
def flatRows(size:Nat):List Value->Option (List Value)
 | []=>some []
 | .agg ⟨cs⟩::r=>match Nat.beq cs.length size,flatRows size r with
  |true,some l=>some (cs++l)
  |_,_=>none
 |_::_=>none
theorem zRows.tail{z:Nat->Nat->Option Value}{b off sz:Nat}{r:Value}{rows:List Value}(h:zRows z b off sz (r::rows)):zRows z b (off+sz) sz rows:=fun i x hi=>by
 obtain⟨cs,g1,g2,g3⟩:=h (i+1) x (by simpa using hi)
 refine⟨cs,g1,g2,?_⟩
 have e:off+(i+1)*sz=off+sz+i*sz:=by rw[Nat.succ_mul];omega
 rw[←e];exact g3
theorem flatRows_ok{size b sz:Nat}:∀(rows rows':List Value) (off:Nat) (l:List Value),flatRows size rows=some l->VRL F.bare rows rows'->zRows F.z b off sz rows'->
  l.length=rows.length*size/\∃l',VRL F.bare l l'/\zRow F.z b off l'
 | [],rows',off,l,h,hv,hz=>by
  simp only[flatRows,Option.some.injEq]at h;subst h
  exact⟨by simp,[],by simp[VRL],fun j x hj=>by simp at hj⟩
 |r::rows,rows',off,l,h,hv,hz=>by
  simp only[VRL]at hv
  obtain⟨r',rs',h1,h2,e⟩:=hv;subst e
  cases r<;>simp only[flatRows]at h<;>try(cases h;done)
  rename_i c
  obtain⟨cs⟩:=c
  simp only at h
  split at h<;>(try(cases h;done))
  rename_i l2 hb hl2
  simp only[Option.some.injEq]at h;subst h
  have hb:=Nat.eq_of_beq_eq_true hb
  obtain⟨cs',e1,h1c⟩:=h1.aggL;subst e1
  obtain⟨cs2,g1,g2,g3⟩:=hz 0 _ rfl
  simp only[Value.agg.injEq,Array.mk.injEq]at g1;subst g1
  have hle:=h1c.length
  obtain⟨k1,l',k2,k3⟩:=flatRows_ok rows rs' (off+sz) l2 hl2 h2 hz.tail
  refine⟨by rw[List.length_append,k1,hb,List.length_cons,Nat.succ_mul];omega,cs'++l',VRL.append h1c k2,fun j x hj=>?_⟩
  rw[List.getElem?_append]at hj
  split at hj
  ·have:=g3 j x hj;simpa using this
  ·rename_i hge
   have:=k3 _ x hj
   rw[show off+sz+(j-cs'.length)=off+j from by omega]at this;exact this
def aCellsOf(H:Heap)(size:Nat):Value->Option (Nat×List Value)
 | .slice (some a) n _=>match aCells H a (n*size)with
  |some l=>some (n,l)
  |none=>none
 | .slice none n _=>match n with
  | 0=>some (0,[])
  |_=>none
 | .string s=>some (s.data.toList.length,s.data.toList.map fun b => .int .u8 b.toNat)
 | .iface m (.agg ⟨rows⟩)=>match Nat.beq m mkD with
  |true=>match flatRows size rows with
   |some l=>some (rows.length,l)
   |none=>none
  |false=>none
 | .iface m (.slice (some a) n _)=>match Nat.beq m mkM with
  |true=>match n with
   | 0=>some (0,[])
   |k+1=>match aCells H a ((k+1)*size)with
    |some l=>some (k+1,l)
    |none=>none
  |false=>none
 |_=>none
theorem aCellsOf_ok(R:Rel G F H w0 w){size:Nat}{x x':Value}(hx:VR F x x'){n:Nat}{l:List Value}(h:aCellsOf H size x=some (n,l)):
  (Builtin.lenOf x').run P w = .ok n w/\∃l',(Builtin.firstCells size n x').run P w = .ok l'.toArray w/\VRL F l l':=by
 unfold aCellsOf at h
 split at h
 ·rename_i a n' c
  split at h
  ·rename_i l2 hl
   simp only[Option.some.injEq,Prod.mk.injEq]at h;obtain⟨h1,h2⟩:=h;subst h1;subst h2
   simp only[VR]at hx;obtain⟨a',d,o,hF,h3,h4,e⟩:=hx;subst e
   obtain⟨l',hr,hv⟩:=R.loadCells P ⟨d,o,hF,h3,h4⟩ hl
   exact⟨by simp[Builtin.lenOf],l',by simp[Builtin.firstCells,hr],hv⟩
  ·cases h
 ·rename_i n' c
  split at h
  ·simp only[Option.some.injEq,Prod.mk.injEq]at h;obtain⟨h1,h2⟩:=h;subst h1;subst h2
   simp only[VR]at hx;subst hx
   exact⟨by simp[Builtin.lenOf],[],by simp[Builtin.firstCells],by simp[VRL]⟩
  ·cases h
 ·rename_i s
  simp only[Option.some.injEq,Prod.mk.injEq]at h;obtain⟨h1,h2⟩:=h;subst h1;subst h2
  simp only[VR]at hx;subst hx
  have e:s.data.toList.length=s.size:=by cases s;simp[ByteArray.size]
  refine⟨by simp[Builtin.lenOf,e],s.data.toList.map fun b => .int .u8 b.toNat,?_,?_⟩
  ·have e2:(s.extract 0 s.size)=s:=by
    rw[extract_bytes,←e];apply ByteArray.ext;simp only[bytesOf,List.drop_zero,Nat.sub_zero,List.take_length]
   simp only[Builtin.firstCells]
   rw[e,e2]
   simp only[Sem.run_pure,Result.ok.injEq,and_true]
   apply Array.ext';simp
  ·exact(VRL.plain_eq _ _ (plainL_map _ (fun _=>rfl) _)).2 rfl
 ·rename_i m rows
  split at h
  ·rename_i hm
   have hm:=Nat.eq_of_beq_eq_true hm
   subst hm
   split at h<;>(try(cases h;done))
   rename_i l2 hf
   simp only[Option.some.injEq,Prod.mk.injEq]at h;obtain⟨h1,h2⟩:=h;subst h1;subst h2
   rcases hx.D_cases with⟨e,a,c,e2⟩ | ⟨rows',a,c,sz,g1,g2,g3,g4,g5,g6⟩
   ·subst e;subst e2
    simp only[flatRows,Option.some.injEq]at hf;subst hf
    refine⟨by simp[Builtin.lenOf],[],?_,by simp[VRL]⟩
    cases a<;>simp[Builtin.firstCells,loadCells,loadCellsFrom]
   ·obtain⟨k1,l',k2,k3⟩:=flatRows_ok rows rows' a.off _ hf g1 g6
    subst g2
    have e:a=⟨a.block,a.off,none⟩:=by rw[←g4]
    refine⟨by simp[Builtin.lenOf],l',?_,k2.bare_up⟩
    have hl:=k2.length
    have:=R.zload P k3 (n:=rows.length*size) (by omega)
    rw[List.take_of_length_le (by omega)]at this
    simp only[Builtin.firstCells];rw[e];exact this
  ·cases h
 ·rename_i m a n' c
  split at h
  ·rename_i hm
   have hm:=Nat.eq_of_beq_eq_true hm
   subst hm
   split at h
   ·simp only[Option.some.injEq,Prod.mk.injEq]at h;obtain⟨h1,h2⟩:=h;subst h1;subst h2
    rcases hx.M_cases with⟨e,_⟩ | ⟨_,a',e⟩
    ·exact absurd rfl e
    ·subst e
     refine⟨by simp[Builtin.lenOf],[],?_,by simp[VRL]⟩
     cases a'<;>simp[Builtin.firstCells,loadCells,loadCellsFrom]
   ·split at h<;>(try(cases h;done))
    rename_i k l2 hl
    simp only[Option.some.injEq,Prod.mk.injEq]at h;obtain⟨h1,h2⟩:=h;subst h1;subst h2
    rcases hx.M_cases with⟨_,hx⟩ | ⟨e,_⟩
    ·simp only[VR]at hx;obtain⟨a',d,o,hF,h3,h4,e⟩:=hx;subst e
     obtain⟨l',hr,hv⟩:=R.loadCells P ⟨d,o,hF,h3,h4⟩ hl
     exact⟨by simp[Builtin.lenOf],l',by simp[Builtin.firstCells,hr],hv⟩
    ·cases e
  ·cases h
 ·cases h
theorem growBy_le(newLen:Nat):∀(r c:Nat),c<newLen->Builtin.growBy newLen r c<=2*newLen+192
 | 0,c,h=>by simp only[Builtin.growBy];omega
 |r+1,c,h=>by
  simp only[Builtin.growBy]
  rw[if_neg (by omega)]
  by_cases h2:c+(c+768) / 4<newLen
  ·exact growBy_le newLen r _ h2
  ·cases r with
   |zero=>simp only[Builtin.growBy];omega
   |succ r=>simp only[Builtin.growBy];rw[if_pos (by omega)];omega
theorem nextcap_le{newLen oldCap:Nat}(h:oldCap<newLen):Builtin.nextslicecap newLen oldCap<=2*newLen+192:=by
 unfold Builtin.nextslicecap
 split
 ·omega
 ·split
  ·omega
  ·exact growBy_le _ _ _ h
theorem zeroCells_size(z:Array Value)(n:Nat):(Builtin.zeroCells z n).size=n*z.size:=by simp[Builtin.zeroCells]
def aGrown(H:Heap)(elem:TypeId)(sz:Nat)(l:List Value)(need:Nat):Value×Heap:=
 (.slice (some ⟨H.next,0,none⟩) need need,H.push (.cells l elem sz true true))
def notInt:TypeDesc->Bool
 | .slice _ | .string=>true
 |_=>false
def aAppend (P:Program) (H:Heap) (argTypes:Array TypeId) (args:List Value):Option (Value×Heap):=
  match argTypes.toList,args with
  | [sType,xType],[s,x]=>match P.underlying sType,P.underlying xType with
    | some (.slice elem),some dx=>match notInt dx,P.info? elem with
      |true,some i=>match aCellsOf H i.size x,i.zero with
        | some (n,xs),some z=>
          match Nat.beq z.cells.toList.length i.size&&plain z&&Nat.beq xs.length (n*i.size)&&xs.all isCell with
          |false=>none
          | true => match s with
            | .slice none len cap=>match n,len,cap with
              | 0,0,0=>some (s,H)
              |_,0,0=>match Nat.ble ((2*n+192)*i.bytes) tops&&Nat.ble n 1099511627776 with
                |true=>some (aGrown H elem i.size xs n)
                |false=>none
              |_,_,_=>none
            | .slice (some a) len cap=>match Nat.ble (len+n) cap with
              |true=>match n with
                | 0=>some (s,H)
                |_=>match a.spot,H.get a.block with
                  |none,some (.cells vs e2 sz lo true)=>match Nat.ble (a.off+len*i.size+xs.length) vs.length with
                    |true=>some (.slice (some a) (len+n) cap,H.put a.block (some (.cells (splice vs (a.off+len*i.size) xs) e2 sz lo true)))
                    |false=>none
                  |_,_=>none
              |false=>match Nat.ble ((2*(len+n)+192)*i.bytes) tops&&Nat.ble (len+n) 1099511627776&&Nat.ble len cap with
                |false=>none
                |true=>match a.spot,H.get a.block,aCells H a (len*i.size)with
                  |none,some (.cells vs e2 sz lo ow),some old=>match lo with
                    |false=>some (aGrown H elem i.size (old++xs) (len+n))
                    |true=>match ow&&Nat.beq sz i.size&&Nat.beq (a.off+cap*i.size) vs.length&&Nat.beq e2 elem with
                      |true=>some (aGrown (H.put a.block none) elem i.size (old++xs) (len+n))
                      |false=>none
                  |_,_,_=>none
            |_=>none
        |_,_=>none
      |_,_=>none
    |_,_=>none
  |_,_=>none
end
end
end Go.Abs
namespace Go.Abs
open Go
noncomputable section
section
variable {P:Program} {G:Nat} {F:Nm} {H:Heap} {w0:Base} {w:World}
theorem append_fit {sType xType elem:TypeId} {t:TypeId} {dx:TypeDesc} {i:TypeInfo} {x':Value} {n sLen sCap:Nat} {base:Option Addr} (hs:P.underlying sType=some (.slice elem))
    (hx:P.underlying xType=some dx) (hdx:notInt dx=true) (hi:P.info? elem=some i) (hl:(Builtin.lenOf x').run P w = .ok n w) (hle:sLen+n<=sCap):
    (Builtin.append_ #[sType,xType] t #[.slice base sLen sCap,x']).run P w=((Builtin.firstCells i.size n x').run P w).andThen fun new w'=>
      ((match base with|some a=>storeCells (a.add (sLen*i.size)) new.toList|none=>pure ()).run P w').andThen fun _ w'' => .ok (.slice base (sLen+n) sCap) w'':=by
  have hz:aSize P elem=some i.size:=by simp[aSize,hi]
  unfold Builtin.append_
  cases dx<;>simp only[notInt,Bool.false_eq_true]at hdx<;>
    (simp[run_underlying hs,run_underlying hx,run_sizeOf' hz,hl,hle]
     cases base<;>simp)
theorem append_grow {sType xType elem:TypeId} {t:TypeId} {dx:TypeDesc} {i:TypeInfo} {z x':Value} {n sLen sCap:Nat} {base:Option Addr} (hs:P.underlying sType=some (.slice elem))
    (hx:P.underlying xType=some dx) (hdx:notInt dx=true) (hi:P.info? elem=some i) (hz:i.zero=some z) (hl:(Builtin.lenOf x').run P w = .ok n w) (hle:¬sLen+n<=sCap)
    (hb:(2*(sLen+n)+192)*i.bytes<=tops) (hn:sLen+n<=1099511627776):
    ∃newCap w1,sLen+n<=newCap/\(∃k,w1={w with drawn:=k})/\(Builtin.append_ #[sType,xType] t #[.slice base sLen sCap,x']).run P w=
      ((Builtin.firstCells i.size sLen (.slice base sLen sCap)).run P w1).andThen fun old w2=>((Builtin.firstCells i.size n x').run P w2).andThen fun new w3=>
        ((newRow elem (old++new++Builtin.zeroCells z.cells (newCap-(sLen+n)))).run P w3).andThen fun a w4 => .ok (.slice (some a) (sLen+n) newCap) w4:=by
  have hsz:aSize P elem=some i.size:=by simp[aSize,hi]
  have hz':aZero P elem=some z:=by simp[aZero,hi,hz]
  have hcap:¬(Builtin.nextslicecap (sLen+n) sCap*i.bytes > 2 ^ 48):=by
    have:=nextcap_le (newLen:=sLen+n) (oldCap:=sCap) (by omega)
    have h2:=Nat.mul_le_mul_right i.bytes this
    unfold tops at hb
    have:(140737488355328:Nat)<=2 ^ 48:=by decide
    omega
  refine⟨(Question.appendCap (sLen+n) sCap elem).cut (w.tape w.drawn (.appendCap (sLen+n) sCap elem)),{w with drawn:=w.drawn+1},by simp only[Question.cut];omega,⟨_,rfl⟩,?_⟩
  unfold Builtin.append_
  cases dx<;>simp only[notInt,Bool.false_eq_true]at hdx<;>
    (simp[run_underlying hs,run_underlying hx,run_sizeOf' hsz,hl,hle,run_typeInfo hi,hcap,Question.forced,run_zeroValue hz']
     intro hc;omega)
theorem aGrown_ok(R:Rel G F H w0 w){elem:TypeId}{sz:Nat}{l l':List Value}{z:Array Value}{need newCap:Nat}(hl:VRL F l l')(hz:z.size=sz)(hn:need<=newCap):
  OpOK P G F w0 w (do pure (.slice (some (←newRow elem (l'.toArray++Builtin.zeroCells z (newCap-need)))) need newCap)) (aGrown H elem sz l need).1 (aGrown H elem sz l need).2:=by
 have hll:=hl.length
 obtain⟨hle,R'⟩:=R.push (vs:=l) (c:=l'.toArray++Builtin.zeroCells z (newCap-need)) (elem:=elem) (sz:=sz) (d:=newCap-need) (lo:=true) (0,0)
  (by simp only[Array.toList_append,←hll];rw[List.take_append_of_le_length (Nat.le_refl _),List.take_length];exact hl)
  (by simp[zeroCells_size,hz,hll]) (fun h=>by cases h) (by intro i _;simp)
 refine⟨_,.slice (some ⟨w.heap.size,0,none⟩) need newCap,_,hle,by simp[newRow],?_,R'⟩
 simp only[aGrown,VR];exact⟨⟨w.heap.size,0,none⟩,newCap-need,0,Nm.with_self _ _ _,rfl,rfl,by congr 1;omega⟩
theorem Rel.drop(R:Rel G F H w0 w)(n:Nat):Rel G F (H.put n none) w0 w:=by
 constructor
 ·intro m o hm;rw[Heap.get_put]at hm;split at hm
  ·cases hm
  ·exact R.obj m o hm
 ·intro n' m o o' hn hm;rw[Heap.get_put]at hn hm;split at hn
  ·cases hn
  ·split at hm
   ·cases hm
   ·exact R.inj n' m o o' hn hm
 ·exact R.fresh
 ·exact R.glob
 ·exact R.base
 ·exact R.frame
 ·intro b i v hz
  refine⟨(R.froz b i v hz).1,fun m o hm ho=>?_⟩
  rw[Heap.get_put]at hm;split at hm
  ·cases hm
  ·exact(R.froz b i v hz).2 m o hm ho
 ·exact R.zprot
 ·exact R.os
 ·exact R.out
 ·exact R.tape
theorem Rel.inPlace(R:Rel G F H w0 w){n:Nat}{vs:List Value}{elem:TypeId}{sz:Nat}(hg:H.get n=some (.cells vs elem sz true true)){b d o:Nat}(hF:F n=some (b,d,o))
  {off:Nat} {old xs xs':List Value} {need cap:Nat} (hold:old=(vs.drop off).take old.length) (hoff:off+cap*sz=vs.length) (hcap:cap<need) (hd:need<=cap+d)
  (hlen:old.length+xs.length=need*sz) (hle:old.length<=cap*sz) (hx:VRL F xs xs') (hc:xs.all isCell=true):
  ∃w',(storeCells ⟨b,off+o+old.length,none⟩ xs').run P w = .ok () w'/\Nm.le F (F.with H.next (b,cap+d-need,off+o))/\
   Rel G (F.with H.next (b,cap+d-need,off+o)) ((H.put n none).push (.cells (old++xs) elem sz true true)) w0 w':=by
 obtain⟨b',d',o',c,fz,hF',⟨t,hw,ht⟩,hl,hsz,_,hown⟩:=R.obj _ _ hg
 have ht:=ht rfl
 rw[ht]at hw
 rw[hF]at hF';simp only[Option.some.injEq,Prod.mk.injEq]at hF'
 obtain⟨e1,e2,e3⟩:=hF';subst e1;subst e2;subst e3
 obtain⟨hb0,hfz⟩:=hown rfl
 have hxl:=hx.length
 have hmul:need*sz=cap*sz+(need-cap)*sz:=by rw[←Nat.add_mul];congr 1;omega
 have hmul2:d*sz=(need-cap)*sz+(cap+d-need)*sz:=by rw[←Nat.add_mul];congr 1;omega
 have hfit:off+o+old.length+0+xs'.length<=c.size:=by omega
 have hxc:∀v∈xs',v.oneCell'=true:=by
  intro v hv
  obtain⟨i,hi⟩:=List.getElem?_of_mem hv
  have hi2:i<xs.length:=by
   rw[←hxl];exact(List.getElem?_eq_some_iff.1 hi).1
  obtain⟨v',h1,h2⟩:=hx.get (List.getElem?_eq_getElem hi2)
  rw[hi]at h1;simp only[Option.some.injEq]at h1;subst h1
  exact h2.isCell (List.all_eq_true.1 hc _ (List.getElem_mem hi2))
 obtain⟨w',hr,h1,h2,h3,h4,h5,h6⟩:=storeCells_raw (P:=P) xs' 0 (off+o+old.length) c w hw hfz hfit hxc
 refine⟨w',hr,?_⟩
 have hfre:F H.next=none:=R.fresh _ (Nat.le_refl _)
 have hle':Nm.le F (F.with H.next (b,cap+d-need,off+o)):=Nm.le_with hfre _
 refine⟨hle',?_⟩
 have hnn:n≠H.next:=fun e=>by rw[e,hfre]at hF;cases hF
 -- the cells behind the write
 obtain⟨L,hL⟩:∃L,L=setAll c.toList (off+o+old.length) xs':=⟨_,rfl⟩
 have hLlen:L.length=c.size:=by rw[hL,setAll_length];simp
 have hLeq:(L.drop (off+o)).take (old++xs).length=(c.toList.drop (off+o)).take old.length++xs':=by
  have e:c.toList=(c.toList.take (off+o+old.length))++((c.toList.drop (off+o+old.length)).take xs'.length)++(c.toList.drop (off+o+old.length+xs'.length)):=by
   have e1:=(List.take_append_drop (off+o+old.length) c.toList).symm
   have e2:=(List.take_append_drop xs'.length (c.toList.drop (off+o+old.length))).symm
   rw[List.drop_drop]at e2
   rw[List.append_assoc,←e2];exact e1
  have hplen:(c.toList.take (off+o+old.length)).length=off+o+old.length:=by simp;omega
  have e2:L=(c.toList.take (off+o+old.length))++xs'++(c.toList.drop (off+o+old.length+xs'.length)):=by
   rw[hL]
   conv=>lhs;rw[e]
   have:=setAll_append (c.toList.take (off+o+old.length)) ((c.toList.drop (off+o+old.length)).take xs'.length) (c.toList.drop (off+o+old.length+xs'.length)) xs' (by simp;omega)
   rw[hplen]at this;exact this
  rw[e2,List.append_assoc,List.drop_append_of_le_length (by omega),List.drop_take]
  rw[←List.append_assoc]
  rw[show off+o+old.length-(off+o)=old.length from by omega]
  rw[List.take_append_of_le_length (by simp;omega)]
  rw[List.take_of_length_le (by simp;omega)]
 have hvr:VRL F (old++xs) ((L.drop (off+o)).take (old++xs).length):=by
  rw[hLeq]
  refine VRL.append ?_ hx
  rw[hold]
  have:=(hl.drop off).take old.length
  rw[List.drop_take,List.drop_drop,List.take_take,Nat.add_comm o off]at this
  rw[Nat.min_eq_left (by omega)]at this
  have e:(List.take old.length (List.drop off vs)).length=old.length:=by rw[←hold]
  rw[e];exact this
 have hblk:∀m ob,(H.put n none).get m=some ob->H.get m=some ob/\m≠n/\m≠H.next/\blk F m≠some b:=by
  intro m ob hm
  rw[Heap.get_put]at hm;split at hm
  ·cases hm
  ·rename_i hne
   refine⟨hm,hne,fun e=>?_,?_⟩
   ·rw[e,R.nolive (Nat.le_refl _)]at hm;cases hm
   ·have:=R.inj n m _ ob hg hm (Ne.symm hne) rfl
    intro hc';apply this;rw[hc'];simp[blk,hF]
 constructor
 ·intro m ob hm
  rw[Heap.get_push]at hm
  split at hm
  ·rename_i hm'
   simp only[Option.some.injEq]at hm;subst hm
   have hm2:m=H.next:=hm'
   subst hm2
   refine⟨b,cap+d-need,off+o,L.toArray,fz,Nm.with_self _ _ _,⟨t,by rw[h1,hL];simp,fun _=>rfl⟩,?_,?_,(fun h=>by cases h),fun _=>⟨hb0,?_⟩⟩
   ·simpa using VRL.mono hle' _ _ hvr
   ·simp only[List.size_toArray,hLlen,List.length_append];omega
   ·simpa [hLlen]using hfz
  ·obtain⟨g1,g2,g3,g4⟩:=hblk m ob hm
   have hob:=R.obj m ob g1
   exact objR_mono hle' (objR_other hob fun b' hb'=>h2 b' (fun e=>g4 (by rw[hb',e])))
 ·intro n' m ob ob' hn' hm hne how
  rw[Heap.get_push]at hn' hm
  have hnext:(H.put n none).next=H.next:=rfl
  rw[hnext]at hn' hm
  have hb1:∀k ok,(H.put n none).get k=some ok->blk (F.with H.next (b,cap+d-need,off+o)) k=blk F k:=by
   intro k ok hk
   obtain⟨_,_,g3,_⟩:=hblk k ok hk
   simp[blk,Nm.with,g3]
  split at hn'<;>split at hm
  ·omega
  ·rename_i h5 h6;subst h5
   obtain⟨_,_,_,g4⟩:=hblk m ob' hm
   rw[hb1 m ob' hm];simp only[blk,Nm.with_self,Option.map_some];exact fun e=>g4 e.symm
  ·rename_i h5 h6;subst h6
   obtain⟨_,_,_,g4⟩:=hblk n' ob hn'
   rw[hb1 n' ob hn'];simp only[blk,Nm.with_self,Option.map_some];exact fun e=>g4 e
  ·obtain⟨g1,_,_,_⟩:=hblk n' ob hn'
   obtain⟨g1',_,_,_⟩:=hblk m ob' hm
   rw[hb1 n' ob hn',hb1 m ob' hm];exact R.inj n' m ob ob' g1 g1' hne how
 ·intro m hm
  have hm:H.next+1<=m:=hm
  simp only[Nm.with];rw[if_neg (by omega)];exact R.fresh m (by omega)
 ·intro g hg';exact hle'.nm _ _ (R.glob g hg')
 ·rw[h3];exact R.base
 ·intro i hi;rw[h2 i (fun e=>hb0 (by rw[←e];exact hi))];exact R.frame i hi
 ·intro b' i v2 hz
  obtain⟨⟨c2,t2,fz2,g1,g2⟩,g3⟩:=R.froz b' i v2 hz
  have hbb:b'≠b:=fun e=>g3 n _ hg rfl (by simp[blk,hF,e])
  refine⟨⟨c2,t2,fz2,by rw[h2 b' hbb];exact g1,g2⟩,fun m ob hm how=>?_⟩
  rw[Heap.get_push]at hm
  split at hm
  ·rename_i h5
   have h5:m=H.next:=h5
   subst h5;simp only[blk,Nm.with_self,Option.map_some];exact fun e=>hbb (by simpa using e.symm)
  ·obtain⟨q1,q2,q3,_⟩:=hblk m ob hm
   have:blk (F.with H.next (b,cap+d-need,off+o)) m=blk F m:=by simp[blk,Nm.with,q3]
   rw[this];exact g3 m ob q1 how
 ·exact R.zprot
 ·rw[h4];exact R.os
 ·rw[h5];exact R.out
 ·rw[h6];exact R.tape
theorem VRL.two{F:Nm}{a b:Value}{l:List Value}(h:VRL F [a,b] l):∃a' b',l=[a',b']/\VR F a a'/\VR F b b':=by
 simp only[VRL]at h
 obtain⟨a',r,h1,⟨b',r',h2,h3,e⟩,e2⟩:=h
 subst h3;subst e;exact⟨a',b',e2,h1,h2⟩
theorem aAppend_ok (R:Rel G F H w0 w) {argTypes:Array TypeId} {t:TypeId} {args:List Value} {args':Array Value} (ha:VRL F args args'.toList) {r:Value×Heap}
    (h:aAppend P H argTypes args=some r):OpOK P G F w0 w (Builtin.append_ argTypes t args') r.1 r.2:=by
  unfold aAppend at h;simp only[splice_eq]at h
  split at h
  case h_2=>cases h
  rename_i sType xType s x hat
  obtain⟨s',x',e,hs,hx⟩:=ha.two
  have e1:args'=#[s',x']:=by apply Array.ext';simpa using e
  have e2:argTypes=#[sType,xType]:=by apply Array.ext';simpa using hat
  subst e1;subst e2
  split at h
  case h_2=>cases h
  rename_i elem dx hus hux
  split at h
  case h_2=>cases h
  rename_i i hdx hi
  split at h
  case h_2=>cases h
  rename_i n xs z hcx hz
  obtain⟨hlen,xs',hrx,hvx⟩:=aCellsOf_ok (P:=P) R hx hcx
  split at h
  · cases h
  rename_i hc
  simp only[Bool.and_eq_true]at hc
  obtain⟨⟨⟨hc1,hc2⟩,hc3⟩,hc4⟩:=hc
  have hc1:=Nat.eq_of_beq_eq_true hc1
  have hc3:=Nat.eq_of_beq_eq_true hc3
  simp only[Array.length_toList]at hc1
  split at h
  · -- no row
    rename_i len cap
    simp only[VR]at hs;subst hs
    split at h
    · simp only[Option.some.injEq]at h;subst h
      refine OpOK.same R (v' := .slice none 0 0) ?_ (by simp[VR])
      rw[append_fit hus hux hdx hi hlen (by omega),hrx];simp
    · split at h
      · rename_i hn _ hb
        simp only[Bool.and_eq_true]at hb
        have hb1:=Nat.le_of_ble_eq_true hb.1
        have hb2:=Nat.le_of_ble_eq_true hb.2
        simp only[Option.some.injEq]at h;subst h
        obtain⟨newCap,w1,hcap,⟨k,hk⟩,hrun⟩:=append_grow (P:=P) (w:=w) (t:=t) (sLen:=0) (sCap:=0) (base:=none) hus hux hdx hi hz hlen (fun e=>hn (by omega)) (by simpa using hb1) (by simpa using hb2)
        subst hk
        obtain⟨_,ys,hry,hvy⟩:=aCellsOf_ok (P:=P) (R.draws k) hx hcx
        obtain⟨F',v',w',g1,g2,g3,g4⟩:=aGrown_ok (P:=P) (R.draws k) (elem:=elem) (sz:=i.size) (z:=z.cells) (newCap:=newCap) hvy hc1 (by simpa using hcap)
        refine⟨F',v',w',g1,?_,g3,g4⟩
        rw[hrun]
        simp only[Builtin.firstCells,Sem.run_pure,Result.andThen_ok]
        simp only[Builtin.firstCells]at hry
        rw[hry]
        simpa using g2
      · cases h
    · cases h
  · -- a row that lies
    rename_i a len cap
    simp only[VR]at hs;obtain⟨a',d,o,hF,h1,h2,e⟩:=hs;subst e
    have haa:AR F a a':=⟨d,o,hF,h1,h2⟩
    split at h
    · -- there is room that is known of
      rename_i hle
      have hle:=Nat.le_of_ble_eq_true hle
      split at h
      · simp only[Option.some.injEq]at h;subst h
        have hxs:xs=[]:=by cases xs<;>simp_all
        subst hxs;simp only[VRL]at hvx;subst hvx
        refine OpOK.same R (v' := .slice (some a') len (cap+d)) ?_ (by simp only[VR];exact⟨a',d,o,hF,h1,h2,rfl⟩)
        rw[append_fit hus hux hdx hi hlen (by omega),hrx];simp[storeCells]
      · split at h
        · rename_i vs e2 sz lo hsp hg
          split at h
          · rename_i hb
            have hb:=Nat.le_of_ble_eq_true hb
            simp only[Option.some.injEq]at h;subst h
            have hoff:(a.add (len*i.size)).off=a.off+len*i.size:=by unfold Addr.add;split<;>simp_all
            have hbk:(a.add (len*i.size)).block=a.block:=by unfold Addr.add;split<;>rfl
            have hs2:(a.add (len*i.size)).spot=none:=by unfold Addr.add;split<;>simp[hsp]
            obtain⟨w',hr,R'⟩:=storeCells_ok (P:=P) xs xs' 0 R (haa.add (len*i.size)) hs2 (by rw[hbk];exact hg) hc4 (by rw[hoff];omega) hvx
            rw[hbk,hoff]at R'
            refine⟨F,.slice (some a') (len+n) (cap+d),w',Nm.le_refl F,?_,by simp only[VR];exact⟨a',d,o,hF,h1,h2,rfl⟩,by simpa using R'⟩
            rw[append_fit hus hux hdx hi hlen (by omega),hrx];simp[hr]
          · cases h
        · cases h
    · rename_i hgt
      have hgt:cap<len+n:=by
        rcases Nat.lt_or_ge cap (len+n)with h|h
        · exact h
        · rw[Nat.ble_eq_true_of_le h]at hgt;cases hgt
      split at h
      · cases h
      · rename_i hb
        simp only[Bool.and_eq_true]at hb
        obtain⟨⟨hb1,hb2⟩,hb3⟩:=hb
        have hb1:=Nat.le_of_ble_eq_true hb1
        have hb2:=Nat.le_of_ble_eq_true hb2
        have hb3:=Nat.le_of_ble_eq_true hb3
        split at h
        · rename_i vs e2 sz lo ow old hsp hg hold
          -- where a new block is made
          have hgrow:∀(H2:Heap),Rel G F H2 w0 w->aCells H2 a (len*i.size)=aCells H a (len*i.size)->aCellsOf H2 i.size x=aCellsOf H i.size x->¬len+n<=cap+d->∀H3:Heap,
              (∀k,Rel G F H2 w0 {w with drawn:=k}->Rel G F H3 w0 {w with drawn:=k})->
              OpOK P G F w0 w (Builtin.append_ #[sType,xType] t #[.slice (some a') len (cap+d),x']) (aGrown H3 elem i.size (old++xs) (len+n)).1 (aGrown H3 elem i.size (old++xs) (len+n)).2:=by
            intro H2 R2 c1 c2 hnot H3 hR3
            obtain⟨newCap,w1,hcap,⟨k,hk⟩,hrun⟩:=append_grow (P:=P) (w:=w) (t:=t) (sLen:=len) (sCap:=cap+d) (base:=some a') hus hux hdx hi hz hlen hnot hb1 hb2
            subst hk
            obtain⟨_,ys,hry,hvy⟩:=aCellsOf_ok (P:=P) (R2.draws k) hx (c2.trans hcx)
            obtain⟨os,hro,hvo⟩:=(R2.draws k).loadCells P haa (c1.trans hold)
            obtain⟨F',v',w',g1,g2,g3,g4⟩:=aGrown_ok (P:=P) (hR3 k (R2.draws k)) (elem:=elem) (sz:=i.size) (z:=z.cells) (newCap:=newCap) (VRL.append hvo hvy) hc1 hcap
            refine⟨F',v',w',g1,?_,g3,g4⟩
            rw[hrun]
            simp only[Builtin.firstCells]at hry ⊢
            rw[hro];simp only[Result.andThen_ok];rw[hry];simp only[Result.andThen_ok]
            simpa using g2
          split at h
          · -- the row is known whole
            simp only[Option.some.injEq]at h;subst h
            obtain⟨b',d',o',c,fz,hF',_,_,_,hex,_⟩:=R.obj _ _ hg
            rw[hF]at hF';simp only[Option.some.injEq,Prod.mk.injEq]at hF'
            obtain⟨q1,q2,q3⟩:=hF'
            have hd0:d=0:=by obtain⟨x1,_⟩:=hex rfl;omega
            exact hgrow H R rfl rfl (by omega) H (fun k r=>r)
          · split at h
            · rename_i hq
              simp only[Option.some.injEq]at h;subst h
              simp only[Bool.and_eq_true]at hq
              obtain⟨⟨⟨q1,q2⟩,q3⟩,q4⟩:=hq
              have q2:=Nat.eq_of_beq_eq_true q2
              have q3:=Nat.eq_of_beq_eq_true q3
              have q4:=Nat.eq_of_beq_eq_true q4
              subst q1;subst q2;subst q4
              by_cases hfit:len+n<=cap+d
              · -- in place
                have hol:old.length=len*i.size:=by
                  unfold aCells at hold
                  simp only[lcut_eq]at hold
                  split at hold
                  · rename_i hz0;simp only[Option.some.injEq]at hold;subst hold;simp[hz0]
                  · rw[hsp,hg]at hold
                    simp only at hold
                    split at hold
                    · rename_i hbl
                      have hbl:=reaches_le hbl
                      simp only[Option.some.injEq]at hold;subst hold
                      simp;omega
                    · cases hold
                have hol2:old=(vs.drop a.off).take old.length:=by
                  rw[hol]
                  unfold aCells at hold
                  simp only[lcut_eq]at hold
                  split at hold
                  · rename_i hz0;simp only[Option.some.injEq]at hold;subst hold;simp[hz0]
                  · rw[hsp,hg]at hold
                    simp only at hold
                    split at hold
                    · simp only[Option.some.injEq]at hold;exact hold.symm
                    · cases hold
                obtain⟨w',hr,hle,R'⟩:=R.inPlace (P:=P) hg hF (off:=a.off) (old:=old) (xs:=xs) (xs':=xs') (need:=len+n) (cap:=cap) hol2 q3 hgt hfit
                  (by rw[hol,hc3,Nat.add_mul]) (by rw[hol];exact Nat.mul_le_mul_right _ hb3) hvx hc4
                refine⟨_,.slice (some a') (len+n) (cap+d),w',hle,?_,?_,R'⟩
                · rw[append_fit hus hux hdx hi hlen hfit,hrx]
                  simp only[Result.andThen_ok]
                  have e5:a'.add (len*i.size)=⟨a'.block,a.off+o+old.length,none⟩:=by
                    rw[hol];unfold Addr.add;split
                    · rename_i e6;rw[e6,Nat.add_zero,←h1]
                      have e7:a'.spot=none:=by rw[h2,hsp]
                      exact(by rw[←e7]:a'=⟨a'.block,a'.off,none⟩)
                    · rw[h1]
                  rw[e5,hr];rfl
                · simp only[aGrown,VR]
                  refine⟨a',cap+d-(len+n),a.off+o,Nm.with_self _ _ _,by simp[h1],by simp[h2,hsp],?_⟩
                  congr 1;omega
              · -- in a new block
                exact hgrow H R rfl rfl hfit (H.put a.block none) (fun k r=>r.drop _)
            · cases h
        · cases h
  · cases h
end
end
end Go.Abs
