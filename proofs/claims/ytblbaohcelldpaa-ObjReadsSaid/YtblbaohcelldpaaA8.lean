/- Converting, copying, comparing; all operations that run no code in one function. -/
import Derived.Test.YtblbaohcelldpaaA6
set_option linter.all false
namespace Go.Abs
open Go
noncomputable section
section
variable {P:Program} {G:Nat} {F:Nm} {H:Heap} {w0:Base} {w:World}
def allU8:List Value->Bool
 | []=>true
 | .int .u8 _::r=>allU8 r
 |_::_=>false
def byteV:Value->UInt8
 | .int _ n=>UInt8.ofNat n.toNat
 |_=>0
def toBytes(l:List Value):Option (List UInt8):=match allU8 l with
 |true=>some (l.map byteV)
 |false=>none
theorem toBytes_ok:∀(l l':List Value) (bs:List UInt8),VRL F l l'->toBytes l=some bs->∃ns:List Int,l'=ns.map (Value.int .u8)/\bs=ns.map fun n=>UInt8.ofNat n.toNat:=by
 intro l l' bs h hb
 unfold toBytes at hb
 split at hb
 ·rename_i hall
  simp only[Option.some.injEq]at hb;subst hb
  induction l generalizing l' with
  |nil=>simp only[VRL]at h;subst h;exact⟨[],rfl,rfl⟩
  |cons v l ih=>
   simp only[VRL]at h;obtain⟨v',r',h1,h2,e⟩:=h;subst e
   unfold allU8 at hall
   split at hall
   ·rename_i e;cases e
   ·rename_i n r e
    simp only[List.cons.injEq]at e;obtain⟨e1,e2⟩:=e;subst e1;subst e2
    obtain⟨ns,g1,g2⟩:=ih _ h2 hall
    simp only[VR]at h1;subst h1;subst g1
    exact⟨n::ns,rfl,by rw[List.map_cons,g2];rfl⟩
   ·cases hall
 ·cases hb
theorem foldl_push(ns:List Int)(b:ByteArray):(ns.foldl (fun r n=>r.push (UInt8.ofNat n.toNat)) b)=bytesOf (b.data.toList++ns.map fun n=>UInt8.ofNat n.toNat):=by
 induction ns generalizing b with
 |nil=>apply ByteArray.ext;simp[bytesOf]
 |cons n ns ih=>
  simp only[List.foldl_cons,ih]
  apply ByteArray.ext
  simp[bytesOf,ByteArray.push]
def pureVal(P:Program)(s:Sem Value):Option Value:=
 match pureSem P s with
 |some v=>match plain v with
  |true=>some v
  |false=>none
 |none=>none
theorem pureVal_ok{s:Sem Value}{v:Value}(h:pureVal P s=some v)(w:World):s.run P w = .ok v w/\VR F v v:=by
 unfold pureVal at h
 split at h
 ·rename_i v2 h2
  split at h
  ·rename_i hp
   simp only[Option.some.injEq]at h;subst h
   exact⟨pureSem_run P s _ h2 w,(VR.plain_eq _ _ hp).2 rfl⟩
  ·cases h
 ·cases h
theorem push_modify(h:Array Obj)(o:Obj)(f:Obj->Obj):(h.push o).modify h.size f=h.push (f o):=by
 apply Array.ext_getElem?
 intro i
 simp only[Array.getElem?_modify,Array.getElem?_push]
 by_cases hi:i=h.size
 ·subst hi;simp
 ·rw[if_neg (by omega),if_neg hi,if_neg hi]
theorem stringToBytes_run(e:TypeId)(s:ByteArray)(w:World):∃cap,s.size<=cap/\(Conv.stringToBytes e s).run P w = .ok (.slice (some ⟨w.heap.size,0,none⟩) s.size cap)
  {w with drawn:=w.drawn+1,heap:=w.heap.push (.cells (s.data.map (fun b:UInt8=>Value.int .u8 b.toNat)++Array.replicate (cap-s.size) (.int .u8 0)) e (cap,cap+1))}:=by
 obtain⟨cap,hcap,hrunc⟩:∃cap,s.size<=cap/\(choose (.appendCap s.size 0 e)).run P w = .ok cap {w with drawn:=w.drawn+1}:=by
  refine⟨(Question.appendCap s.size 0 e).cut (w.tape w.drawn (.appendCap s.size 0 e)),by simp only[Question.cut];omega,?_⟩
  rw[run_choose];simp[Question.forced]
 refine⟨cap,hcap,?_⟩
 obtain⟨C,hC⟩:∃C,C=(s.data.map (fun b:UInt8=>Value.int .u8 b.toNat)++Array.replicate (cap-s.size) (Value.int .u8 0)):=⟨_,rfl⟩
 have hsz:C.size=cap:=by
  have:s.data.size=s.size:=rfl
  rw[hC];simp only[Array.size_append,Array.size_map,Array.size_replicate];omega
 rw[←hC]
 simp only[Conv.stringToBytes,Sem.run_bind,hrunc,Result.andThen_ok]
 rw[←hC]
 simp only[newRow,Sem.run_bind,run_newObj,Sem.run_pure,Result.andThen_ok,markStringish,run_shape,World.shape?,Array.getElem?_push_size,run_freeze,World.freeze]
 simp[push_modify,hsz]
def isU8:Option TypeDesc->Bool
 |some (.int .u8)=>true
 |_=>false
def aConvert(P:Program)(H:Heap)(src dst:TypeId)(x:Value):Option (Value×Heap):=
 match P.underlying src,P.underlying dst,x with
 |some _,some (.slice e),.string s=>match isU8 (P.underlying e)with
  |true=>some (.slice (some ⟨H.next,0,none⟩) s.data.toList.length s.data.toList.length,H.push (.cells (s.data.toList.map fun b => .int .u8 b.toNat) e 1 true true))
  |false=>none
 |some (.slice e),some .string,.slice (some a) n _=>match isU8 (P.underlying e),aCells H a n with
  |true,some l=>match toBytes l with
   |some bs=>some (.string (bytesOf bs),H)
   |none=>none
  |_,_=>none
 |some (.slice _),some (.slice _),_=>none
 |_,_,_=>match plain x with
  |true=>match pureVal P (convert src dst x)with
   |some v=>some (v,H)
   |none=>none
  |false=>none
theorem aConvert_ok(R:Rel G F H w0 w){src dst:TypeId}{x x':Value}(hx:VR F x x'){r:Value×Heap}(h:aConvert P H src dst x=some r):
  OpOK P G F w0 w (convert src dst x') r.1 r.2:=by
 unfold aConvert at h
 split at h
 ·rename_i ds e s hs hd
  split at h
  ·rename_i he
   simp only[Option.some.injEq]at h;subst h
   simp only[VR]at hx;subst hx
   have he':P.underlying e=some (.int .u8):=by
    unfold isU8 at he;split at he
    ·assumption
    ·cases he
   have hlen:s.data.toList.length=s.size:=by cases s;simp[ByteArray.size]
   obtain⟨cap,hcap,hrunc⟩:=stringToBytes_run (P:=P) e s w
   obtain⟨hle,R'⟩:=(R.draws (w.drawn+1)).push (vs:=s.data.toList.map fun b:UInt8=>Value.int .u8 b.toNat) (c:=s.data.map (fun b:UInt8=>Value.int .u8 b.toNat)++Array.replicate (cap-s.size) (.int .u8 0)) (elem:=e) (sz:=1) (d:=cap-s.size) (lo:=true) (cap,cap+1)
    (by
     have hd2:s.data.toList.length=s.data.size:=by simp
     simp only[Array.toList_append,Array.toList_map,List.length_map]
     rw[List.take_append_of_le_length (by simp),List.take_of_length_le (by simp)]
     exact(VRL.plain_eq _ _ (plainL_map _ (fun _=>rfl) _)).2 rfl)
    (by simp only[List.length_map,hlen,Array.size_append,Array.size_map,Array.size_replicate];have:s.data.size=s.size:=rfl;omega) (fun h=>by cases h)
    (by
     intro i hi
     simp only[Array.size_append,Array.size_map,Array.size_replicate]at hi
     have:s.data.size=s.size:=rfl
     omega)
   refine⟨_,.slice (some ⟨w.heap.size,0,none⟩) s.size cap,_,hle,?_,?_,R'⟩
   ·have e1:(convert src dst (.string s)).run P w=(Conv.stringToBytes e s).run P w:=by
     cases ds<;>simp[convert,run_underlying hs,run_underlying hd,run_underlying he']
    rw[e1,hrunc]
   ·simp only[VR]
    refine⟨⟨w.heap.size,0,none⟩,cap-s.size,0,Nm.with_self _ _ _,rfl,rfl,?_⟩
    rw[hlen];congr 1;omega
  ·cases h
 ·rename_i e a n c hs hd
  split at h
  ·rename_i l he hl
   split at h
   ·rename_i bs hbs
    simp only[Option.some.injEq]at h;subst h
    simp only[VR]at hx;obtain⟨a',d,o,hF,h1,h2,e'⟩:=hx;subst e'
    have he':P.underlying e=some (.int .u8):=by
     unfold isU8 at he;split at he
     ·assumption
     ·cases he
    obtain⟨l',hr,hv⟩:=R.loadCells P ⟨d,o,hF,h1,h2⟩ hl
    obtain⟨ns,g1,g2⟩:=toBytes_ok _ _ _ hv hbs
    subst g1;subst g2
    refine OpOK.same R (v' := .string (bytesOf (ns.map fun n=>UInt8.ofNat n.toNat))) ?_ (by simp[VR])
    rw[run_convert_bytes_string w src dst e _ _ _ hs he' hd,run_bytesToString w a' n (c+d) ns (by simpa using hr),foldl_push]
    rfl
   ·cases h
  ·cases h
 ·cases h
 ·split at h
  ·rename_i hp
   split at h
   ·rename_i v hv
    simp only[Option.some.injEq]at h;subst h
    rw[VR.plain_eq _ _ hp]at hx;subst hx
    obtain⟨g1,g2⟩:=pureVal_ok (F:=F) hv w
    exact OpOK.same R g1 g2
   ·cases h
  ·cases h
def headEq(d:TypeDesc)(a b:Value):Option Bool:=
 match d,a,b with
 | .pointer _,.pointer none,.pointer y=>some y.isNone
 | .pointer _,.pointer (some _),.pointer none=>some false
 | .slice _,.slice none _ _,.slice y _ _=>some y.isNone
 | .slice _,.slice (some _) _ _,.slice none _ _=>some false
 | .map _ _,.map none,.map y=>some y.isNone
 | .map _ _,.map (some _),.map none=>some false
 | .func _ _ _,.nilFunc,.nilFunc=>some true
 | .func _ _ _,.nilFunc,.func _ _ _=>some false
 | .func _ _ _,.func _ _ _,.nilFunc=>some false
 | .interface _,.nilIface,.iface t _=>match isMk t with
  |true=>none
  |false=>some false
 | .interface _,.iface t _,.nilIface=>match isMk t with
  |true=>none
  |false=>some false
 |_,_,_=>none
theorem headEq_ok{t:TypeId}{d:TypeDesc}(hu:P.underlying t=some d){a a' b b':Value}(ha:VR F a a')(hb:VR F b b'){r:Bool}(h:headEq d a b=some r)(n:Nat)(w:World):
  (Op.equalIn (n+1) t a' b').run P w = .ok r w/\(∀xs ys,a' = .agg xs->b' = .agg ys->False)/\(a' = .nilIface->b' = .nilIface->False)/\
   (binOp .eql t a' b'=(do pure (.bool (←Op.equal t a' b'))))/\(binOp .neq t a' b'=(do pure (.bool (!(←Op.equal t a' b'))))):=by
 unfold headEq at h
 split at h
 case h_10=>
  split at h
  ·cases h
  ·rename_i hm
   simp only[Option.some.injEq]at h;subst h
   obtain⟨_,_,e⟩:=hb.iface_real hm
   simp only[VR]at ha
   subst ha;subst e;exact⟨by simp[Op.equalIn,run_underlying hu],(by intro _ _ h;cases h),(by intro _ h;cases h),rfl,rfl⟩
 case h_11=>
  split at h
  ·cases h
  ·rename_i hm
   simp only[Option.some.injEq]at h;subst h
   obtain⟨_,_,e⟩:=ha.iface_real hm
   simp only[VR]at hb
   subst hb;subst e;exact⟨by simp[Op.equalIn,run_underlying hu],(by intro _ _ h;cases h),(by intro h;cases h),rfl,rfl⟩
 all_goals(try(cases h;done))
 all_goals(simp only[Option.some.injEq]at h;subst h)
 ·rename_i x y
  cases y<;>simp only[VR]at ha hb
  ·subst ha;subst hb;exact⟨by simp[Op.equalIn,run_underlying hu],(by intro _ _ h;cases h),(by intro h;cases h),rfl,rfl⟩
  ·obtain⟨_,_,e⟩:=hb;subst ha;subst e;exact⟨by simp[Op.equalIn,run_underlying hu],(by intro _ _ h;cases h),(by intro h;cases h),rfl,rfl⟩
 ·simp only[VR]at ha hb
  obtain⟨_,_,e⟩:=ha;subst hb;subst e;exact⟨by simp[Op.equalIn,run_underlying hu],(by intro _ _ h;cases h),(by intro h;cases h),rfl,rfl⟩
 ·rename_i y _ _
  cases y<;>simp only[VR]at ha hb
  ·subst ha;subst hb;exact⟨by simp[Op.equalIn,run_underlying hu],(by intro _ _ h;cases h),(by intro h;cases h),rfl,rfl⟩
  ·obtain⟨_,_,_,_,_,_,e⟩:=hb;subst ha;subst e;exact⟨by simp[Op.equalIn,run_underlying hu],(by intro _ _ h;cases h),(by intro h;cases h),rfl,rfl⟩
 ·simp only[VR]at ha hb
  obtain⟨_,_,_,_,_,_,e⟩:=ha;subst hb;subst e;exact⟨by simp[Op.equalIn,run_underlying hu],(by intro _ _ h;cases h),(by intro h;cases h),rfl,rfl⟩
 ·rename_i y
  cases y<;>simp only[VR]at ha hb
  ·subst ha;subst hb;exact⟨by simp[Op.equalIn,run_underlying hu],(by intro _ _ h;cases h),(by intro h;cases h),rfl,rfl⟩
  ·obtain⟨_,_,_,_,e⟩:=hb;subst ha;subst e;exact⟨by simp[Op.equalIn,run_underlying hu],(by intro _ _ h;cases h),(by intro h;cases h),rfl,rfl⟩
 ·simp only[VR]at ha hb
  obtain⟨_,_,_,_,e⟩:=ha;subst hb;subst e;exact⟨by simp[Op.equalIn,run_underlying hu],(by intro _ _ h;cases h),(by intro h;cases h),rfl,rfl⟩
 ·simp only[VR]at ha hb
  subst ha;subst hb;exact⟨by simp[Op.equalIn,run_underlying hu],(by intro _ _ h;cases h),(by intro h;cases h),rfl,rfl⟩
 ·simp only[VR]at ha hb
  obtain⟨_,_,_,_,e⟩:=hb;subst ha;subst e;exact⟨by simp[Op.equalIn,run_underlying hu],(by intro _ _ h;cases h),(by intro h;cases h),rfl,rfl⟩
 ·simp only[VR]at ha hb
  obtain⟨_,_,_,_,e⟩:=ha;subst hb;subst e;exact⟨by simp[Op.equalIn,run_underlying hu],(by intro _ _ h;cases h),(by intro h;cases h),rfl,rfl⟩
end
end
end Go.Abs
namespace Go.Abs
open Go
noncomputable section
section
variable {P:Program} {G:Nat} {F:Nm} {H:Heap} {w0:Base} {w:World}
def strBin(op:BinOp)(s s':ByteArray):Option Value:=
 let a:=s.data.toList
 let b:=s'.data.toList
 match op with
 | .add=>match Nat.ble (a.length+b.length) 1099511627776 with
  |true=>some (.string (bytesOf (a++b)))
  |false=>none
 | .eql=>some (.bool (a==b))
 | .neq=>some (.bool (!(a==b)))
 | .lss=>some (.bool (Op.bytesLess a b))
 | .leq=>some (.bool (Op.bytesLess a b||a==b))
 | .gtr=>some (.bool (!(Op.bytesLess a b||a==b)))
 | .geq=>some (.bool (!(Op.bytesLess a b)))
 |_=>none
theorem strBin_ok {op:BinOp} {s s':ByteArray} {v:Value} (h:strBin op s s'=some v) (t:TypeId) (w:World):
    (binOp op t (.string s) (.string s')).run P w = .ok v w/\VR F v v:=by
  have e1:∀s:ByteArray,s.size=s.data.toList.length:=fun s=>by cases s;simp[ByteArray.size]
  unfold strBin at h
  cases op<;>simp only at h<;>(try(cases h;done))<;>
    first
    | (simp only[Option.some.injEq]at h;subst h
       exact⟨by simp only[binOp,Op.stringOp,ByteArray.toList_eq,Sem.run_pure],by simp[VR]⟩)
    | (split at h
       · rename_i hc
         have hc:=Nat.le_of_ble_eq_true hc
         simp only[Option.some.injEq]at h;subst h
         refine⟨?_,by simp[VR]⟩
         have hm:¬(((s.size+s'.size:Nat):Int) > IntKind.i64.max):=by
           have:IntKind.i64.max=9223372036854775807:=by decide
           rw[this,e1,e1];omega
         simp only[binOp,Op.stringOp]
         rw[if_neg hm]
         have:s++s'=bytesOf (s.data.toList++s'.data.toList):=by apply ByteArray.ext;simp[bytesOf]
         rw[this];rfl
       · cases h)
def exactOwn? (H:Heap)(n:Nat):Bool:=match H.get n with
 |some (.cells _ _ _ false true)=>true
 |_=>false
def ptrEq(P:Program)(H:Heap)(t:TypeId)(p q:Addr):Option Bool:=
 match P.underlying t with
 |some (.pointer e)=>match aSize P e with
  |some (_+1)=>match Nat.beq p.block q.block with
   |true=>some (Nat.beq p.off q.off&&(match p.spot,q.spot with|none,none=>true|some a,some b=>Nat.beq a b|_,_=>false))
   |false=>match exactOwn? H p.block&&exactOwn? H q.block with
    |true=>some false
    |false=>none
  |_=>none
 |_=>none
theorem exactOwn_facts(R:Rel G F H w0 w){a a':Addr}(ha:AR F a a')(h:exactOwn? H a.block=true):
  (∃o,H.get a.block=some o/\o.own=true)/\(∃e n,w.shape? a'.block=some (e,n))/\(∀x:Addr,x.block=a'.block->w.frozen? x=false):=by
 unfold exactOwn? at h
 split at h
 ·rename_i vs elem sz hg
  obtain⟨b,d,o,c,fz,hF,⟨t,hw,ht⟩,_,_,hex,_⟩:=R.obj _ _ hg
  have ht:=ht rfl
  rw[ht]at hw
  obtain⟨d2,o2,e,_,_⟩:=ha
  rw[hF]at e;simp only[Option.some.injEq,Prod.mk.injEq]at e
  obtain⟨e1,_,_⟩:=e
  obtain⟨_,_,_,hfz⟩:=hex rfl
  subst hfz
  refine⟨⟨_,hg,rfl⟩,⟨t,c.size,?_⟩,?_⟩
  ·simp only[World.shape?,←e1,hw]
  ·intro x hx
   simp only[World.frozen?,hx,←e1,hw]
   simp
 ·cases h
theorem sameAddr_same(a b:Addr)(h:a.block=b.block)(w:World):(sameAddr a b).run P w = .ok (a==b) w:=by
 unfold sameAddr;rw[if_pos (by simp[h])];rfl
theorem sameAddr_other{a b:Addr}(hne:a.block≠b.block){w:World}(sa:∃e n,w.shape? a.block=some (e,n))(sb:∃e n,w.shape? b.block=some (e,n))
  (fa:∀x:Addr,x.block=a.block->w.frozen? x=false) (fb:∀x:Addr,x.block=b.block->w.frozen? x=false):(sameAddr a b).run P w = .ok false w:=by
 obtain⟨ea,na,sa⟩:=sa
 obtain⟨eb,nb,sb⟩:=sb
 have f1:=fa a rfl
 have f2:=fb b rfl
 have f3:=fa {block:=a.block,off:=na} rfl
 have f4:=fb {block:=b.block,off:=nb} rfl
 unfold sameAddr
 rw[if_neg (by simpa using hne)]
 simp[f1,f2,noView,viewAt,sa,sb,mayBeOne,stringish,f3,f4]
theorem ptrEq_ok(R:Rel G F H w0 w){t:TypeId}{p q p' q':Addr}(hp:AR F p p')(hq:AR F q q'){r:Bool}(h:ptrEq P H t p q=some r)(n:Nat):
  (Op.equalIn (n+1) t (.pointer (some p')) (.pointer (some q'))).run P w = .ok r w:=by
 unfold ptrEq at h
 split at h
 ·rename_i e hu
  split at h
  ·rename_i m hm
   have hne:¬(m+1=0):=by omega
   have hgo:(Op.equalIn (n+1) t (.pointer (some p')) (.pointer (some q'))).run P w=(sameAddr p' q').run P w:=by
    simp[Op.equalIn,run_underlying hu,run_sizeOf' hm]
   rw[hgo]
   split at h
   ·rename_i hb
    have hb:=Nat.eq_of_beq_eq_true hb
    simp only[Option.some.injEq]at h;subst h
    obtain⟨d,o,h1,h2,h3⟩:=hp
    obtain⟨d',o',h1',h2',h3'⟩:=hq
    rw[hb,h1']at h1;simp only[Option.some.injEq,Prod.mk.injEq]at h1
    obtain⟨k1,k2,k3⟩:=h1
    rw[sameAddr_same _ _ k1.symm]
    congr 1
    rw[Bool.eq_iff_iff,beq_iff_eq,Bool.and_eq_true]
    obtain⟨pb,po,ps⟩:=p'
    obtain⟨qb,qo,qs⟩:=q'
    simp only at h2 h3 h2' h3' k1
    simp only[Addr.mk.injEq]
    have e1:Nat.beq p.off q.off=true↔po=qo:=by
     constructor
     ·intro e;have:=Nat.eq_of_beq_eq_true e;omega
     ·intro e;have:p.off=q.off:=by omega
      rw[this];exact Nat.beq_refl _
    rw[e1,←h3,←h3']
    cases ps<;>cases qs<;>simp[k1]<;>omega
   ·rename_i hb
    have hb:p.block≠q.block:=fun e=>by rw[e]at hb;simp at hb
    split at h
    ·rename_i hx
     simp only[Option.some.injEq]at h;subst h
     simp only[Bool.and_eq_true]at hx
     obtain⟨⟨o1,g1,w1⟩,s1,f1⟩:=exactOwn_facts R hp hx.1
     obtain⟨⟨o2,g2,w2⟩,s2,f2⟩:=exactOwn_facts R hq hx.2
     have:=R.inj _ _ _ _ g1 g2 hb w1
     obtain⟨d,o,h1,h2,h3⟩:=hp
     obtain⟨d',o',h1',h2',h3'⟩:=hq
     refine sameAddr_other (fun e=>this ?_) s1 s2 f1 f2
     simp[blk,h1,h1',e]
    ·cases h
  ·cases h
 ·cases h
def wrapA(k:IntKind)(n:Int):Int:=match k with
 | .i64=>match decide (-9223372036854775808<=n)&&decide (n<=9223372036854775807)with
  |true=>n
  |false=>IntKind.i64.wrap n
 |k=>k.wrap n
theorem wrapA_eq(k:IntKind)(n:Int):wrapA k n=k.wrap n:=by
 unfold wrapA
 split
 ·split
  ·rename_i h
   simp only[Bool.and_eq_true,decide_eq_true_eq]at h
   simp[IntKind.wrap,IntKind.bits,IntKind.signed];omega
  ·rfl
 ·rfl
def intBin(op:BinOp)(k:IntKind)(a:Int)(k':IntKind)(b:Int):Option Value:=
 match op with
 | .shl=>match decide (0<=b)with
  |true=>some (.int k (k.wrap (a*2 ^ (min b.toNat k.bits))))
  |false=>none
 | .shr=>match decide (0<=b)with
  |true=>some (.int k (a.fdiv (2 ^ (min b.toNat k.bits))))
  |false=>none
 |op=>match decide (k=k')with
  |false=>none
  |true=>match op with
   | .add=>some (.int k (wrapA k (a+b)))
   | .sub=>some (.int k (wrapA k (a-b)))
   | .mul=>some (.int k (wrapA k (a*b)))
   | .quo=>match decide (b=0)with
    |true=>none
    |false=>some (.int k (k.wrap (a.tdiv b)))
   | .rem=>match decide (b=0)with
    |true=>none
    |false=>some (.int k (a.tmod b))
   | .and=>some (.int k (k.wrap ((BitVec.ofInt k.bits a) &&& (BitVec.ofInt k.bits b)).toNat))
   | .or=>some (.int k (k.wrap ((BitVec.ofInt k.bits a) ||| (BitVec.ofInt k.bits b)).toNat))
   | .xor=>some (.int k (k.wrap ((BitVec.ofInt k.bits a) ^^^ (BitVec.ofInt k.bits b)).toNat))
   | .andNot=>some (.int k (k.wrap ((BitVec.ofInt k.bits a) &&& ~~~(BitVec.ofInt k.bits b)).toNat))
   | .eql=>some (.bool (decide (a=b)))
   | .neq=>some (.bool (!decide (a=b)))
   | .lss=>some (.bool (decide (a<b)))
   | .leq=>some (.bool (decide (a<=b)))
   | .gtr=>some (.bool (decide (a > b)))
   | .geq=>some (.bool (decide (a≥b)))
   |_=>none
theorem intBin_ok {op:BinOp} {k k':IntKind} {a b:Int} {v:Value} (h:intBin op k a k' b=some v) (t:TypeId) (w:World):
    (binOp op t (.int k a) (.int k' b)).run P w = .ok v w/\VR F v v:=by
  unfold intBin at h
  cases op<;>simp only at h<;>
    first
    |(cases h;done)
    | (split at h<;>(try(cases h;done))
       rename_i hb
       simp only[decide_eq_true_eq]at hb
       simp only[Option.some.injEq]at h;subst h
       refine⟨?_,by simp[VR]⟩
       simp only[binOp,Op.shift]
       rw[if_neg (by omega)];rfl)
    | (split at h<;>(try(cases h;done))
       rename_i hk
       simp only[decide_eq_true_eq]at hk;subst hk
       split at h<;>(try(cases h;done))
       rename_i hb
       simp only[decide_eq_false_iff_not]at hb
       simp only[Option.some.injEq]at h;subst h
       refine⟨?_,by simp[VR]⟩
       simp only[binOp,Op.intDiv]
       rw[if_neg (by simp),if_neg hb];rfl)
    | (split at h<;>(try(cases h;done))
       rename_i hk
       simp only[decide_eq_true_eq]at hk;subst hk
       simp only[Option.some.injEq]at h;subst h
       refine⟨?_,by simp[VR]⟩
       simp[binOp,Op.intArith,Op.intBits,Op.intCmp,wrapA_eq]
       try rfl)
def isEq:BinOp->Option Bool
 | .eql=>some true
 | .neq=>some false
 |_=>none
def aBin(P:Program)(H:Heap)(op:BinOp)(t:TypeId)(x y:Operand)(a b:Value):Option Value:=
 match a,b with
 | .int k m,.int k' n=>intBin op k m k' n
 | .string s,.string s'=>strBin op s s'
 | .pointer (some p),.pointer (some q)=>match isEq op,ptrEq P H t p q with
  |some want,some r=>some (.bool (r==want))
  |_,_=>none
 |_,_=>match plain a&&plain b with
  |true=>pureVal P (do eqGuard op t x y a b;binOp op t a b)
  |false=>match isEq op,P.underlying t with
   |some want,some d=>match headEq d a b with
    |some r=>some (.bool (r==want))
    |none=>none
   |_,_=>none
theorem eqGuard_pure (op:BinOp) (t:TypeId) (x y:Operand) (a b:Value) (h1:∀xs ys,a = .agg xs->b = .agg ys->False) (h2:a = .nilIface->b = .nilIface->False) (w:World):
    (eqGuard op t x y a b).run P w = .ok () w:=by
  unfold eqGuard
  split<;>first
    |(rw[if_pos (by rfl)];rfl)
    | (rw[if_neg (by decide)]
       split
       · exact(h2 rfl rfl).elim
       · exact(h1 _ _ rfl rfl).elim
       · rfl)
theorem aBin_ok(R:Rel G F H w0 w){op:BinOp}{t:TypeId}(x y:Operand){a a' b b':Value}(ha:VR F a a')(hb:VR F b b'){v:Value}(h:aBin P H op t x y a b=some v):
  ∃v',(do eqGuard op t x y a' b';binOp op t a' b':Sem Value).run P w = .ok v' w/\VR F v v':=by
 unfold aBin at h
 split at h
 ·simp only[VR]at ha hb;subst ha;subst hb
  obtain⟨g1,g2⟩:=intBin_ok (P:=P) (F:=F) h t w
  refine⟨v,?_,g2⟩
  rw[Sem.run_bind,eqGuard_pure _ _ _ _ _ _ (by intro _ _ h;cases h) (by intro h;cases h)]
  exact g1
 ·simp only[VR]at ha hb;subst ha;subst hb
  obtain⟨g1,g2⟩:=strBin_ok (P:=P) (F:=F) h t w
  refine⟨v,?_,g2⟩
  rw[Sem.run_bind,eqGuard_pure _ _ _ _ _ _ (by intro _ _ h;cases h) (by intro h;cases h)]
  exact g1
 ·rename_i p q
  split at h
  ·rename_i want r hop hr
   simp only[Option.some.injEq]at h;subst h
   simp only[VR]at ha hb
   obtain⟨p',hp,e⟩:=ha;subst e
   obtain⟨q',hq,e⟩:=hb;subst e
   refine⟨.bool (r==want),?_,by simp[VR]⟩
   rw[Sem.run_bind,eqGuard_pure _ _ _ _ _ _ (by intro _ _ h;cases h) (by intro h;cases h)]
   have:=ptrEq_ok (P:=P) R hp hq hr 9999
   unfold isEq at hop
   split at hop<;>(try(cases hop;done))<;>(simp only[Option.some.injEq]at hop;subst hop)<;>
    (simp only[Result.andThen_ok,binOp,Sem.run_bind,Op.equal,Op.maxDepth];rw[this];cases r<;>rfl)
  ·cases h
 ·split at h
  ·rename_i hpl
   simp only[Bool.and_eq_true]at hpl
   rw[VR.plain_eq _ _ hpl.1]at ha;rw[VR.plain_eq _ _ hpl.2]at hb
   subst ha;subst hb
   obtain⟨g1,g2⟩:=pureVal_ok (F:=F) h w
   exact⟨v,g1,g2⟩
  ·split at h
   ·rename_i want d hop hu
    split at h
    ·rename_i r hr
     simp only[Option.some.injEq]at h;subst h
     obtain⟨g1,g2,g3,g4,g5⟩:=headEq_ok (P:=P) hu ha hb hr 9999 w
     refine⟨.bool (r==want),?_,by simp[VR]⟩
     rw[Sem.run_bind,eqGuard_pure _ _ _ _ _ _ g2 g3]
     unfold isEq at hop
     split at hop<;>(try(cases hop;done))<;>(simp only[Option.some.injEq]at hop;subst hop)
     ·simp only[Result.andThen_ok,g4,Sem.run_bind,Op.equal,Op.maxDepth];rw[g1];cases r<;>rfl
     ·simp only[Result.andThen_ok,g5,Sem.run_bind,Op.equal,Op.maxDepth];rw[g1];cases r<;>rfl
    ·cases h
   ·cases h
def aLen(P:Program)(t:TypeId)(x:Value):Option Value:=
 match P.underlying t,x with
 |some .string,.string s=>some (.int .i64 s.data.toList.length)
 |some (.array n _),_=>some (.int .i64 n)
 |some (.pointer arr),_=>match P.underlying arr with
  |some (.array n _)=>some (.int .i64 n)
  |_=>none
 |some (.slice _),.slice _ n _=>some (.int .i64 n)
 |some (.map _ _),.map none=>some (.int .i64 0)
 |_,_=>none
theorem aLen_ok{t:TypeId}{x x':Value}(hx:VR F x x'){v:Value}(h:aLen P t x=some v)(argTypes:Array TypeId)(ht:argTypes[0]?=some t)(ty:TypeId)(rest:List Value)(w:World):
  (Builtin.len_ argTypes ty (x'::rest).toArray).run P w = .ok v w/\VR F v v:=by
 unfold aLen at h
 split at h<;>(try(cases h;done))
 ·rename_i s hu
  simp only[Option.some.injEq]at h;subst h
  simp only[VR]at hx;subst hx
  exact⟨by simp[Builtin.len_,ht,run_underlying hu,goInt],by simp[VR]⟩
 ·rename_i n e hu
  simp only[Option.some.injEq]at h;subst h
  exact⟨by simp[Builtin.len_,ht,run_underlying hu,goInt],by simp[VR]⟩
 ·rename_i arr hu
  split at h<;>(try(cases h;done))
  rename_i n e hu2
  simp only[Option.some.injEq]at h;subst h
  exact⟨by simp[Builtin.len_,ht,run_underlying hu,run_underlying hu2,goInt],by simp[VR]⟩
 ·rename_i e a n c hu
  simp only[Option.some.injEq]at h;subst h
  cases a with
  |none=>simp only[VR]at hx;subst hx;exact⟨by simp[Builtin.len_,ht,run_underlying hu,goInt],by simp[VR]⟩
  |some a=>simp only[VR]at hx;obtain⟨_,_,_,_,_,_,e⟩:=hx;subst e;exact⟨by simp[Builtin.len_,ht,run_underlying hu,goInt],by simp[VR]⟩
 ·rename_i k e hu
  simp only[Option.some.injEq]at h;subst h
  simp only[VR]at hx;subst hx
  exact⟨by simp[Builtin.len_,ht,run_underlying hu,goInt],by simp[VR]⟩
def aCap(P:Program)(H:Heap)(t:TypeId)(x:Value):Option Value:=
 match P.underlying t,x with
 |some (.array n _),_=>some (.int .i64 n)
 |some (.slice _),.slice none _ n=>some (.int .i64 n)
 |some (.slice _),.slice (some a) _ n=>match exact? H a.block with
  |true=>some (.int .i64 n)
  |false=>none
 |_,_=>none
theorem aCap_ok(R:Rel G F H w0 w){t:TypeId}{x x':Value}(hx:VR F x x'){v:Value}(h:aCap P H t x=some v)(argTypes:Array TypeId)(ht:argTypes[0]?=some t)(ty:TypeId)(rest:List Value):
  (Builtin.cap_ argTypes ty (x'::rest).toArray).run P w = .ok v w/\VR F v v:=by
 unfold aCap at h
 split at h<;>(try(cases h;done))
 ·rename_i n e hu
  simp only[Option.some.injEq]at h;subst h
  exact⟨by simp[Builtin.cap_,ht,run_underlying hu,goInt],by simp[VR]⟩
 ·rename_i e n c hu
  simp only[Option.some.injEq]at h;subst h
  simp only[VR]at hx;subst hx
  exact⟨by simp[Builtin.cap_,ht,run_underlying hu,goInt],by simp[VR]⟩
 ·rename_i e a n c hu
  split at h<;>(try(cases h;done))
  rename_i hex
  simp only[Option.some.injEq]at h;subst h
  simp only[VR]at hx;obtain⟨a',d,o,hF,_,_,e⟩:=hx;subst e
  have:=(exact_room R hex hF).1;subst this
  exact⟨by simp[Builtin.cap_,ht,run_underlying hu,goInt],by simp[VR]⟩
def aCopy (P:Program) (H:Heap) (t:TypeId) (dst src:Value):Option (Value×Heap):=
  match P.underlying t,dst with
  | some (.slice elem),.slice base dLen _=>match aSize P elem with
    |none=>none
    |some size=>
      match (match src with
        | .slice none sl _=>some (Nat.min sl dLen,([]:List Value),Nat.beq (Nat.min sl dLen) 0)
        | .slice (some b) sl _=>(aCells H b (Nat.min sl dLen*size)).map fun l=>(Nat.min sl dLen,l,true)
        | .string s=>some (Nat.min s.data.toList.length dLen,(s.data.toList.take (Nat.min s.data.toList.length dLen)).map (fun b:UInt8=>Value.int .u8 b.toNat),true)
        |_=>none)with
      | some (n,xs,true)=>match base with
        |none=>match xs with
          | []=>some (.int .i64 n,H)
          |_=>none
        |some a=>match xs with
          | []=>some (.int .i64 n,H)
          |_=>match a.spot,H.get a.block with
            |none,some (.cells vs e2 sz lo true)=>match Nat.ble (a.off+xs.length) vs.length&&xs.all isCell with
              |true=>some (.int .i64 n,H.put a.block (some (.cells (splice vs a.off xs) e2 sz lo true)))
              |false=>none
            |_,_=>none
      |_=>none
  |_,_=>none
theorem aCopy_ok(R:Rel G F H w0 w){t:TypeId}{dst dst' src src':Value}(hd:VR F dst dst')(hs:VR F src src'){r:Value×Heap}(h:aCopy P H t dst src=some r)
  (argTypes:Array TypeId) (ht:argTypes[0]?=some t) (ty:TypeId):OpOK P G F w0 w (Builtin.copy_ argTypes ty #[dst',src']) r.1 r.2:=by
 unfold aCopy at h;simp only[splice_eq]at h
 split at h<;>(try(cases h;done))
 rename_i elem base dLen cap hu
 split at h<;>(try(cases h;done))
 rename_i size hsz
 split at h<;>(try(cases h;done))
 rename_i n xs hsrc
 have hkey:∃sl,(Builtin.lenOf src').run P w = .ok sl w/\n=Nat.min sl dLen/\∃xs',(Builtin.firstCells size n src').run P w = .ok xs'.toArray w/\VRL F xs xs':=by
  split at hsrc
  ·rename_i sl c
   simp only[Option.some.injEq,Prod.mk.injEq]at hsrc
   obtain⟨e1,e2,e3⟩:=hsrc
   simp only[VR]at hs;subst hs;subst e2
   exact⟨sl,by simp[Builtin.lenOf],e1.symm,[],by simp[Builtin.firstCells],by simp[VRL]⟩
  ·rename_i b sl c
   simp only[Option.map_eq_some_iff]at hsrc
   obtain⟨l,hl,e⟩:=hsrc
   simp only[Prod.mk.injEq]at e
   obtain⟨e1,e2,_⟩:=e
   simp only[VR]at hs;obtain⟨b',d,o,hF,h1,h2,e'⟩:=hs;subst e';subst e2
   obtain⟨l',hr,hv⟩:=R.loadCells P ⟨d,o,hF,h1,h2⟩ hl
   exact⟨sl,by simp[Builtin.lenOf],e1.symm,l',by simp[Builtin.firstCells,←e1,hr],hv⟩
  ·rename_i s
   simp only[Option.some.injEq,Prod.mk.injEq]at hsrc
   obtain⟨e1,e2,_⟩:=hsrc
   simp only[VR]at hs;subst hs;subst e2
   have e0:s.size=s.data.toList.length:=by cases s;simp[ByteArray.size]
   refine⟨s.size,by simp[Builtin.lenOf],by rw[e0];exact e1.symm,(s.data.toList.take n).map (fun b:UInt8=>Value.int .u8 b.toNat),?_,?_⟩
   ·simp only[Builtin.firstCells,extract_bytes,Sem.run_pure,Result.ok.injEq,and_true]
    apply Array.ext';simp[bytesOf]
   ·rw[e1];exact(VRL.plain_eq _ _ (plainL_map _ (fun _=>rfl) _)).2 rfl
  ·cases hsrc
 obtain⟨sl,hlen,hn,xs',hrun,hv⟩:=hkey
 have hl2:=hv.length
 have hbase:∃base' cap',dst' = .slice base' dLen cap'/\(match base,base' with|none,none=>True|some a,some a'=>AR F a a'|_,_=>False):=by
  cases base with
  |none=>simp only[VR]at hd;exact⟨none,cap,hd,trivial⟩
  |some a=>simp only[VR]at hd;obtain⟨a',d,o,hF,h1,h2,e⟩:=hd;exact⟨some a',_,e,⟨d,o,hF,h1,h2⟩⟩
 obtain⟨base',cap',e,hb⟩:=hbase
 subst e
 have hgo:(Builtin.copy_ argTypes ty #[.slice base' dLen cap',src']).run P w=((match base' with|some a=>storeCells a xs'|none=>pure ()).run P w).andThen fun _ w' => .ok (goInt n) w':=by
  simp only[Builtin.copy_,ht,List.getElem?_toArray,List.getElem?_cons_zero,List.getElem?_cons_succ,Sem.run_bind,run_underlying hu,Result.andThen_ok,hlen,run_sizeOf' hsz,←hn,hrun]
  cases base'<;>simp
 cases base with
 |none=>
  cases base' with
  |some _=>exact hb.elim
  |none=>
   simp only at h
   split at h<;>(try(cases h;done))
   simp only[Option.some.injEq]at h;subst h
   refine OpOK.same R (v' := .int .i64 n) ?_ (by simp[VR])
   rw[hgo];rfl
 |some a=>
  cases base' with
  |none=>exact hb.elim
  |some a'=>
   simp only at h hb
   split at h
   ·simp only[Option.some.injEq]at h;subst h
    simp only[VRL]at hv;subst hv
    refine OpOK.same R (v' := .int .i64 n) ?_ (by simp[VR])
    rw[hgo];simp[storeCells,goInt]
   ·split at h<;>(try(cases h;done))
    rename_i vs e2 sz lo hsp hg
    split at h<;>(try(cases h;done))
    rename_i hc
    simp only[Bool.and_eq_true]at hc
    have hc1:=Nat.le_of_ble_eq_true hc.1
    simp only[Option.some.injEq]at h;subst h
    obtain⟨w',hr,R'⟩:=storeCells_ok (P:=P) xs xs' 0 R hb hsp hg hc.2 (by omega) hv
    refine⟨F,.int .i64 n,w',Nm.le_refl F,?_,by simp[VR],by simpa using R'⟩
    rw[hgo];simp only[hr,Result.andThen_ok];rfl
end
end
end Go.Abs
namespace Go.Abs
open Go
noncomputable section
section
variable {P:Program} {G:Nat} {F:Nm} {H:Heap} {w0:Base} {w:World}
def mkd:Value->Bool
 | .iface t _=>isMk t
 |_=>false
def aTypeAssert (P:Program) (x:Value) (asserted:TypeId) (ok:Bool):Option Value:=
  match mkd x with
  |true=>none
  |false=>
  match P.underlying asserted,x with
  |some (.interface _),.nilIface=>match ok,aZero P asserted with
    |true,some z=>match plain z with
      |true=>some (.tuple #[z,.bool false])
      |false=>none
    |_,_=>none
  | some (.interface want),.iface t _=>match P.info? t with
    |some i=>match Instr.missingMethod want i.methods with
      |none=>some (if ok then .tuple #[x,.bool true]else x)
      |some _=>match ok,aZero P asserted with
        |true,some z=>match plain z with
          |true=>some (.tuple #[z,.bool false])
          |false=>none
        |_,_=>none
    |none=>none
  |some _,.nilIface=>match ok,aZero P asserted with
    |true,some z=>match plain z with
      |true=>some (.tuple #[z,.bool false])
      |false=>none
    |_,_=>none
  |some _,.iface t v=>match Nat.beq t asserted with
    |true=>some (if ok then .tuple #[v,.bool true]else v)
    |false=>match ok,aZero P asserted with
      |true,some z=>match plain z with
        |true=>some (.tuple #[z,.bool false])
        |false=>none
      |_,_=>none
  |_,_=>none
theorem VR.bool{F:Nm}(b:Bool):VR F (.bool b) (.bool b):=by simp[VR]
theorem VR.tuple2{F:Nm}{a a' b b':Value}(h:VR F a a')(h2:VR F b b'):VR F (.tuple #[a,b]) (.tuple #[a',b']):=by
 simp only[VR];exact⟨_,VRA.ofL (by simp only[VRL];exact⟨a',_,h,⟨b',_,h2,rfl,rfl⟩,rfl⟩),rfl⟩
theorem aTypeAssert_ok{x x':Value}(hx:VR F x x'){xType asserted:TypeId}{ok:Bool}{v:Value}(h:aTypeAssert P x asserted ok=some v)(w:World):
  ∃v',(Instr.typeAssert x' xType asserted ok).run P w = .ok v' w/\VR F v v':=by
 unfold aTypeAssert at h
 split at h
 ·cases h
 rename_i hmk
 split at h
 ·rename_i ms hu
  split at h<;>(try(cases h;done))
  rename_i z hz
  split at h<;>(try(cases h;done))
  rename_i hp
  simp only[Option.some.injEq]at h;subst h
  simp only[VR]at hx;subst hx
  exact⟨_,by simp[Instr.typeAssert,run_underlying hu,run_zeroValue hz],VR.tuple2 ((VR.plain_eq _ _ hp).2 rfl) (VR.bool false)⟩
 ·rename_i want t y hu
  split at h<;>(try(cases h;done))
  rename_i i hi
  have hx0:=hx
  obtain⟨y',hy,e⟩:=hx.iface_real hmk;subst e
  split at h
  ·rename_i hm
   simp only[Option.some.injEq]at h;subst h
   cases ok with
   |true=>exact⟨_,by simp[Instr.typeAssert,run_underlying hu,run_typeInfo hi,hm],VR.tuple2 hx0 (VR.bool true)⟩
   |false=>exact⟨_,by simp[Instr.typeAssert,run_underlying hu,run_typeInfo hi,hm],hx0⟩
  ·rename_i m hm
   split at h<;>(try(cases h;done))
   rename_i z hz
   split at h<;>(try(cases h;done))
   rename_i hp
   simp only[Option.some.injEq]at h;subst h
   exact⟨_,by simp[Instr.typeAssert,run_underlying hu,run_typeInfo hi,hm,run_zeroValue hz],VR.tuple2 ((VR.plain_eq _ _ hp).2 rfl) (VR.bool false)⟩
 ·rename_i d hni hu
  split at h<;>(try(cases h;done))
  rename_i z hz
  split at h<;>(try(cases h;done))
  rename_i hp
  simp only[Option.some.injEq]at h;subst h
  simp only[VR]at hx;subst hx
  refine⟨_,?_,VR.tuple2 ((VR.plain_eq _ _ hp).2 rfl) (VR.bool false)⟩
  cases d<;>simp[Instr.typeAssert,run_underlying hu,run_zeroValue hz]
 ·rename_i d t y hni hu
  obtain⟨y',hy,e⟩:=hx.iface_real hmk;subst e
  have hd:∀ms,d ≠ .interface ms:=fun ms e=>hni ms e
  split at h
  ·rename_i ht
   have ht:=Nat.eq_of_beq_eq_true ht
   subst ht
   simp only[Option.some.injEq]at h;subst h
   cases ok with
   |true=>
    refine⟨.tuple #[y',.bool true],?_,VR.tuple2 hy (VR.bool true)⟩
    cases d<;>first|exact absurd rfl (hd _)|simp[Instr.typeAssert,run_underlying hu]
   |false=>
    refine⟨y',?_,hy⟩
    cases d<;>first|exact absurd rfl (hd _)|simp[Instr.typeAssert,run_underlying hu]
  ·rename_i ht
   have ht:t≠asserted:=fun e=>by rw[e]at ht;simp at ht
   split at h<;>(try(cases h;done))
   rename_i z hz
   split at h<;>(try(cases h;done))
   rename_i hp
   simp only[Option.some.injEq]at h;subst h
   refine⟨.tuple #[z,.bool false],?_,VR.tuple2 ((VR.plain_eq _ _ hp).2 rfl) (VR.bool false)⟩
   cases d<;>first|exact absurd rfl (hd _)|simp[Instr.typeAssert,run_underlying hu,ht,run_zeroValue hz]
 ·cases h
end
end
end Go.Abs
