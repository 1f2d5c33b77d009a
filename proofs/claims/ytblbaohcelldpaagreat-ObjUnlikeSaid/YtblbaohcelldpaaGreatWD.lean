/- Are two structs of integers the same? -/
import Derived.Test.YtblbaohcelldpaaGreatS4
import Derived.WalkKit
import Derived.ProofKit
import Derived.OpenShut
import Derived.Carry
import Derived.Deep.Slices
import Derived.Deep.Fields
import Derived.SizedLaws
set_option linter.all false
namespace Go.Abs
open Go
section
variable {P:Program}
def eqPairsF(P:Program)(rec:TypeId->List Value->List Value->Option (List (Int×Int)))(xs ys:List Value):List Field->Option (List (Int×Int))
 | []=>some []
 | f :: fs => match f.name == "_" with
  |true=>none
  |false=>match P.underlying f.type with
   |some (.int _)=>match xs[f.offset]?,ys[f.offset]? with
    |some (.int k a),some (.int k' b)=>match decide (k=k')with
     |true=>match eqPairsF P rec xs ys fs with
      |some l=>some ((a,b)::l)
      |none=>none
     |false=>none
    |_,_=>none
   |some (.struct _)=>match aSize P f.type with
    |some n=>match rec f.type ((xs.drop f.offset).take n) ((ys.drop f.offset).take n),eqPairsF P rec xs ys fs with
     |some l,some l'=>some (l++l')
     |_,_=>none
    |none=>none
   |_=>none
def eqPairs(P:Program):Nat->TypeId->List Value->List Value->Option (List (Int×Int))
 | 0,_,_,_=>none
 |d+1,t,xs,ys=>match P.underlying t with
  |some (.struct fs)=>match P.stoodInHeld t with
   |true=>none
   |false=>eqPairsF P (eqPairs P d) xs ys fs.toList
  |_=>none
def allEq(l:List (Int×Int)):Bool:=l.all fun(a,b)=>a==b
theorem pure_underlying{t:TypeId}{d:TypeDesc}(h:P.underlying t=some d):pureSem P (underlying t)=some d:=pureSem_underlying h
theorem pure_isAgg{t:TypeId}{d:TypeDesc}(h:P.underlying t=some d):pureSem P (isAgg t)=some (isAggD d):=by
 unfold isAgg;rw[pureSem_bind,pure_underlying h,Option.bind_some]
 cases d<;>rfl
theorem pure_sizeOf{t:TypeId}{n:Nat}(h:aSize P t=some n):pureSem P (sizeOf t)=some n:=by
 unfold aSize at h
 cases e:P.info? t with
 |none=>rw[e]at h;cases h
 |some i=>
  rw[e]at h;simp only[Option.map_some,Option.some.injEq]at h;subst h
  simp[sizeOf,typeInfo,program,pureSem_bind,pureSem,e]
  rfl
theorem pure_part_int{t:TypeId}{d:IntKind}(hu:P.underlying t=some (.int d)){cs:List Value}{off:Nat}{v:Value}(h:cs[off]?=some v):pureSem P (part t ⟨cs⟩ off)=some v:=by
 unfold part
 rw[pureSem_bind,pure_isAgg hu,Option.bind_some]
 simp[isAggD,h]
 rfl
theorem pure_part_struct{t:TypeId}{fs:Array Field}(hu:P.underlying t=some (.struct fs)){cs:List Value}{off n:Nat}(hn:aSize P t=some n):pureSem P (part t ⟨cs⟩ off)=some (.agg ⟨(cs.drop off).take n⟩):=by
 unfold part
 rw[pureSem_bind,pure_isAgg hu,Option.bind_some]
 simp only[isAggD,if_true]
 rw[pureSem_bind,pure_sizeOf hn,Option.bind_some]
 simp
 rfl
theorem pure_equal_int{t:TypeId}{q k:IntKind}{a b:Int}(hu:P.underlying t=some (.int q))(n:Nat):pureSem P (Op.equalIn (n+1) t (.int k a) (.int k b))=some (a==b):=by
 simp only[Op.equalIn,pureSem_bind,pure_underlying hu,Option.bind_some,if_true]
 rfl
theorem pure_struct{t:TypeId}{fs:Array Field}(hu:P.underlying t=some (.struct fs))(hp:P.stoodInHeld t=false)(d:Nat)(xs ys:Array Value):
  pureSem P (Op.equalIn (d+1) t (.agg xs) (.agg ys))=pureSem P (Op.eqFields d xs ys fs.toList):=by
 have e0:pureSem P (program)=some P:=rfl
 simp only[Op.equalIn,pureSem_bind,pure_underlying hu,Option.bind_some,e0,hp,Bool.false_eq_true,if_false]
 rw[←Array.forIn_toList]
 have e1:pureSem P (pure PUnit.unit:Sem PUnit)=some PUnit.unit:=rfl
 generalize fs.toList=l
 clear hu
 induction l with
 |nil=>rfl
 |cons f fs ih=>
  simp only[List.forIn_cons,Op.eqFields]
  by_cases hn : f.name = "_"
  ·simp only[hn,ne_eq,not_true_eq_false,if_false,pureSem_bind]
   exact ih
  ·simp only[hn,ne_eq,not_false_eq_true,if_true,pureSem_bind]
   cases h1:pureSem P (part f.type xs f.offset)with
   |none=>simp
   |some a=>
    simp only[Option.bind_some]
    cases h2:pureSem P (part f.type ys f.offset)with
    |none=>simp
    |some b=>
     simp only[Option.bind_some]
     cases h3:pureSem P (Op.equalIn d f.type a b)with
     |none=>simp
     |some r=>
      simp only[Option.bind_some]
      cases r
      ·rfl
      ·exact ih
theorem pairsF_ok{rec:TypeId->List Value->List Value->Option (List (Int×Int))}{d:Nat}(hrec:∀t l l' ps,rec t l l'=some ps->pureSem P (Op.equalIn (d+1) t (.agg ⟨l⟩) (.agg ⟨l'⟩))=some (allEq ps)){xs ys:List Value}:
  ∀(fs:List Field) (ps:List (Int×Int)),eqPairsF P rec xs ys fs=some ps->pureSem P (Op.eqFields (d+1) ⟨xs⟩ ⟨ys⟩ fs)=some (allEq ps)
 | [],ps,h=>by simp only[eqPairsF,Option.some.injEq]at h;subst h;rfl
 |f::fs,ps,h=>by
  have ih:=fun ps h=>pairsF_ok hrec (xs:=xs) (ys:=ys) fs ps h
  unfold eqPairsF at h
  split at h
  ·cases h
  ·rename_i hn
   have hn : f.name ≠ "_" := by simpa using hn
   split at h
   ·rename_i q hu
    split at h
    ·rename_i k a k' b h1 h2
     split at h
     ·rename_i hk
      simp only[decide_eq_true_eq]at hk;subst hk
      split at h
      ·rename_i l hl
       simp only[Option.some.injEq]at h;subst h
       simp only[Op.eqFields,hn,ne_eq,not_false_eq_true,if_true,pureSem_bind,pure_part_int hu h1,pure_part_int hu h2,Option.bind_some,pure_equal_int hu]
       cases hab:a==b
       ·simp[allEq,hab];rfl
       ·simp only[Bool.not_true,Bool.false_eq_true,if_false,ih _ hl]
        simp[allEq,hab]
      ·cases h
     ·cases h
    ·cases h
   ·rename_i gs hu
    split at h
    ·rename_i n hsz
     split at h
     ·rename_i l l' hl hl'
      simp only[Option.some.injEq]at h;subst h
      simp only[Op.eqFields,hn,ne_eq,not_false_eq_true,if_true,pureSem_bind,pure_part_struct hu hsz,Option.bind_some,hrec _ _ _ _ hl]
      cases hab:allEq l
      ·simp only[Bool.not_false,if_true]
       simp only[allEq]at hab ⊢
       rw[List.all_append,hab];rfl
      ·simp only[Bool.not_true,Bool.false_eq_true,if_false,ih _ hl']
       simp only[allEq]at hab ⊢
       rw[List.all_append,hab];rfl
     ·cases h
    ·cases h
   ·cases h
theorem pairs_ok:∀(d:Nat) (t:TypeId) (l l':List Value) (ps:List (Int×Int)) (n:Nat),d<=n->eqPairs P d t l l'=some ps->pureSem P (Op.equalIn (n+1) t (.agg ⟨l⟩) (.agg ⟨l'⟩))=some (allEq ps)
 | 0,t,l,l',ps,n,hn,h=>by cases h
 |d+1,t,l,l',ps,n,hn,h=>by
  unfold eqPairs at h
  split at h
  ·rename_i fs hu
   split at h
   ·cases h
   ·rename_i hp
    rw[pure_struct hu hp]
    obtain⟨m,rfl⟩:∃m,n=m+1:=⟨n-1,by omega⟩
    exact pairsF_ok (fun t l l' ps h=>pairs_ok d t l l' ps m (by omega) h) _ _ h
  ·cases h
theorem pure_eqGuard{op:BinOp}{t:TypeId}{x y:Operand}{xs ys:Array Value}(hm:P.eqGuardType P.depth t=false):pureSem P (eqGuard op t x y (.agg xs) (.agg ys))=some ():=by
 have e0:pureSem P (program)=some P:=rfl
 cases op<;>simp[eqGuard,pureSem_bind,e0,hm]<;>rfl
theorem ag_eql{t:TypeId}{l l':List Value}{ps:List (Int×Int)}(h:eqPairs P 5 t l l'=some ps)(hm:P.eqGuardType P.depth t=false)(hl:plainL l=true)(hl':plainL l'=true)(H:Heap)(x y:Operand):
  aBin P H .eql t x y (.agg ⟨l⟩) (.agg ⟨l'⟩)=some (.bool (allEq ps)):=by
 have e:pureSem P (do eqGuard .eql t x y (.agg ⟨l⟩) (.agg ⟨l'⟩);binOp .eql t (.agg ⟨l⟩) (.agg ⟨l'⟩))=some (.bool (allEq ps)):=by
  rw[pureSem_bind,pure_eqGuard hm,Option.bind_some,show binOp .eql t (.agg ⟨l⟩) (.agg ⟨l'⟩)=(do pure (.bool ((←Op.equalIn (9999+1) t (.agg ⟨l⟩) (.agg ⟨l'⟩)))))from rfl,pureSem_bind,pairs_ok 5 t l l' ps 9999 (by omega) h]
  rfl
 simp only[aBin,plain,plainA,hl,hl',Bool.and_self,pureVal,e]
theorem ag_neq{t:TypeId}{l l':List Value}{ps:List (Int×Int)}(h:eqPairs P 5 t l l'=some ps)(hm:P.eqGuardType P.depth t=false)(hl:plainL l=true)(hl':plainL l'=true)(H:Heap)(x y:Operand):
  aBin P H .neq t x y (.agg ⟨l⟩) (.agg ⟨l'⟩)=some (.bool (!allEq ps)):=by
 have e:pureSem P (do eqGuard .neq t x y (.agg ⟨l⟩) (.agg ⟨l'⟩);binOp .neq t (.agg ⟨l⟩) (.agg ⟨l'⟩))=some (.bool (!allEq ps)):=by
  rw[pureSem_bind,pure_eqGuard hm,Option.bind_some,show binOp .neq t (.agg ⟨l⟩) (.agg ⟨l'⟩)=(do pure (.bool (!(←Op.equalIn (9999+1) t (.agg ⟨l⟩) (.agg ⟨l'⟩)))))from rfl,pureSem_bind,pairs_ok 5 t l l' ps 9999 (by omega) h]
  rfl
 simp only[aBin,plain,plainA,hl,hl',Bool.and_self,pureVal,e]
theorem n_agEql{t:TypeId}{l l':List Value}{ps:List (Int×Int)}{X Y:Prop}(h:eqPairs P 5 t l l'=some ps)(hm:P.eqGuardType P.depth t=false)(hl:plainL l=true)(hl':plainL l'=true)
 (h1:allEq ps=true->X) (h2:allEq ps=false->Y):(real P).agEq .eql t l l' X Y:=⟨_,fun H x y=>ag_eql h hm hl hl' H x y,h1,h2⟩
theorem n_agNeq{t:TypeId}{l l':List Value}{ps:List (Int×Int)}{X Y:Prop}(h:eqPairs P 5 t l l'=some ps)(hm:P.eqGuardType P.depth t=false)(hl:plainL l=true)(hl':plainL l'=true)
 (h1:allEq ps=false->X) (h2:allEq ps=true->Y):(real P).agEq .neq t l l' X Y:=⟨_,fun H x y=>ag_neq h hm hl hl' H x y,fun e=>h1 (by simpa using e),fun e=>h2 (by simpa using e)⟩
end
end Go.Abs
namespace Go.Abs
open Go Go.ChangeShapes Go.WideShapes Go.ChangeAt Go.RowKit Go.Deep
inductive CK
 |int (k:IntKind)
 |str
 |bool
 |sl (t:TypeId)
def flatF(P:Program)(rec:TypeId->Option (List CK)):Nat->List Field->Option (List CK)
 |_,[]=>some []
 |off,f::fs=>match Nat.beq f.offset off,rec f.type with
  |true,some l=>match Nat.beq l.length (P.cellsOf f.type),flatF P rec (off+l.length) fs with
   |true,some l'=>some (l++l')
   |_,_=>none
  |_,_=>none
def flatK(P:Program):Nat->TypeId->Option (List CK)
 | 0,_=>none
 |d+1,t=>match P.underlying t with
  |some (.int k)=>some [.int k]
  |some .bool=>some [.bool]
  |some .string=>some [.str]
  |some (.slice _)=>some [.sl t]
  |some (.struct fs)=>match flatF P (flatK P d) 0 fs.toList with
   |some l=>match Nat.beq l.length (P.cellsOf t)with
    |true=>some l
    |false=>none
   |none=>none
  |_=>none
section
variable {H:Type} (enc:TypeId×Value->H) (P:Program) (W:World) (base:Nat) (spare:Nat->Bool) (held:Bool)
def CkOk:CK->Value->Prop
 | .int k,v=>∃z,v = .int k z/\(Lit.int k z).wf=true
 | .str,v=>∃s:ByteArray,v = .string s/\s.size<=maxLen
 | .bool,v=>∃b,v = .bool b
 | .sl t,v=>∃fuel x,DataW.trod enc P W base spare held fuel t [v]=some x/\∀n∈x.1.weights P t,n<=reachBytes
def CksOk:List CK->List Value->Prop
 | [],vs=>vs=[]
 |k::ks,vs=>∃v r,vs=v::r/\CkOk enc P W base spare held k v/\CksOk ks r
variable {enc P W base spare held}
theorem CksOk.append:∀ {ks ks':List CK} {vs vs':List Value},CksOk enc P W base spare held ks vs->CksOk enc P W base spare held ks' vs'->CksOk enc P W base spare held (ks++ks') (vs++vs')
 | [],ks',vs,vs',h,h'=>by simp only[CksOk]at h;subst h;exact h'
 |k::ks,ks',vs,vs',⟨v,r,e,h1,h2⟩,h'=>by subst e;exact⟨v,r++vs',rfl,h1,h2.append h'⟩
theorem flatF_ok{n:Nat}{rec:TypeId->Option (List CK)}{cs:List Value}
  (hrec:∀t ks,rec t=some ks->∀fuel cs x,DataW.trod enc P W base spare held fuel t cs=some x->(∀n∈x.1.weights P t,n<=reachBytes)->CksOk enc P W base spare held ks cs):
  ∀(gs:List Field) (ys:List (DataW H×List MemPlace)) (off:Nat) (ks:List CK),flatF P rec off gs=some ks->ys.length=gs.length->
   (∀(i:Nat) (f:Field),gs[i]?=some f->DataW.trod enc P W base spare held n f.type ((cs.drop f.offset).take (P.cellsOf f.type))=ys[i]?)->
   (∀m∈DataW.weightsEach P (gs.map (·.type)) (ys.map (·.1)),m<=reachBytes)->CksOk enc P W base spare held ks ((cs.drop off).take ks.length)
 | [],ys,off,ks,h,hl,ht,hw=>by simp only[flatF,Option.some.injEq]at h;subst h;simp[CksOk]
 |f::gs,[],off,ks,h,hl,ht,hw=>by simp at hl
 |f::gs,y::ys,off,ks,h,hl,ht,hw=>by
  unfold flatF at h
  split at h
  ·rename_i l ho hr
   split at h
   ·rename_i l' hlen hr'
    simp only[Option.some.injEq]at h;subst h
    have ho:=Nat.eq_of_beq_eq_true ho
    have hlen:=Nat.eq_of_beq_eq_true hlen
    have h0:=ht 0 f rfl
    rw[ho,←hlen]at h0
    have hw0:∀m∈y.1.weights P f.type,m<=reachBytes:=fun m hm=>hw m (by simp only[List.map_cons,DataW.weightsEach,List.mem_append];exact .inl hm)
    have r1:=hrec _ _ hr n _ y (by simpa using h0) hw0
    have r2:=flatF_ok hrec gs ys (off+l.length) l' hr' (by simpa using hl) (fun i g hg=>by simpa using ht (i+1) g (by simpa using hg))
     (fun m hm=>hw m (by simp only[List.map_cons,DataW.weightsEach,List.mem_append];exact .inr hm))
    rw[List.length_append,List.take_add,List.drop_drop]
    exact r1.append r2
   ·cases h
  ·cases h
theorem flat_ok:∀(d:Nat) (t:TypeId) (ks:List CK),flatK P d t=some ks->∀fuel cs x,DataW.trod enc P W base spare held fuel t cs=some x->(∀n∈x.1.weights P t,n<=reachBytes)->CksOk enc P W base spare held ks cs
 | 0,t,ks,h=>by cases h
 |d+1,t,ks,h=>by
  intro fuel cs x hx hw
  unfold flatK at h
  split at h
  ·rename_i k hu
   simp only[Option.some.injEq]at h;subst h
   obtain⟨z,e,_,hwf⟩:=DataW.trod_int hu hx
   exact⟨_,[],e,⟨z,rfl,hwf⟩,rfl⟩
  ·rename_i hu
   simp only[Option.some.injEq]at h;subst h
   obtain⟨b,e,_⟩:=DataW.trod_bool hu hx
   exact⟨_,[],e,⟨b,rfl⟩,rfl⟩
  ·rename_i hu
   simp only[Option.some.injEq]at h;subst h
   obtain⟨s,e,_,hs⟩:=DataW.trod_string hu hx
   exact⟨_,[],e,⟨s,rfl,hs⟩,rfl⟩
  ·rename_i e' hu
   simp only[Option.some.injEq]at h;subst h
   rcases open_slice hu hx with⟨e,_⟩ | ⟨a,len,cap,m,n,D,Pl,e,_⟩
   ·subst e;exact⟨_,[],rfl,⟨fuel,x,hx,hw⟩,rfl⟩
   ·subst e;exact⟨_,[],rfl,⟨fuel,x,hx,hw⟩,rfl⟩
  ·rename_i fs hu
   split at h
   ·rename_i l hl
    split at h
    ·rename_i hlen
     simp only[Option.some.injEq]at h;subst h
     have hlen:=Nat.eq_of_beq_eq_true hlen
     obtain⟨xs,n,_,ex,hcl,hxl,hf⟩:=DataW.trod_struct hu hx
     subst ex
     have:=flatF_ok (cs:=cs) (n:=n) (fun t ks h=>flat_ok d t ks h) fs.toList xs 0 l hl (by simpa using hxl) (fun i f hi=>hf i f (by simpa using hi)) (fun m hm=>hw m (by simp only[DataW.weights,hu];exact hm))
     rw[List.drop_zero,hlen,←hcl,List.take_length]at this
     exact this
    ·cases h
   ·cases h
  ·cases h
end
noncomputable section
def deepN(W:World):Nm:=⟨fun n=>if n<100 then some (n,0,0)else none,(allOf W).z⟩
theorem deep_rel(W:World):Rel 100 (deepN W) (hOf 100 [] []) (allOf W) W:=by
 have hno:∀m o',(hOf 100 [] []).get m≠some o':=by
  intro m o' h
  obtain⟨_,h2,_⟩:=hOf_at h
  simp only[List.length_nil]at h2;omega
 constructor
 ·intro n o h;exact absurd h (hno n o)
 ·intro n m o o' h;exact absurd h (hno n o)
 ·intro n hn
  have hn:100+0<=n:=hn
  show(if n<100 then some (n,0,0)else none)=none
  rw[if_neg (by omega)]
 ·intro g hg
  show(if g<100 then some (g,0,0)else none)=_
  rw[if_pos hg]
 ·exact Nat.le_refl _
 ·intro i _;rfl
 ·intro b i v hz
  refine⟨?_,fun n o h=>absurd h (hno n o)⟩
  have hz:(match W.heap[b]? with|some (.cells c _ _)=>c[i]? | _=>none)=some v:=hz
  split at hz
  ·rename_i c t fz hw;exact⟨c,t,fz,hw,hz⟩
  ·cases hz
 ·intro b i v hz _;exact hz
 ·rfl
 ·rfl
 ·rfl
theorem z_cell{W:World}{b i:Nat}{v:Value}(h:W.cell? ⟨b,i,none⟩=some v):(deepN W).z b i=some v:=by
 show(match W.heap[b]? with|some (.cells c _ _)=>c[i]? | _=>none)=some v
 unfold World.cell? at h
 split at h
 ·rename_i c t fz hw
  rw[hw]
  simpa using h
 ·cases h
theorem wAll_mem{H:Type}{P:Program}{e:TypeId}{d:DataW H}{n:Nat}(hn:n∈d.weights P e):∀ {l:List (DataW H)},d∈l->n∈DataW.weightsAll P e l
 | [],h=>by cases h
 |x::l,h=>by
  simp only[DataW.weightsAll,List.mem_append]
  rcases List.mem_cons.1 h with e|h
  ·subst e;exact .inl hn
  ·exact .inr (wAll_mem hn h)
theorem cks_len{H:Type}{enc:TypeId×Value->H}{P:Program}{W:World}{base:Nat}{spare:Nat->Bool}{held:Bool}:∀ {ks:List CK} {cs:List Value},CksOk enc P W base spare held ks cs->cs.length=ks.length
 | [],cs,h=>by simp only[CksOk]at h;subst h;rfl
 |k::ks,cs,⟨v,r,e,_,h2⟩=>by subst e;simp[cks_len h2]
theorem deep_slice{H:Type}{enc:TypeId×Value->H}{P:Program}{W:World}{t e:TypeId}{ks:List CK}{d:Nat}(hu:P.underlying t=some (.slice e))(he:flatK P d e=some ks)(hc:P.cellsOf e=ks.length)(hpos:0<ks.length)
  (hby:0<P.bytesOf e) (hpl:∀cs,CksOk enc P W 0 (fun _=>true) true ks cs->plainL cs=true) {v:Value} (h:CkOk enc P W 0 (fun _=>true) true (.sl t) v):
  ∃rows:List (List Value),(∀r∈rows,CksOk enc P W 0 (fun _=>true) true ks r)/\rows.length<=140737488355328/\VR (deepN W) (.iface mkD (.agg ⟨rows.map fun r => .agg ⟨r⟩⟩)) v:=by
 obtain⟨fuel,x,hx,hw⟩:=h
 rcases open_slice hu hx with⟨e0,_⟩ | ⟨a,len,cap,m,n,D,Pl,hcs,hb,hl,hm,hmm,hxx,hi⟩
 ·simp only[List.cons.injEq,and_true]at e0
  subst e0
  exact⟨[],fun r hr=>(by cases hr),by simp,VR.D_nil _ _⟩
 ·simp only[List.cons.injEq,and_true]at hcs
  subst hcs
  simp only[if_true]at hmm
  subst hmm
  have hweights:∀k∈(len+(m-len))*P.bytesOf e::(DataW.weightsAll P e ((List.range len).map D)++DataW.weightsAll P e ((List.range (m-len)).map fun j=>D (len+j))),k<=reachBytes:=by
   intro k hk
   refine hw k ?_
   rw[hxx]
   simp only[DataW.weights,hu,List.length_map,List.length_range]
   exact hk
  have hcap:m<=140737488355328:=by
   have h1:=hweights _ (List.mem_cons_self ..)
   rw[show len+(m-len)=m by omega]at h1
   have h2:m*1<=m*P.bytesOf e:=Nat.mul_le_mul_left m hby
   unfold reachBytes at h1
   omega
  rw[hc]at hi
  have hrow:∀i,i<len->∃r:List Value,CksOk enc P W 0 (fun _=>true) true ks r/\∀j,j<ks.length->W.cell? ((a.add (i*ks.length)).add j)=r[j]?:=by
   intro i hil
   obtain⟨cs',hc1,hc2⟩:=hi i (by omega)
   obtain⟨_,_,hat⟩:=World.cells?_some hc1
   have hD:∀k∈(D i).weights P e,k<=reachBytes:=by
    intro k hk
    exact hweights k (List.mem_cons_of_mem _ (List.mem_append.2 (.inl (wAll_mem hk (List.mem_map.2 ⟨i,List.mem_range.2 hil,rfl⟩)))))
   exact⟨cs',flat_ok d e _ he _ _ _ hc2 hD,hat⟩
  rcases Nat.eq_zero_or_pos len with c|c
  ·subst c
   exact⟨[],fun r hr=>(by cases hr),by simp,VR.D_nil _ _⟩
  ·have hsp:a.spot=none:=by
    obtain⟨r,hr,hx0⟩:=hrow 0 c
    have h0:=hx0 0 hpos
    have hrl:=cks_len hr
    cases hs:a.spot with
    |none=>rfl
    |some z=>
     have e1:(a.add (0*ks.length)).add 0=a:=by simp[Addr.add]
     rw[e1]at h0
     have:W.cell? a=none:=by
      unfold World.cell?;split
      ·simp[hs]
      ·rfl
     rw[this]at h0
     have:r[0]?≠none:=by rw[List.getElem?_eq_getElem (by omega)];simp
     exact absurd h0.symm this
   obtain⟨blk,o,sp⟩:=a
   simp only at hsp;subst hsp
   simp only[Addr.add_none]at hrow
   let f:Nat->List Value:=fun i=>if h:i<len then Classical.choose (hrow i h)else[]
   have hfs:∀i,i<len->CksOk enc P W 0 (fun _=>true) true ks (f i)/\∀j,j<ks.length->W.cell? ⟨blk,o+i*ks.length+j,none⟩=(f i)[j]?:=by
    intro i hi'
    have:f i=Classical.choose (hrow i hi'):=by simp only[f,dif_pos hi']
    rw[this];exact Classical.choose_spec (hrow i hi')
   have hlen:((List.range len).map f).length=len:=by simp
   refine⟨(List.range len).map f,fun r hr=>?_,by rw[hlen];omega,?_⟩
   ·obtain⟨i,h1,rfl⟩:=List.mem_map.1 hr
    exact(hfs i (List.mem_range.1 h1)).1
   ·have hpl2:plainL (((List.range len).map f).map fun r=>Value.agg ⟨r⟩)=true:=by
     have key:∀l:List (List Value),(∀r∈l,plainL r=true)->plainL (l.map fun r=>Value.agg ⟨r⟩)=true:=by
      intro l
      induction l with
      |nil=>intro _;rfl
      |cons r l ih=>
       intro h
       simp only[List.map_cons,plainL,plain,plainA,Bool.and_eq_true]
       exact⟨h r (List.mem_cons_self ..),ih fun r hr=>h r (List.mem_cons_of_mem _ hr)⟩
     refine key _ fun r hr=>?_
     obtain⟨i,h1,rfl⟩:=List.mem_map.1 hr
     exact hpl _ (hfs i (List.mem_range.1 h1)).1
    have hl2:(((List.range len).map f).map fun r=>Value.agg ⟨r⟩).length=len:=by simp
    have:=VR.D_mk (F:=deepN W) (rows:=((List.range len).map f).map fun r=>Value.agg ⟨r⟩) (rows':=((List.range len).map f).map fun r=>Value.agg ⟨r⟩) (a:=⟨blk,o,none⟩) (c:=m) (sz:=ks.length) ((VRL.plain_eq _ _ hpl2).2 rfl) (by rw[hl2];exact hl) rfl hpos (fun i r hr=>by
     rw[List.getElem?_map,List.getElem?_map]at hr
     cases hri:(List.range len)[i]? with
     |none=>rw[hri]at hr;cases hr
     |some k=>
      rw[hri]at hr
      simp only[Option.map_some,Option.some.injEq]at hr
      have hik:i<len:=by
       have:=(List.getElem?_eq_some_iff.1 hri).1
       simpa using this
      rw[List.getElem?_range hik]at hri
      simp only[Option.some.injEq]at hri;subst hri
      obtain⟨h1,h2⟩:=hfs i hik
      have hfl:=cks_len h1
      refine⟨f i,hr.symm,hfl,fun j y hj=>z_cell ?_⟩
      have hjl:j<ks.length:=by rw[←hfl];exact(List.getElem?_eq_some_iff.1 hj).1
      rw[h2 j hjl,hj])
    rw[hl2]at this
    exact this
theorem deep_walk{P:Program}{f:FuncId}{args:List Value}{args':Array Value}{H':Heap}{W:World}(hc:CallH P 100 (allOf W) f args (hOf 100 [] []) (.returned (.bool true)) H')(ha:VRL (deepN W) args args'.toList):
  Calls P f args' W fun e w'=>e = .returned (.bool true)/\Below W.heap.size W w':=by
 refine(hc (deepN W) W args' (deep_rel W) ha).mono fun e' w' ⟨F',h1,h2,R'⟩=>?_
 simp only[EnR]at h2
 obtain⟨v',h3,h4⟩:=h2
 simp only[VR]at h3
 subst h3
 exact⟨h4,R'.os,R'.tape,R'.out,R'.base,fun k hk=>R'.frame k hk⟩
theorem vr_cons{F:Nm}{v v':Value}{l l':List Value}(h:VR F v v')(h':VRL F l l'):VRL F (v::l) (v'::l'):=by simp only[VRL];exact⟨_,_,h,h',rfl⟩
theorem vr_nil{F:Nm}:VRL F [] []:=by simp only[VRL]
theorem vr_int{F:Nm}{k:IntKind}{n:Int}:VR F (.int k n) (.int k n):=by simp only[VR]
theorem vr_str{F:Nm}{s:ByteArray}:VR F (.string s) (.string s):=by simp only[VR]
theorem vr_bool{F:Nm}{s:Bool}:VR F (.bool s) (.bool s):=by simp only[VR]
theorem vr_agg{F:Nm}{l l':List Value}(h:VRL F l l'):VR F (.agg ⟨l⟩) (.agg ⟨l'⟩):=VR.ofAggL h
theorem wf_u8{z:Int}(h:(Lit.int .u8 z).wf=true):∃m:Nat,z=m/\m<256:=by
 simp[Lit.wf,IntKind.min,IntKind.max,IntKind.signed,IntKind.bits]at h
 exact⟨z.toNat,by omega,by omega⟩
theorem wf_u32{z:Int}(h:(Lit.int .u32 z).wf=true):∃m:Nat,z=m/\m<4294967296:=by
 simp[Lit.wf,IntKind.min,IntKind.max,IntKind.signed,IntKind.bits]at h
 exact⟨z.toNat,by omega,by omega⟩
theorem wf_u64{z:Int}(h:(Lit.int .u64 z).wf=true):∃m:Nat,z=m/\m<18446744073709551616:=by
 simp[Lit.wf,IntKind.min,IntKind.max,IntKind.signed,IntKind.bits]at h
 exact⟨z.toNat,by omega,by omega⟩
theorem rows_of{α:Type}{c:α->List Value}{wf:α->Prop}{rows:List (List Value)}(h:∀r∈rows,∃x:α,r=c x/\wf x):∃l:List α,rows=l.map c/\∀x∈l,wf x:=by
 induction rows with
 |nil=>exact⟨[],rfl,fun x hx=>by cases hx⟩
 |cons r rows ih=>
  obtain⟨x,rfl,hx⟩:=h r (List.mem_cons_self ..)
  obtain⟨l,rfl,hl⟩:=ih fun r hr=>h r (List.mem_cons_of_mem _ hr)
  refine⟨x::l,rfl,fun y hy=>?_⟩
  rcases List.mem_cons.1 hy with rfl|hy
  ·exact hx
  ·exact hl y hy
end
end Go.Abs
namespace Go.Abs
open Go
noncomputable section
section
variable {G:Nat}
theorem VRL.at{F:Nm}:∀ {l l':List Value},VRL F l l'->∀(i:Nat) v,l[i]?=some v->∃v',l'[i]?=some v'/\VR F v v'
 | [],l',h,i,v,hi=>by simp at hi
 |a::l,l',h,i,v,hi=>by
  simp only[VRL]at h
  obtain⟨b,r,h1,h2,e⟩:=h
  subst e
  cases i with
  |zero=>simp only[List.getElem?_cons_zero,Option.some.injEq]at hi;subst hi;exact⟨b,rfl,h1⟩
  |succ i=>simpa using VRL.at h2 i v (by simpa using hi)
theorem VRL.of_at{F:Nm}:∀ {l l':List Value},l'.length=l.length->(∀(i:Nat) v v',l[i]?=some v->l'[i]?=some v'->VR F v v')->VRL F l l'
 | [],l',hl,_=>by
  have:l'=[]:=List.eq_nil_of_length_eq_zero hl
  subst this;simp only[VRL]
 |a::l,[],hl,_=>by simp at hl
 |a::l,b::l',hl,h=>by
  simp only[VRL]
  exact⟨b,l',h 0 a b rfl rfl,VRL.of_at (by simpa using hl) (fun i v v' h1 h2=>h (i+1) v v' (by simpa using h1) (by simpa using h2)),rfl⟩
theorem VR.tupL{F:Nm}{cs:List Value}{v':Value}(h:VR F (.tuple ⟨cs⟩) v'):∃cs':List Value,v' = .tuple ⟨cs'⟩/\VRL F cs cs':=by
 simp only[VR]at h
 obtain⟨⟨cs'⟩,h1,e⟩:=h
 simp only[VRA]at h1
 exact⟨cs',e,h1⟩
theorem VR.ofTupL{F:Nm}{cs cs':List Value}(h:VRL F cs cs'):VR F (.tuple ⟨cs⟩) (.tuple ⟨cs'⟩):=by
 simp only[VR]
 exact⟨⟨cs'⟩,by simp only[VRA];exact h,rfl⟩
theorem wk_tup{n0:Nat}{cs cs':List Value}{objs objs':List (Option AObj)}(h:Wk G n0 cs objs cs' objs'):Wk G n0 [.tuple ⟨cs⟩] objs [.tuple ⟨cs'⟩] objs':=by
 refine⟨rfl,fun B F w R=>?_⟩
 obtain⟨F',h1,h2,h3⟩:=h.2 B F w R
 refine⟨F',h1,h2,fun i v v' x e1 e2 hx=>?_⟩
 cases i with
 |succ i=>simp at e1
 |zero=>
  simp only[List.getElem?_cons_zero,Option.some.injEq]at e1 e2
  subst e1;subst e2
  obtain⟨xs,rfl,hl⟩:=hx.tupL
  refine VR.ofTupL (VRL.of_at (by rw[hl.length,h.1]) fun i v v' g1 g2=>?_)
  have hlt:i<cs.length:=by rw[←h.1];exact(List.getElem?_eq_some_iff.1 g1).1
  obtain⟨y,k1,k2⟩:=hl.at i cs[i] (List.getElem?_eq_getElem hlt)
  rw[g2]at k1;simp only[Option.some.injEq]at k1;subst k1
  exact h3 i _ v _ (List.getElem?_eq_getElem hlt) g1 k2
theorem weak_set:∀ {l:List Value} (j:Nat) {v v':Value},l[j]?=some v->Weak v v'->WeakL l (l.set j v')
 | [],j,v,v',h,_=>by simp at h
 |a::l,0,v,v',h,hw=>by simp only[List.getElem?_cons_zero,Option.some.injEq]at h;subst h;exact .cons hw (WeakL.refl _)
 |a::l,j+1,v,v',h,hw => .cons (.refl _) (weak_set j (by simpa using h) hw)
theorem wk_set_frzM{n0:Nat}(j i:Nat){vals:List Value}{objs:List (Option AObj)}{rows vs:List Value}{n e size:Nat}(hj:vals[j]?=some (.iface mkM (.slice (some ⟨G+i,0,none⟩) n n)))(ho:objs[i]?=some (mo vs e size))(hf:flatRows size rows=some vs)(hb:belowL 0 vs=true)(hs:0<size)(hn:n=rows.length):
  Wk G n0 vals objs (vals.set j (.iface mkD (.agg ⟨rows⟩))) (objs.set i none):=by
 subst hn
 cases rows with
 |nil=>
  simp only[flatRows,Option.some.injEq]at hf
  subst hf
  have hset:objs.set i none=objs:=by
   apply List.ext_getElem?
   intro k
   rw[List.getElem?_set]
   split
   ·rename_i hik
    subst hik
    rw[ho]
    have hlt:i<objs.length:=(List.getElem?_eq_some_iff.1 ho).1
    rw[if_pos hlt];rfl
   ·rfl
  rw[hset]
  exact wk_weak (weak_set j hj .emptyMD) (WeakOs.refl _)
 |cons r rows=>
  have hvs:vs≠[]:=by
   intro e
   subst e
   have:=flatRows_len hf
   simp only[List.length_nil,List.length_cons]at this
   rcases Nat.mul_eq_zero.1 this.symm with h|h<;>omega
  rw[mo_ne hvs]at ho
  refine wk_freeze ho hf hb hs (by simp) (fun k v v' h1 h2=>?_)
  by_cases e:k=j
  ·subst e
   rw[hj]at h1;simp only[Option.some.injEq]at h1;subst h1
   rw[List.getElem?_set_self (List.getElem?_eq_some_iff.1 hj).1]at h2
   simp only[Option.some.injEq]at h2;subst h2
   exact .inr ⟨rfl,(r::rows).length,Nat.le_refl _,.inr ⟨rfl,by simp⟩⟩
  ·rw[List.getElem?_set_ne (fun h=>e h.symm),h1]at h2
   simp only[Option.some.injEq]at h2
   exact .inl h2.symm
end
section
variable {P:Program}
abbrev LFD:=Code->Nat->List Value->List Deferred->List (Option AObj)->LK->Prop
def lpSD(live2:List Nat)(F:LFD):LpS:=fun c n vals ds h Q=>match Nat.ble 100 h.next with
 |true=>F c n vals ds (objsOf 100 h) (fun e v o=>Q (.ex e (stOf 100 n live2 ds (v,o))))
 |false=>False
theorem lp_mkD(hP:okProg P 100=true){W:How}(hkn:KnOk P 100 W)(hlp:LpOk P 100 W){live live2:List Nat}{F:LFD}
  (h:∀c n vals ds obs K,F c n vals ds obs K->∃(α:Type) (k0 fuel:Nat) (m:α->Nat) (I:α->List Value×List (Option AObj)) (R:α->LK) (a:α),belowD (100+k0) ds=true/\obs.length=k0/\Wk 100 (100+k0) vals obs (I a).1 (I a).2/\(∀e v o,R a e v o->K e v o)/\
   ∀a,Is (wpe P (real P) W fuel (.code false c (stOf 100 n live ds (I a))) (roundQ 100 live live2 n ds
   (fun vals objs=>∃a',m a' < m a/\Wk 100 (100+k0) vals objs (I a').1 (I a').2/\∀e v o,R a' e v o->R a e v o)
   (fun e vals objs=>∃v o,Wk 100 (100+k0) vals objs v o/\R a e v o)))):LoopOk P 100 live (lpSD live2 F):=by
 intro c n vals ds hh Q hs
 unfold lpSD at hs
 split at hs
 ·rename_i hle
  obtain⟨α,k0,fuel,m,I,R,a,h0,h1,h2,h3,h4⟩:=h _ _ _ _ _ _ hs
  obtain⟨e,v,o,g1,g2⟩:=lp_rule hP hkn hlp (live:=live) (live2:=live2) (ds:=ds) h0 m I R h4 a h1 h2 (Nat.le_of_ble_eq_true hle)
  exact⟨_,g2,h3 _ _ _ g1⟩
 ·exact hs.elim
theorem or_byte{m b:Nat}(h:b<256):(m*256) ||| b=m*256+b:=by
 have:=Nat.shiftLeft_add_eq_or_of_lt (i:=8) (b:=b) (by omega) m
 rw[Nat.shiftLeft_eq]at this
 exact this.symm
theorem n_shl8I{m:Nat}{K:Int->Prop}(hm:m<36028797018963968)(hk:K ((m*256:Nat):Int)):(real P).ari .shl .i64 (m:Int) .u64 (8:Int) K:=by
 refine⟨((m*256:Nat):Int),?_,hk⟩
 have e:IntKind.i64.wrap ((m:Int)*2 ^ (min (8:Int).toNat IntKind.i64.bits))=((m*256:Nat):Int):=by
  have:(2:Int) ^ (min (8:Int).toNat IntKind.i64.bits)=256:=by decide
  rw[this]
  simp[IntKind.wrap,IntKind.signed,IntKind.bits];omega
 simp only[intBin,e];rfl
theorem n_shl8U{m:Nat}{K:Int->Prop}(hm:m<72057594037927936)(hk:K ((m*256:Nat):Int)):(real P).ari .shl .u64 (m:Int) .u64 (8:Int) K:=by
 refine⟨((m*256:Nat):Int),?_,hk⟩
 have e:IntKind.u64.wrap ((m:Int)*2 ^ (min (8:Int).toNat IntKind.u64.bits))=((m*256:Nat):Int):=by
  have:(2:Int) ^ (min (8:Int).toNat IntKind.u64.bits)=256:=by decide
  rw[this]
  simp[IntKind.wrap,IntKind.signed,IntKind.bits];omega
 simp only[intBin,e];rfl
theorem n_or8I{m b:Nat}{K:Int->Prop}(hm:m<36028797018963968)(hb:b<256)(hk:K ((m*256+b:Nat):Int)):(real P).ari .or .i64 ((m*256:Nat):Int) .i64 (b:Int) K:=by
 refine⟨((m*256+b:Nat):Int),?_,hk⟩
 have e:IntKind.i64.wrap ((BitVec.ofInt IntKind.i64.bits ((m*256:Nat):Int)) ||| (BitVec.ofInt IntKind.i64.bits (b:Int))).toNat=((m*256+b:Nat):Int):=by
  rw[BitVec.toNat_or]
  have h1:(BitVec.ofInt IntKind.i64.bits ((m*256:Nat):Int)).toNat=m*256:=by
   rw[BitVec.ofInt_natCast,BitVec.toNat_ofNat];exact Nat.mod_eq_of_lt (by show m*256<2 ^ 64;omega)
  have h2:(BitVec.ofInt IntKind.i64.bits (b:Int)).toNat=b:=by
   rw[BitVec.ofInt_natCast,BitVec.toNat_ofNat];exact Nat.mod_eq_of_lt (by show b<2 ^ 64;omega)
  rw[h1,h2,or_byte hb]
  simp[IntKind.wrap,IntKind.signed,IntKind.bits];omega
 simp only[intBin,e];rfl
theorem n_or8U{m b:Nat}{K:Int->Prop}(hm:m<72057594037927936)(hb:b<256)(hk:K ((m*256+b:Nat):Int)):(real P).ari .or .u64 ((m*256:Nat):Int) .u64 (b:Int) K:=by
 refine⟨((m*256+b:Nat):Int),?_,hk⟩
 have e:IntKind.u64.wrap ((BitVec.ofInt IntKind.u64.bits ((m*256:Nat):Int)) ||| (BitVec.ofInt IntKind.u64.bits (b:Int))).toNat=((m*256+b:Nat):Int):=by
  rw[BitVec.toNat_or]
  have h1:(BitVec.ofInt IntKind.u64.bits ((m*256:Nat):Int)).toNat=m*256:=by
   rw[BitVec.ofInt_natCast,BitVec.toNat_ofNat];exact Nat.mod_eq_of_lt (by show m*256<2 ^ 64;omega)
  have h2:(BitVec.ofInt IntKind.u64.bits (b:Int)).toNat=b:=by
   rw[BitVec.ofInt_natCast,BitVec.toNat_ofNat];exact Nat.mod_eq_of_lt (by show b<2 ^ 64;omega)
  rw[h1,h2,or_byte hb]
  simp[IntKind.wrap,IntKind.signed,IntKind.bits];omega
 simp only[intBin,e];rfl
theorem n_fit{src dst:TypeId}{ks kd k:IntKind}{m:Nat}{K:Int->Prop}(hs:P.underlying src=some (.int ks))(hd:P.underlying dst=some (.int kd))(hw:kd.wrap (m:Int)=(m:Int))(hk:K (m:Int)):(real P).conv src dst k (m:Int) kd K:=
 real_conv hs hd (by rw[hw];exact hk)
theorem fit_u8{m:Nat}(h:m<256):IntKind.u8.wrap (m:Int)=(m:Int):=by simp[IntKind.wrap,IntKind.signed,IntKind.bits];omega
theorem fit_u32{m:Nat}(h:m<4294967296):IntKind.u32.wrap (m:Int)=(m:Int):=by simp[IntKind.wrap,IntKind.signed,IntKind.bits];omega
theorem fit_u64{m:Nat}(h:m<18446744073709551616):IntKind.u64.wrap (m:Int)=(m:Int):=by simp[IntKind.wrap,IntKind.signed,IntKind.bits];omega
theorem fit_i64{m:Nat}(h:m<9223372036854775808):IntKind.i64.wrap (m:Int)=(m:Int):=by simp[IntKind.wrap,IntKind.signed,IntKind.bits];omega
def retV(K:Value->Prop):Res->Prop
 | .en (.returned v) _ h=>match Nat.ble 100 h.next&&below 100 v with
  |true=>K v
  |false=>False
 |_=>False
theorem pu_mkV(hP:okProg P 100=true){W:How}(hkn:KnOk P 100 W)(hlp:LpOk P 100 W){f:FuncId}{args:List Value}{v:Value}{n:Nat}(ha:belowL 100 args=true)
  (h:Is (wpe P (real P) W n (.call f args (hOf 100 [] [])) (retV fun v'=>v'=v))) (B:Base) (H:Heap):CallH P 100 B f args H (.returned v) H:=by
 obtain⟨r,h1,h2⟩:=wpe_ok hP hkn hlp n _ _ h.out
 unfold retV at h2
 split at h2
 ·rename_i v' u h'
  split at h2
  ·rename_i hc
   simp only[Bool.and_eq_true]at hc
   subst h2
   exact pure_lift (fun B=>call_wk (ins:=[]) (call_objs (Nat.le_of_ble_eq_true hc.1) (h1 B)) (wk_pure (by simp only[belowL,hc.2];rfl))) ha hc.2 B H
  ·exact h2.elim
 ·exact h2.elim
end
end
end Go.Abs
