/- Are two structs of integers the same? -/
import Derived.Test.YtblbaohcelldpaaS1
import Derived.WalkKit
import Derived.ProofKit
import Derived.OpenShut
import Derived.Carry
import Derived.Deep.Slices
import Derived.Deep.Fields
import Derived.SizedLaws
set_option linter.all false
namespace Go.Abs
open Go
section
variable {P:Program}
def eqPairsF(P:Program)(rec:TypeId->List Value->List Value->Option (List (Int×Int)))(xs ys:List Value):List Field->Option (List (Int×Int))
 | []=>some []
 | f :: fs => match f.name == "_" with
  |true=>none
  |false=>match P.underlying f.type with
   |some (.int _)=>match xs[f.offset]?,ys[f.offset]? with
    |some (.int k a),some (.int k' b)=>match decide (k=k')with
     |true=>match eqPairsF P rec xs ys fs with
      |some l=>some ((a,b)::l)
      |none=>none
     |false=>none
    |_,_=>none
   |some (.struct _)=>match aSize P f.type with
    |some n=>match rec f.type ((xs.drop f.offset).take n) ((ys.drop f.offset).take n),eqPairsF P rec xs ys fs with
     |some l,some l'=>some (l++l')
     |_,_=>none
    |none=>none
   |_=>none
def eqPairs(P:Program):Nat->TypeId->List Value->List Value->Option (List (Int×Int))
 | 0,_,_,_=>none
 |d+1,t,xs,ys=>match P.underlying t with
  |some (.struct fs)=>match P.stoodInHeld t with
   |true=>none
   |false=>eqPairsF P (eqPairs P d) xs ys fs.toList
  |_=>none
def allEq(l:List (Int×Int)):Bool:=l.all fun(a,b)=>a==b
theorem pure_underlying{t:TypeId}{d:TypeDesc}(h:P.underlying t=some d):pureSem P (underlying t)=some d:=pureSem_underlying h
theorem pure_isAgg{t:TypeId}{d:TypeDesc}(h:P.underlying t=some d):pureSem P (isAgg t)=some (isAggD d):=by
 unfold isAgg;rw[pureSem_bind,pure_underlying h,Option.bind_some]
 cases d<;>rfl
theorem pure_sizeOf{t:TypeId}{n:Nat}(h:aSize P t=some n):pureSem P (sizeOf t)=some n:=by
 unfold aSize at h
 cases e:P.info? t with
 |none=>rw[e]at h;cases h
 |some i=>
  rw[e]at h;simp only[Option.map_some,Option.some.injEq]at h;subst h
  simp[sizeOf,typeInfo,program,pureSem_bind,pureSem,e]
  rfl
theorem pure_part_int{t:TypeId}{d:IntKind}(hu:P.underlying t=some (.int d)){cs:List Value}{off:Nat}{v:Value}(h:cs[off]?=some v):pureSem P (part t ⟨cs⟩ off)=some v:=by
 unfold part
 rw[pureSem_bind,pure_isAgg hu,Option.bind_some]
 simp[isAggD,h]
 rfl
theorem pure_part_struct{t:TypeId}{fs:Array Field}(hu:P.underlying t=some (.struct fs)){cs:List Value}{off n:Nat}(hn:aSize P t=some n):pureSem P (part t ⟨cs⟩ off)=some (.agg ⟨(cs.drop off).take n⟩):=by
 unfold part
 rw[pureSem_bind,pure_isAgg hu,Option.bind_some]
 simp only[isAggD,if_true]
 rw[pureSem_bind,pure_sizeOf hn,Option.bind_some]
 simp
 rfl
theorem pure_equal_int{t:TypeId}{q k:IntKind}{a b:Int}(hu:P.underlying t=some (.int q))(n:Nat):pureSem P (Op.equalIn (n+1) t (.int k a) (.int k b))=some (a==b):=by
 simp only[Op.equalIn,pureSem_bind,pure_underlying hu,Option.bind_some,if_true]
 rfl
theorem pure_struct{t:TypeId}{fs:Array Field}(hu:P.underlying t=some (.struct fs))(hp:P.stoodInHeld t=false)(d:Nat)(xs ys:Array Value):
  pureSem P (Op.equalIn (d+1) t (.agg xs) (.agg ys))=pureSem P (Op.eqFields d xs ys fs.toList):=by
 have e0:pureSem P (program)=some P:=rfl
 simp only[Op.equalIn,pureSem_bind,pure_underlying hu,Option.bind_some,e0,hp,Bool.false_eq_true,if_false]
 rw[←Array.forIn_toList]
 have e1:pureSem P (pure PUnit.unit:Sem PUnit)=some PUnit.unit:=rfl
 generalize fs.toList=l
 clear hu
 induction l with
 |nil=>rfl
 |cons f fs ih=>
  simp only[List.forIn_cons,Op.eqFields]
  by_cases hn : f.name = "_"
  ·simp only[hn,ne_eq,not_true_eq_false,if_false,pureSem_bind]
   exact ih
  ·simp only[hn,ne_eq,not_false_eq_true,if_true,pureSem_bind]
   cases h1:pureSem P (part f.type xs f.offset)with
   |none=>simp
   |some a=>
    simp only[Option.bind_some]
    cases h2:pureSem P (part f.type ys f.offset)with
    |none=>simp
    |some b=>
     simp only[Option.bind_some]
     cases h3:pureSem P (Op.equalIn d f.type a b)with
     |none=>simp
     |some r=>
      simp only[Option.bind_some]
      cases r
      ·rfl
      ·exact ih
theorem pairsF_ok{rec:TypeId->List Value->List Value->Option (List (Int×Int))}{d:Nat}(hrec:∀t l l' ps,rec t l l'=some ps->pureSem P (Op.equalIn (d+1) t (.agg ⟨l⟩) (.agg ⟨l'⟩))=some (allEq ps)){xs ys:List Value}:
  ∀(fs:List Field) (ps:List (Int×Int)),eqPairsF P rec xs ys fs=some ps->pureSem P (Op.eqFields (d+1) ⟨xs⟩ ⟨ys⟩ fs)=some (allEq ps)
 | [],ps,h=>by simp only[eqPairsF,Option.some.injEq]at h;subst h;rfl
 |f::fs,ps,h=>by
  have ih:=fun ps h=>pairsF_ok hrec (xs:=xs) (ys:=ys) fs ps h
  unfold eqPairsF at h
  split at h
  ·cases h
  ·rename_i hn
   have hn : f.name ≠ "_" := by simpa using hn
   split at h
   ·rename_i q hu
    split at h
    ·rename_i k a k' b h1 h2
     split at h
     ·rename_i hk
      simp only[decide_eq_true_eq]at hk;subst hk
      split at h
      ·rename_i l hl
       simp only[Option.some.injEq]at h;subst h
       simp only[Op.eqFields,hn,ne_eq,not_false_eq_true,if_true,pureSem_bind,pure_part_int hu h1,pure_part_int hu h2,Option.bind_some,pure_equal_int hu]
       cases hab:a==b
       ·simp[allEq,hab];rfl
       ·simp only[Bool.not_true,Bool.false_eq_true,if_false,ih _ hl]
        simp[allEq,hab]
      ·cases h
     ·cases h
    ·cases h
   ·rename_i gs hu
    split at h
    ·rename_i n hsz
     split at h
     ·rename_i l l' hl hl'
      simp only[Option.some.injEq]at h;subst h
      simp only[Op.eqFields,hn,ne_eq,not_false_eq_true,if_true,pureSem_bind,pure_part_struct hu hsz,Option.bind_some,hrec _ _ _ _ hl]
      cases hab:allEq l
      ·simp only[Bool.not_false,if_true]
       simp only[allEq]at hab ⊢
       rw[List.all_append,hab];rfl
      ·simp only[Bool.not_true,Bool.false_eq_true,if_false,ih _ hl']
       simp only[allEq]at hab ⊢
       rw[List.all_append,hab];rfl
     ·cases h
    ·cases h
   ·cases h
theorem pairs_ok:∀(d:Nat) (t:TypeId) (l l':List Value) (ps:List (Int×Int)) (n:Nat),d<=n->eqPairs P d t l l'=some ps->pureSem P (Op.equalIn (n+1) t (.agg ⟨l⟩) (.agg ⟨l'⟩))=some (allEq ps)
 | 0,t,l,l',ps,n,hn,h=>by cases h
 |d+1,t,l,l',ps,n,hn,h=>by
  unfold eqPairs at h
  split at h
  ·rename_i fs hu
   split at h
   ·cases h
   ·rename_i hp
    rw[pure_struct hu hp]
    obtain⟨m,rfl⟩:∃m,n=m+1:=⟨n-1,by omega⟩
    exact pairsF_ok (fun t l l' ps h=>pairs_ok d t l l' ps m (by omega) h) _ _ h
  ·cases h
theorem pure_eqGuard{op:BinOp}{t:TypeId}{x y:Operand}{xs ys:Array Value}(hm:P.eqGuardType P.depth t=false):pureSem P (eqGuard op t x y (.agg xs) (.agg ys))=some ():=by
 have e0:pureSem P (program)=some P:=rfl
 cases op<;>simp[eqGuard,pureSem_bind,e0,hm]<;>rfl
theorem ag_eql{t:TypeId}{l l':List Value}{ps:List (Int×Int)}(h:eqPairs P 5 t l l'=some ps)(hm:P.eqGuardType P.depth t=false)(hl:plainL l=true)(hl':plainL l'=true)(H:Heap)(x y:Operand):
  aBin P H .eql t x y (.agg ⟨l⟩) (.agg ⟨l'⟩)=some (.bool (allEq ps)):=by
 have e:pureSem P (do eqGuard .eql t x y (.agg ⟨l⟩) (.agg ⟨l'⟩);binOp .eql t (.agg ⟨l⟩) (.agg ⟨l'⟩))=some (.bool (allEq ps)):=by
  rw[pureSem_bind,pure_eqGuard hm,Option.bind_some,show binOp .eql t (.agg ⟨l⟩) (.agg ⟨l'⟩)=(do pure (.bool ((←Op.equalIn (9999+1) t (.agg ⟨l⟩) (.agg ⟨l'⟩)))))from rfl,pureSem_bind,pairs_ok 5 t l l' ps 9999 (by omega) h]
  rfl
 simp only[aBin,plain,plainA,hl,hl',Bool.and_self,pureVal,e]
theorem ag_neq{t:TypeId}{l l':List Value}{ps:List (Int×Int)}(h:eqPairs P 5 t l l'=some ps)(hm:P.eqGuardType P.depth t=false)(hl:plainL l=true)(hl':plainL l'=true)(H:Heap)(x y:Operand):
  aBin P H .neq t x y (.agg ⟨l⟩) (.agg ⟨l'⟩)=some (.bool (!allEq ps)):=by
 have e:pureSem P (do eqGuard .neq t x y (.agg ⟨l⟩) (.agg ⟨l'⟩);binOp .neq t (.agg ⟨l⟩) (.agg ⟨l'⟩))=some (.bool (!allEq ps)):=by
  rw[pureSem_bind,pure_eqGuard hm,Option.bind_some,show binOp .neq t (.agg ⟨l⟩) (.agg ⟨l'⟩)=(do pure (.bool (!(←Op.equalIn (9999+1) t (.agg ⟨l⟩) (.agg ⟨l'⟩)))))from rfl,pureSem_bind,pairs_ok 5 t l l' ps 9999 (by omega) h]
  rfl
 simp only[aBin,plain,plainA,hl,hl',Bool.and_self,pureVal,e]
theorem n_agEql{t:TypeId}{l l':List Value}{ps:List (Int×Int)}{X Y:Prop}(h:eqPairs P 5 t l l'=some ps)(hm:P.eqGuardType P.depth t=false)(hl:plainL l=true)(hl':plainL l'=true)
 (h1:allEq ps=true->X) (h2:allEq ps=false->Y):(real P).agEq .eql t l l' X Y:=⟨_,fun H x y=>ag_eql h hm hl hl' H x y,h1,h2⟩
theorem n_agNeq{t:TypeId}{l l':List Value}{ps:List (Int×Int)}{X Y:Prop}(h:eqPairs P 5 t l l'=some ps)(hm:P.eqGuardType P.depth t=false)(hl:plainL l=true)(hl':plainL l'=true)
 (h1:allEq ps=false->X) (h2:allEq ps=true->Y):(real P).agEq .neq t l l' X Y:=⟨_,fun H x y=>ag_neq h hm hl hl' H x y,fun e=>h1 (by simpa using e),fun e=>h2 (by simpa using e)⟩
end
end Go.Abs
namespace Go.Abs
open Go Go.ChangeShapes Go.WideShapes Go.ChangeAt Go.RowKit Go.Deep
inductive CK
 |int (k:IntKind)
 |str
 |bool
 |sl (t:TypeId)
section
variable {H:Type} (enc:TypeId×Value->H) (P:Program) (W:World) (base:Nat) (spare:Nat->Bool) (held:Bool)
def CkOk:CK->Value->Prop
 | .int k,v=>∃z,v = .int k z/\(Lit.int k z).wf=true
 | .str,v=>∃s:ByteArray,v = .string s/\s.size<=maxLen
 | .bool,v=>∃b,v = .bool b
 | .sl t,v=>∃fuel x,DataW.trod enc P W base spare held fuel t [v]=some x/\∀n∈x.1.weights P t,n<=reachBytes
def CksOk:List CK->List Value->Prop
 | [],vs=>vs=[]
 |k::ks,vs=>∃v r,vs=v::r/\CkOk enc P W base spare held k v/\CksOk ks r
variable {enc P W base spare held}
theorem CksOk.append:∀ {ks ks':List CK} {vs vs':List Value},CksOk enc P W base spare held ks vs->CksOk enc P W base spare held ks' vs'->CksOk enc P W base spare held (ks++ks') (vs++vs')
 | [],ks',vs,vs',h,h'=>by simp only[CksOk]at h;subst h;exact h'
 |k::ks,ks',vs,vs',⟨v,r,e,h1,h2⟩,h'=>by subst e;exact⟨v,r++vs',rfl,h1,h2.append h'⟩
end
noncomputable section
def deepN(W:World):Nm:=⟨fun n=>if n<100 then some (n,0,0)else none,allZ W⟩
theorem deep_rel(W:World)(ht:TabW W):Rel 100 (deepN W) (hOf 100 [] []) (allOf W ht) W:=by
 have hno:∀m o',(hOf 100 [] []).get m≠some o':=by
  intro m o' h
  obtain⟨_,h2,_⟩:=hOf_at h
  simp only[List.length_nil]at h2;omega
 constructor
 ·intro n o h;exact absurd h (hno n o)
 ·intro n m o o' h;exact absurd h (hno n o)
 ·intro n hn
  have hn:100+0<=n:=hn
  show(if n<100 then some (n,0,0)else none)=none
  rw[if_neg (by omega)]
 ·intro g hg
  show(if g<100 then some (g,0,0)else none)=_
  rw[if_pos hg]
 ·exact Nat.le_refl _
 ·intro i _;rfl
 ·intro b i v hz
  refine⟨?_,fun n o h=>absurd h (hno n o)⟩
  have hz:(match W.heap[b]? with|some (.cells c _ _)=>c[i]? | _=>none)=some v:=hz
  split at hz
  ·rename_i c t fz hw;exact⟨c,t,fz,hw,hz,fun hn=>absurd (Array.getElem?_eq_some_iff.1 hw).1 hn⟩
  ·cases hz
 ·intro b i v hz _;exact hz
 ·rfl
 ·rfl
 ·rfl
theorem deep_walk{P:Program}{f:FuncId}{args:List Value}{args':Array Value}{H':Heap}{W:World}{ht:TabW W}(hc:CallH P 100 (allOf W ht) f args (hOf 100 [] []) (.returned (.bool true)) H')(ha:VRL (deepN W) args args'.toList):
  Calls P f args' W fun e w'=>e = .returned (.bool true)/\Below W.heap.size W w':=by
 refine(hc (deepN W) W args' (deep_rel W ht) ha).mono fun e' w' ⟨F',h1,h2,R'⟩=>?_
 simp only[EnR]at h2
 obtain⟨v',h3,h4⟩:=h2
 simp only[VR]at h3
 subst h3
 exact⟨h4,R'.os,R'.tape,R'.out,R'.base,fun k hk=>R'.frame k hk⟩
theorem vr_cons{F:Nm}{v v':Value}{l l':List Value}(h:VR F v v')(h':VRL F l l'):VRL F (v::l) (v'::l'):=by simp only[VRL];exact⟨_,_,h,h',rfl⟩
theorem vr_nil{F:Nm}:VRL F [] []:=by simp only[VRL]
theorem vr_str{F:Nm}{s:ByteArray}:VR F (.string s) (.string s):=by simp only[VR]
end
end Go.Abs
namespace Go.Abs
open Go
noncomputable section
section
variable {G:Nat}
theorem VRL.at{F:Nm}:∀ {l l':List Value},VRL F l l'->∀(i:Nat) v,l[i]?=some v->∃v',l'[i]?=some v'/\VR F v v'
 | [],l',h,i,v,hi=>by simp at hi
 |a::l,l',h,i,v,hi=>by
  simp only[VRL]at h
  obtain⟨b,r,h1,h2,e⟩:=h
  subst e
  cases i with
  |zero=>simp only[List.getElem?_cons_zero,Option.some.injEq]at hi;subst hi;exact⟨b,rfl,h1⟩
  |succ i=>simpa using VRL.at h2 i v (by simpa using hi)
theorem VRL.of_at{F:Nm}:∀ {l l':List Value},l'.length=l.length->(∀(i:Nat) v v',l[i]?=some v->l'[i]?=some v'->VR F v v')->VRL F l l'
 | [],l',hl,_=>by
  have:l'=[]:=List.eq_nil_of_length_eq_zero hl
  subst this;simp only[VRL]
 |a::l,[],hl,_=>by simp at hl
 |a::l,b::l',hl,h=>by
  simp only[VRL]
  exact⟨b,l',h 0 a b rfl rfl,VRL.of_at (by simpa using hl) (fun i v v' h1 h2=>h (i+1) v v' (by simpa using h1) (by simpa using h2)),rfl⟩
theorem VR.tupL{F:Nm}{cs:List Value}{v':Value}(h:VR F (.tuple ⟨cs⟩) v'):∃cs':List Value,v' = .tuple ⟨cs'⟩/\VRL F cs cs':=by
 simp only[VR]at h
 obtain⟨⟨cs'⟩,h1,e⟩:=h
 simp only[VRA]at h1
 exact⟨cs',e,h1⟩
theorem VR.ofTupL{F:Nm}{cs cs':List Value}(h:VRL F cs cs'):VR F (.tuple ⟨cs⟩) (.tuple ⟨cs'⟩):=by
 simp only[VR]
 exact⟨⟨cs'⟩,by simp only[VRA];exact h,rfl⟩
theorem wk_tup{n0:Nat}{cs cs':List Value}{objs objs':List (Option AObj)}(h:Wk G n0 cs objs cs' objs'):Wk G n0 [.tuple ⟨cs⟩] objs [.tuple ⟨cs'⟩] objs':=by
 refine⟨rfl,fun B F w R=>?_⟩
 obtain⟨F',h1,h2,h3⟩:=h.2 B F w R
 refine⟨F',h1,h2,fun i v v' x e1 e2 hx=>?_⟩
 cases i with
 |succ i=>simp at e1
 |zero=>
  simp only[List.getElem?_cons_zero,Option.some.injEq]at e1 e2
  subst e1;subst e2
  obtain⟨xs,rfl,hl⟩:=hx.tupL
  refine VR.ofTupL (VRL.of_at (by rw[hl.length,h.1]) fun i v v' g1 g2=>?_)
  have hlt:i<cs.length:=by rw[←h.1];exact(List.getElem?_eq_some_iff.1 g1).1
  obtain⟨y,k1,k2⟩:=hl.at i cs[i] (List.getElem?_eq_getElem hlt)
  rw[g2]at k1;simp only[Option.some.injEq]at k1;subst k1
  exact h3 i _ v _ (List.getElem?_eq_getElem hlt) g1 k2
theorem weak_set:∀ {l:List Value} (j:Nat) {v v':Value},l[j]?=some v->Weak v v'->WeakL l (l.set j v')
 | [],j,v,v',h,_=>by simp at h
 |a::l,0,v,v',h,hw=>by simp only[List.getElem?_cons_zero,Option.some.injEq]at h;subst h;exact .cons hw (WeakL.refl _)
 |a::l,j+1,v,v',h,hw => .cons (.refl _) (weak_set j (by simpa using h) hw)
theorem wk_set_frzM{n0:Nat}(j i:Nat){vals:List Value}{objs:List (Option AObj)}{rows vs:List Value}{n e size:Nat}(hj:vals[j]?=some (.iface mkM (.slice (some ⟨G+i,0,none⟩) n n)))(ho:objs[i]?=some (mo vs e size))(hf:flatRows size rows=some vs)(hb:belowL 0 vs=true)(hs:0<size)(hn:n=rows.length):
  Wk G n0 vals objs (vals.set j (.iface mkD (.agg ⟨rows⟩))) (objs.set i none):=by
 subst hn
 cases rows with
 |nil=>
  simp only[flatRows,Option.some.injEq]at hf
  subst hf
  have hset:objs.set i none=objs:=by
   apply List.ext_getElem?
   intro k
   rw[List.getElem?_set]
   split
   ·rename_i hik
    subst hik
    rw[ho]
    have hlt:i<objs.length:=(List.getElem?_eq_some_iff.1 ho).1
    rw[if_pos hlt];rfl
   ·rfl
  rw[hset]
  exact wk_weak (weak_set j hj .emptyMD) (WeakOs.refl _)
 |cons r rows=>
  have hvs:vs≠[]:=by
   intro e
   subst e
   have:=flatRows_len hf
   simp only[List.length_nil,List.length_cons]at this
   rcases Nat.mul_eq_zero.1 this.symm with h|h<;>omega
  rw[mo_ne hvs]at ho
  refine wk_freeze ho hf hb hs (by simp) (fun k v v' h1 h2=>?_)
  by_cases e:k=j
  ·subst e
   rw[hj]at h1;simp only[Option.some.injEq]at h1;subst h1
   rw[List.getElem?_set_self (List.getElem?_eq_some_iff.1 hj).1]at h2
   simp only[Option.some.injEq]at h2;subst h2
   exact .inr ⟨rfl,(r::rows).length,Nat.le_refl _,.inr ⟨rfl,by simp⟩⟩
  ·rw[List.getElem?_set_ne (fun h=>e h.symm),h1]at h2
   simp only[Option.some.injEq]at h2
   exact .inl h2.symm
end
section
variable {P:Program}
abbrev LFD:=Code->Nat->List Value->List Deferred->List (Option AObj)->LK->Prop
def lpSD(live2:List Nat)(F:LFD):LpS:=fun c n vals ds h Q=>match Nat.ble 100 h.next with
 |true=>F c n vals ds (objsOf 100 h) (fun e v o=>Q (.ex e (stOf 100 n live2 ds (v,o))))
 |false=>False
theorem lp_mkD(hP:okProg P 100=true){W:How}(hkn:KnOk P 100 W)(hlp:LpOk P 100 W){live live2:List Nat}{F:LFD}
  (h:∀c n vals ds obs K,F c n vals ds obs K->∃(α:Type) (k0 fuel:Nat) (m:α->Nat) (I:α->List Value×List (Option AObj)) (R:α->LK) (a:α),belowD (100+k0) ds=true/\obs.length=k0/\Wk 100 (100+k0) vals obs (I a).1 (I a).2/\(∀e v o,R a e v o->K e v o)/\
   ∀a,Is (wpe P (real P) W fuel (.code false c (stOf 100 n live ds (I a))) (roundQ 100 live live2 n ds
   (fun vals objs=>∃a',m a' < m a/\Wk 100 (100+k0) vals objs (I a').1 (I a').2/\∀e v o,R a' e v o->R a e v o)
   (fun e vals objs=>∃v o,Wk 100 (100+k0) vals objs v o/\R a e v o)))):LoopOk P 100 live (lpSD live2 F):=by
 intro c n vals ds hh Q hs
 unfold lpSD at hs
 split at hs
 ·rename_i hle
  obtain⟨α,k0,fuel,m,I,R,a,h0,h1,h2,h3,h4⟩:=h _ _ _ _ _ _ hs
  obtain⟨e,v,o,g1,g2⟩:=lp_rule hP hkn hlp (live:=live) (live2:=live2) (ds:=ds) h0 m I R h4 a h1 h2 (Nat.le_of_ble_eq_true hle)
  exact⟨_,g2,h3 _ _ _ g1⟩
 ·exact hs.elim
theorem or_byte{m b:Nat}(h:b<256):(m*256) ||| b=m*256+b:=by
 have:=Nat.shiftLeft_add_eq_or_of_lt (i:=8) (b:=b) (by omega) m
 rw[Nat.shiftLeft_eq]at this
 exact this.symm
theorem n_shl8I{m:Nat}{K:Int->Prop}(hm:m<36028797018963968)(hk:K ((m*256:Nat):Int)):(real P).ari .shl .i64 (m:Int) .u64 (8:Int) K:=by
 refine⟨((m*256:Nat):Int),?_,hk⟩
 have e:IntKind.i64.wrap ((m:Int)*2 ^ (min (8:Int).toNat IntKind.i64.bits))=((m*256:Nat):Int):=by
  have:(2:Int) ^ (min (8:Int).toNat IntKind.i64.bits)=256:=by decide
  rw[this]
  simp[IntKind.wrap,IntKind.signed,IntKind.bits];omega
 simp only[intBin,e];rfl
theorem n_shl8U{m:Nat}{K:Int->Prop}(hm:m<72057594037927936)(hk:K ((m*256:Nat):Int)):(real P).ari .shl .u64 (m:Int) .u64 (8:Int) K:=by
 refine⟨((m*256:Nat):Int),?_,hk⟩
 have e:IntKind.u64.wrap ((m:Int)*2 ^ (min (8:Int).toNat IntKind.u64.bits))=((m*256:Nat):Int):=by
  have:(2:Int) ^ (min (8:Int).toNat IntKind.u64.bits)=256:=by decide
  rw[this]
  simp[IntKind.wrap,IntKind.signed,IntKind.bits];omega
 simp only[intBin,e];rfl
theorem n_or8I{m b:Nat}{K:Int->Prop}(hm:m<36028797018963968)(hb:b<256)(hk:K ((m*256+b:Nat):Int)):(real P).ari .or .i64 ((m*256:Nat):Int) .i64 (b:Int) K:=by
 refine⟨((m*256+b:Nat):Int),?_,hk⟩
 have e:IntKind.i64.wrap ((BitVec.ofInt IntKind.i64.bits ((m*256:Nat):Int)) ||| (BitVec.ofInt IntKind.i64.bits (b:Int))).toNat=((m*256+b:Nat):Int):=by
  rw[BitVec.toNat_or]
  have h1:(BitVec.ofInt IntKind.i64.bits ((m*256:Nat):Int)).toNat=m*256:=by
   rw[BitVec.ofInt_natCast,BitVec.toNat_ofNat];exact Nat.mod_eq_of_lt (by show m*256<2 ^ 64;omega)
  have h2:(BitVec.ofInt IntKind.i64.bits (b:Int)).toNat=b:=by
   rw[BitVec.ofInt_natCast,BitVec.toNat_ofNat];exact Nat.mod_eq_of_lt (by show b<2 ^ 64;omega)
  rw[h1,h2,or_byte hb]
  simp[IntKind.wrap,IntKind.signed,IntKind.bits];omega
 simp only[intBin,e];rfl
theorem n_or8U{m b:Nat}{K:Int->Prop}(hm:m<72057594037927936)(hb:b<256)(hk:K ((m*256+b:Nat):Int)):(real P).ari .or .u64 ((m*256:Nat):Int) .u64 (b:Int) K:=by
 refine⟨((m*256+b:Nat):Int),?_,hk⟩
 have e:IntKind.u64.wrap ((BitVec.ofInt IntKind.u64.bits ((m*256:Nat):Int)) ||| (BitVec.ofInt IntKind.u64.bits (b:Int))).toNat=((m*256+b:Nat):Int):=by
  rw[BitVec.toNat_or]
  have h1:(BitVec.ofInt IntKind.u64.bits ((m*256:Nat):Int)).toNat=m*256:=by
   rw[BitVec.ofInt_natCast,BitVec.toNat_ofNat];exact Nat.mod_eq_of_lt (by show m*256<2 ^ 64;omega)
  have h2:(BitVec.ofInt IntKind.u64.bits (b:Int)).toNat=b:=by
   rw[BitVec.ofInt_natCast,BitVec.toNat_ofNat];exact Nat.mod_eq_of_lt (by show b<2 ^ 64;omega)
  rw[h1,h2,or_byte hb]
  simp[IntKind.wrap,IntKind.signed,IntKind.bits];omega
 simp only[intBin,e];rfl
theorem n_fit{src dst:TypeId}{ks kd k:IntKind}{m:Nat}{K:Int->Prop}(hs:P.underlying src=some (.int ks))(hd:P.underlying dst=some (.int kd))(hw:kd.wrap (m:Int)=(m:Int))(hk:K (m:Int)):(real P).conv src dst k (m:Int) kd K:=
 real_conv hs hd (by rw[hw];exact hk)
theorem fit_u8{m:Nat}(h:m<256):IntKind.u8.wrap (m:Int)=(m:Int):=by simp[IntKind.wrap,IntKind.signed,IntKind.bits];omega
theorem fit_u32{m:Nat}(h:m<4294967296):IntKind.u32.wrap (m:Int)=(m:Int):=by simp[IntKind.wrap,IntKind.signed,IntKind.bits];omega
theorem fit_u64{m:Nat}(h:m<18446744073709551616):IntKind.u64.wrap (m:Int)=(m:Int):=by simp[IntKind.wrap,IntKind.signed,IntKind.bits];omega
theorem fit_i64{m:Nat}(h:m<9223372036854775808):IntKind.i64.wrap (m:Int)=(m:Int):=by simp[IntKind.wrap,IntKind.signed,IntKind.bits];omega
def retV(K:Value->Prop):Res->Prop
 | .en (.returned v) _ h=>match Nat.ble 100 h.next&&below 100 v with
  |true=>K v
  |false=>False
 |_=>False
theorem pu_mkV(hP:okProg P 100=true){W:How}(hkn:KnOk P 100 W)(hlp:LpOk P 100 W){f:FuncId}{args:List Value}{v:Value}{n:Nat}(ha:belowL 100 args=true)
  (h:Is (wpe P (real P) W n (.call f args (hOf 100 [] [])) (retV fun v'=>v'=v))) (B:Base) (H:Heap):CallH P 100 B f args H (.returned v) H:=by
 obtain⟨r,h1,h2⟩:=wpe_ok hP hkn hlp n _ _ h.out
 unfold retV at h2
 split at h2
 ·rename_i v' u h'
  split at h2
  ·rename_i hc
   simp only[Bool.and_eq_true]at hc
   subst h2
   exact pure_lift (fun B=>call_wk (ins:=[]) (call_objs (Nat.le_of_ble_eq_true hc.1) (h1 B)) (wk_pure (by simp only[belowL,hc.2];rfl))) ha hc.2 B H
  ·exact h2.elim
 ·exact h2.elim
end
end
end Go.Abs
namespace Go.Tlv
open Go Go.Abs
structure Cod{β:Type}(get:List UInt8->Option β)(put:β->List UInt8)(good:β->Prop)(z:β):Prop where
 back:∀a,good a->get (put a)=some a
 ok:∀s a,get s=some a->good a/\put a=s
 len:∀a,good a->(put a).length<=65535
 z0:put z=[]
 zg:good z
theorem Cod.inj{β:Type}{get:List UInt8->Option β}{put:β->List UInt8}{good:β->Prop}{z:β}(C:Cod get put good z){a b:β}(ha:good a)(hb:good b)(h:put a=put b):a=b:=by
 have h1:=C.back a ha
 rw[h,C.back b hb]at h1
 simp only[Option.some.injEq]at h1;exact h1.symm
def getI(top:Nat)(s:List UInt8):Option Int:=(rnum s top).map (fun n:Nat=>(n:Int))
def getN(top:Nat)(s:List UInt8):Option Nat:=rnum s top
def getS(top:Nat)(s:List UInt8):Option ByteArray:=if s.length<=top then some (bytesOf s)else none
def getB(s:List UInt8):Option Bool:=(rnum s 1).map fun n=>n==1
def getL{β:Type}(rd:List UInt8->Option β)(top:Nat)(s:List UInt8):Option (List β):=if (lstE top 0 s).1=0 then mapO (fun b=>rd b.data.toList) (lstE top 0 s).2 else none
def putL{β:Type}(one:β->ByteArray)(l:List β):List UInt8:=listS (l.map one)
def rdO{α:Type}(step:α->At->Option α)(zero:α)(s:List UInt8):Option α:=if (rdE step zero s).1=0 then some (rdE step zero s).2 else none
def rdInt(s:List UInt8):Option Int:=getI 2147483647 s
def rdNat(s:List UInt8):Option Nat:=getN 18446744073709551615 s
def zArm:Arm:=⟨0,0⟩
def stepArm(x:Arm)(a:At):Option Arm:=match a.t with
 | 1=>(getN 4294967295 a.v.data.toList).map fun v=>{x with v:=v}
 | 2=>(getI 2147483647 a.v.data.toList).map fun v=>{x with nx:=v}
 |_=>none
def rdArm(s:List UInt8):Option Arm:=rdO stepArm zArm s
def zInstr:Instr:=⟨0,0,0,0,0,0,0⟩
def stepInstr(x:Instr)(a:At):Option Instr:=match a.t with
 | 1=>(getN 255 a.v.data.toList).map fun v=>{x with op:=v}
 | 2=>(getI 2147483647 a.v.data.toList).map fun v=>{x with to:=v}
 | 3=>(getN 255 a.v.data.toList).map fun v=>{x with ak:=v}
 | 4=>(getN 18446744073709551615 a.v.data.toList).map fun v=>{x with an:=v}
 | 5=>(getN 255 a.v.data.toList).map fun v=>{x with bk:=v}
 | 6=>(getN 18446744073709551615 a.v.data.toList).map fun v=>{x with bn:=v}
 | 7=>(getI 2147483647 a.v.data.toList).map fun v=>{x with n:=v}
 |_=>none
def rdInstr(s:List UInt8):Option Instr:=rdO stepInstr zInstr s
def zBucket:Bucket:=⟨0,0⟩
def stepBucket(x:Bucket)(a:At):Option Bucket:=match a.t with
 | 1=>(getN 18446744073709551615 a.v.data.toList).map fun v=>{x with w:=v}
 | 2=>(getI 2147483647 a.v.data.toList).map fun v=>{x with b:=v}
 |_=>none
def rdBucket(s:List UInt8):Option Bucket:=rdO stepBucket zBucket s
def zNode:ONode:=⟨0,0,0,0,0,0,0,[],0⟩
def stepNode(x:ONode)(a:At):Option ONode:=match a.t with
 | 1=>(getI 2147483647 a.v.data.toList).map fun v=>{x with id:=v}
 | 2=>(getI 2147483647 a.v.data.toList).map fun v=>{x with size:=v}
 | 3=>(getI 2147483647 a.v.data.toList).map fun v=>{x with lo:=v}
 | 4=>(getI 2147483647 a.v.data.toList).map fun v=>{x with lw:=v}
 | 5=>(getI 2147483647 a.v.data.toList).map fun v=>{x with lu:=v}
 | 6=>(getI 2147483647 a.v.data.toList).map fun v=>{x with so:=v}
 | 7=>(getI 2147483647 a.v.data.toList).map fun v=>{x with sw:=v}
 | 8=>(getI 2147483647 a.v.data.toList).map fun v=>{x with ot:=v}
 | 9=>(getL rdArm 32 a.v.data.toList).map fun v=>{x with arms:=v}
 |_=>none
def zField:OField:=⟨0,0,0,0,0⟩
def stepField(x:OField)(a:At):Option OField:=match a.t with
 | 1=>(getI 2147483647 a.v.data.toList).map fun v=>{x with id:=v}
 | 2=>(getN 255 a.v.data.toList).map fun v=>{x with base:=v}
 | 3=>(getI 2147483647 a.v.data.toList).map fun v=>{x with node:=v}
 | 4=>(getI 2147483647 a.v.data.toList).map fun v=>{x with off:=v}
 | 5=>(getI 2147483647 a.v.data.toList).map fun v=>{x with wid:=v}
 |_=>none
def zTable:OTable:=⟨0,0,[],0,0⟩
def stepTable(x:OTable)(a:At):Option OTable:=match a.t with
 | 1=>(getI 2147483647 a.v.data.toList).map fun v=>{x with id:=v}
 | 2=>(getN 255 a.v.data.toList).map fun v=>{x with kind:=v}
 | 3=>(getL rdInt 4 a.v.data.toList).map fun v=>{x with keys:=v}
 | 4=>(getI 2147483647 a.v.data.toList).map fun v=>{x with cap:=v}
 | 5=>(getI 2147483647 a.v.data.toList).map fun v=>{x with miss:=v}
 |_=>none
def zEntry:OEntry:=⟨0,bytesOf [],bytesOf [],0,0,0,[],0,0,0,false⟩
def stepEntry(x:OEntry)(a:At):Option OEntry:=match a.t with
 | 1=>(getI 2147483647 a.v.data.toList).map fun v=>{x with tab:=v}
 | 2=>(getS 32 a.v.data.toList).map fun v=>{x with key:=v}
 | 3=>(getS 32 a.v.data.toList).map fun v=>{x with oth:=v}
 | 4=>(getI 2147483647 a.v.data.toList).map fun v=>{x with len:=v}
 | 5=>(getI 2147483647 a.v.data.toList).map fun v=>{x with prio:=v}
 | 6=>(getI 2147483647 a.v.data.toList).map fun v=>{x with blk:=v}
 | 7=>(getL rdNat 4 a.v.data.toList).map fun v=>{x with args:=v}
 | 8=>(getI 9223372036854775807 a.v.data.toList).map fun v=>{x with idle:=v}
 | 9=>(getI 9223372036854775807 a.v.data.toList).map fun v=>{x with hard:=v}
 | 10=>(getN 18446744073709551615 a.v.data.toList).map fun v=>{x with cook:=v}
 | 11=>(getB a.v.data.toList).map fun v=>{x with tell:=v}
 |_=>none
def zBlock:OBlock:=⟨0,[]⟩
def stepBlock(x:OBlock)(a:At):Option OBlock:=match a.t with
 | 1=>(getI 2147483647 a.v.data.toList).map fun v=>{x with id:=v}
 | 2=>(getL rdInstr 32 a.v.data.toList).map fun v=>{x with code:=v}
 |_=>none
def zGroup:OGroup:=⟨0,0,0,[]⟩
def stepGroup(x:OGroup)(a:At):Option OGroup:=match a.t with
 | 1=>(getI 2147483647 a.v.data.toList).map fun v=>{x with id:=v}
 | 2=>(getN 255 a.v.data.toList).map fun v=>{x with kind:=v}
 | 3=>(getI 2147483647 a.v.data.toList).map fun v=>{x with fld:=v}
 | 4=>(getL rdBucket 16 a.v.data.toList).map fun v=>{x with bks:=v}
 |_=>none
def zMeter:OMeter:=⟨0,0,0⟩
def stepMeter(x:OMeter)(a:At):Option OMeter:=match a.t with
 | 1=>(getI 2147483647 a.v.data.toList).map fun v=>{x with id:=v}
 | 2=>(getI 9223372036854775807 a.v.data.toList).map fun v=>{x with rate:=v}
 | 3=>(getI 9223372036854775807 a.v.data.toList).map fun v=>{x with burst:=v}
 |_=>none
def zRegs:ORegs:=⟨0,0⟩
def stepRegs(x:ORegs)(a:At):Option ORegs:=match a.t with
 | 1=>(getI 2147483647 a.v.data.toList).map fun v=>{x with id:=v}
 | 2=>(getI 2147483647 a.v.data.toList).map fun v=>{x with size:=v}
 |_=>none
end Go.Tlv
namespace Go.Proofs.Ytblbaohcelldpaa.Ob
open Go Go.Abs Go.Tlv
noncomputable section
def syB(a:Nat):Sy:=fun b=>match Nat.beq b a with|true=>some true|false=>none
def tRd(s:ByteArray):AObj := .cells [.string s] 171 1 false true
def eC:AObj := .cells [.int .i64 0] 59 1 false true
def dsC:List Deferred:=[{target := .fn (.func 113) ⟨[]⟩,args:=⟨[pA 101]⟩}]
def pan(e:Int):Exit := .panic [{v := .iface 59 (.int .i64 e),recovered:=false}]
abbrev LAt:=Code->Nat->List Value->List Deferred->List (Option AObj)->(Nat->Option AObj->Prop)->(Int->Prop)->Prop
def sLoopD(L:LAt):LpS:=lpSD [2,3] fun c n vals ds obs K=>L c n vals ds obs (fun k ob=>K (.exit 0) [mkS 102 k,pA 101] [none,some eC,ob]) (fun e=>K (pan e) [top,pA 101] [none,some eC])
def WD(L:LAt):How:=howOf (syB 102) (fun _=>false) [] [(3,(37,([0,2,3,4],sLoopD L)))] [] []
def WS2:How:=howOf (syB 102) (fun _=>false) [] [] [] []
def gDec(N:Nd)(L:LAt)(s:ByteArray)(K:RK):Prop:=wpe Try.prog N (WD L) 300 (.call 95 [(.string s)] h0) (retQ 100 K)
def gDecR(N:Nd)(s:ByteArray)(k:Nat)(ob:Option AObj)(last:Int)(back:List Value->List (Option AObj)->Prop)(out:Exit->List Value->List (Option AObj)->Prop):Prop:=
 wpe Try.prog N WS2 300 (.code false (loopIn Try.prog 110 3) (stOf 100 37 [0,2,3,4] dsC ([pA 100,mkS 102 k,pA 101,.int .u8 last],[some (tRd s),some eC,ob]))) (roundQ 100 [0,2,3,4] [2,3] 37 dsC back out)
set_option maxRecDepth 100000
theorem gDec_eq(N:Nd)(L:LAt)(s:ByteArray)(K:RK):gDec N L s K=(L (loopIn Try.prog 110 3) 37 [pA 100,.slice none 0 0,pA 101,.int .u8 0] [(Deferred.mk (Target.fn (Fn.func 113) ⟨[]⟩) (Array.mk [pA 101]))] [qq15 s,qq11] (fun o0 l1=>N.cmp .neq .i64 0 .i64 0 (K (.tuple (Array.mk [.slice none 0 0,.int .i64 0])) [none,qq11,l1]) (K (.tuple (Array.mk [(.iface 1000000021 (.slice (some ⟨102,0,none⟩) o0 o0)),.int .i64 0])) [none,qq11,l1])) (fun z0=>N.cmp .neq .i64 z0 .i64 0 (K (.tuple (Array.mk [.slice none 0 0,.int .i64 z0])) [none,(some (AObj.cells [.int .i64 z0] 59 1 false true))]) (K (.tuple (Array.mk [(.chan (some 0)),.int .i64 0])) [none,(some (AObj.cells [.int .i64 z0] 59 1 false true))]))):=by kernel_rfl
theorem gDecR_eq(N:Nd)(s:ByteArray)(k:Nat)(ob:Option AObj)(last:Int)(back:Bk)(out:Ot):gDecR N s k ob last back out=(N.scmp .neq s (bytesOf []) (N.slen s (fun z0=>N.cmp .lss .i64 z0 .i64 3 ((([(Deferred.mk (Target.fn (Fn.func 113) ⟨[]⟩) (Array.mk [pA 101]))]:List Deferred)=[(Deferred.mk (Target.fn (Fn.func 113) ⟨[]⟩) (Array.mk [pA 101]))])/\((true=true)/\(out (Exit.panic [(PanicEntry.mk (.iface 59 (.int .i64 4)) false false)]) [(.iface 1000000021 (.slice (some ⟨102,0,none⟩) k k)),pA 101] [qq15 s,qq11,ob]))) (N.ssl s none (some 3) (fun s1=>N.ssl s (some 3) none (fun s2=>N.ssl s1 (some 1) none (fun s3=>N.sat s3 0 (fun z4=>N.conv 5 3 .u8 z4 .i64 (fun z5=>N.ari .shl .i64 z5 .u64 8 (fun z6=>N.sat s3 1 (fun z7=>N.conv 5 3 .u8 z7 .i64 (fun z8=>N.ari .or .i64 z6 .i64 z8 (fun z9=>N.sat s1 0 (fun z10=>N.cmp .gtr .u8 z10 .u8 last (N.cmp .gtr .i64 z9 .i64 0 (N.sat s1 0 (fun z11=>N.slen s2 (fun z12=>N.cmp .lss .i64 z12 .i64 z9 ((([(Deferred.mk (Target.fn (Fn.func 113) ⟨[]⟩) (Array.mk [pA 101]))]:List Deferred)=[(Deferred.mk (Target.fn (Fn.func 113) ⟨[]⟩) (Array.mk [pA 101]))])/\((true=true)/\(out (Exit.panic [(PanicEntry.mk (.iface 59 (.int .i64 4)) false false)]) [(.iface 1000000021 (.slice (some ⟨102,0,none⟩) k k)),pA 101] [qq15 s2,qq11,ob]))) (N.ssl s2 none (some z9) (fun s13=>N.ssl s2 (some z9) none (fun s14=>N.base true k k ob 152 2 (fun l15=>N.appX k l15 1 [.int .u8 z11,.string s13] 2 24 (fun l16 o17=>(([(Deferred.mk (Target.fn (Fn.func 113) ⟨[]⟩) (Array.mk [pA 101]))]:List Deferred)=[(Deferred.mk (Target.fn (Fn.func 113) ⟨[]⟩) (Array.mk [pA 101]))])/\(back [pA 100,(.slice (some ⟨104,0,none⟩) o17 o17),pA 101,.int .u8 z11] [qq15 s14,qq11,none,qq0 z11 s13,(some (AObj.cells l16 152 2 true true))]))))))))) ((([(Deferred.mk (Target.fn (Fn.func 113) ⟨[]⟩) (Array.mk [pA 101]))]:List Deferred)=[(Deferred.mk (Target.fn (Fn.func 113) ⟨[]⟩) (Array.mk [pA 101]))])/\((true=true)/\(out (Exit.panic [(PanicEntry.mk (.iface 59 (.int .i64 3)) false false)]) [(.iface 1000000021 (.slice (some ⟨102,0,none⟩) k k)),pA 101] [qq15 s2,qq11,ob])))) ((([(Deferred.mk (Target.fn (Fn.func 113) ⟨[]⟩) (Array.mk [pA 101]))]:List Deferred)=[(Deferred.mk (Target.fn (Fn.func 113) ⟨[]⟩) (Array.mk [pA 101]))])/\((true=true)/\(out (Exit.panic [(PanicEntry.mk (.iface 59 (.int .i64 3)) false false)]) [(.iface 1000000021 (.slice (some ⟨102,0,none⟩) k k)),pA 101] [qq15 s2,qq11,ob])))))))))))))))) ((([(Deferred.mk (Target.fn (Fn.func 113) ⟨[]⟩) (Array.mk [pA 101]))]:List Deferred)=[(Deferred.mk (Target.fn (Fn.func 113) ⟨[]⟩) (Array.mk [pA 101]))])/\(out (Exit.exit 0) [(.iface 1000000021 (.slice (some ⟨102,0,none⟩) k k)),pA 101] [qq15 s,qq11,ob]))):=by kernel_rfl
def sLoopI2(L:LAt):LpS:=lpSD [4,5] fun c n vals ds obs K=>L c n vals ds obs (fun k ob=>K (.exit 0) [mkS 102 k,pA 101] [none,some eC,ob]) (fun e=>K (pan e) [top,pA 101] [none,some eC])
def WI2(L:LAt):How:=howOf (syB 102) (fun _=>false) [] [(2,(27,([0,1,4,5],sLoopI2 L)))] [] []
def gRL(N:Nd)(L:LAt)(s:ByteArray)(t:Int)(K:RK):Prop:=wpe Try.prog N (WI2 L) 300 (.call 99 [(.string s),(.int .i64 t)] h0) (retQ 100 K)
def gRLR(N:Nd)(s:ByteArray)(t:Int)(k:Nat)(ob:Option AObj)(back:List Value->List (Option AObj)->Prop)(out:Exit->List Value->List (Option AObj)->Prop):Prop:=
 wpe Try.prog N WS2 300 (.code false (loopIn Try.prog 111 2) (stOf 100 27 [0,1,4,5] dsC ([pA 100,.int .i64 t,mkS 102 k,pA 101],[some (tRd s),some eC,ob]))) (roundQ 100 [0,1,4,5] [4,5] 27 dsC back out)
set_option maxRecDepth 100000
theorem gRL_eq(N:Nd)(L:LAt)(s:ByteArray)(t:Int)(K:RK):gRL N L s t K=(L (loopIn Try.prog 111 2) 27 [pA 100,.int .i64 t,.slice none 0 0,pA 101] [(Deferred.mk (Target.fn (Fn.func 113) ⟨[]⟩) (Array.mk [pA 101]))] [qq15 s,qq11] (fun o0 l1=>N.cmp .neq .i64 0 .i64 0 (K (.tuple (Array.mk [.slice none 0 0,.int .i64 0])) [none,qq11,l1]) (K (.tuple (Array.mk [(.iface 1000000021 (.slice (some ⟨102,0,none⟩) o0 o0)),.int .i64 0])) [none,qq11,l1])) (fun z0=>N.cmp .neq .i64 z0 .i64 0 (K (.tuple (Array.mk [.slice none 0 0,.int .i64 z0])) [none,(some (AObj.cells [.int .i64 z0] 59 1 false true))]) (K (.tuple (Array.mk [(.chan (some 0)),.int .i64 0])) [none,(some (AObj.cells [.int .i64 z0] 59 1 false true))]))):=by kernel_rfl
theorem gRLR_eq(N:Nd)(s:ByteArray)(t:Int)(k:Nat)(ob:Option AObj)(back:Bk)(out:Ot):gRLR N s t k ob back out=(N.scmp .neq s (bytesOf []) (N.slen s (fun z0=>N.cmp .lss .i64 z0 .i64 2 ((([(Deferred.mk (Target.fn (Fn.func 113) ⟨[]⟩) (Array.mk [pA 101]))]:List Deferred)=[(Deferred.mk (Target.fn (Fn.func 113) ⟨[]⟩) (Array.mk [pA 101]))])/\((true=true)/\(out (Exit.panic [(PanicEntry.mk (.iface 59 (.int .i64 4)) false false)]) [(.iface 1000000021 (.slice (some ⟨102,0,none⟩) k k)),pA 101] [qq15 s,qq11,ob]))) (N.ssl s none (some 2) (fun s1=>N.ssl s (some 2) none (fun s2=>N.sat s1 0 (fun z3=>N.conv 5 3 .u8 z3 .i64 (fun z4=>N.ari .shl .i64 z4 .u64 8 (fun z5=>N.sat s1 1 (fun z6=>N.conv 5 3 .u8 z6 .i64 (fun z7=>N.ari .or .i64 z5 .i64 z7 (fun z8=>N.cmp .lss .i64 (Int.ofNat k) .i64 t (N.slen s2 (fun z9=>N.cmp .lss .i64 z9 .i64 z8 ((([(Deferred.mk (Target.fn (Fn.func 113) ⟨[]⟩) (Array.mk [pA 101]))]:List Deferred)=[(Deferred.mk (Target.fn (Fn.func 113) ⟨[]⟩) (Array.mk [pA 101]))])/\((true=true)/\(out (Exit.panic [(PanicEntry.mk (.iface 59 (.int .i64 4)) false false)]) [(.iface 1000000021 (.slice (some ⟨102,0,none⟩) k k)),pA 101] [qq15 s2,qq11,ob]))) (N.ssl s2 none (some z8) (fun s10=>N.ssl s2 (some z8) none (fun s11=>N.base true k k ob 9 1 (fun l12=>N.appX k l12 1 [.string s10] 1 16 (fun l13 o14=>(([(Deferred.mk (Target.fn (Fn.func 113) ⟨[]⟩) (Array.mk [pA 101]))]:List Deferred)=[(Deferred.mk (Target.fn (Fn.func 113) ⟨[]⟩) (Array.mk [pA 101]))])/\(back [pA 100,.int .i64 t,(.slice (some ⟨104,0,none⟩) o14 o14),pA 101] [qq15 s11,qq11,none,(some (AObj.cells [.string s10] 9 1 false true)),(some (AObj.cells l13 9 1 true true))])))))))) ((([(Deferred.mk (Target.fn (Fn.func 113) ⟨[]⟩) (Array.mk [pA 101]))]:List Deferred)=[(Deferred.mk (Target.fn (Fn.func 113) ⟨[]⟩) (Array.mk [pA 101]))])/\((true=true)/\(out (Exit.panic [(PanicEntry.mk (.iface 59 (.int .i64 3)) false false)]) [(.iface 1000000021 (.slice (some ⟨102,0,none⟩) k k)),pA 101] [qq15 s2,qq11,ob])))))))))))))) ((([(Deferred.mk (Target.fn (Fn.func 113) ⟨[]⟩) (Array.mk [pA 101]))]:List Deferred)=[(Deferred.mk (Target.fn (Fn.func 113) ⟨[]⟩) (Array.mk [pA 101]))])/\(out (Exit.exit 0) [(.iface 1000000021 (.slice (some ⟨102,0,none⟩) k k)),pA 101] [qq15 s,qq11,ob]))):=by kernel_rfl
abbrev LNt:=Code->Nat->List Value->List (Option AObj)->(Int->Prop)->Prop
def sLoopN(L:LNt):LpS:=lpS [1,6] fun c n vals obs K=>match vals with
 |_::t::_=>L c n vals obs (fun z=>K (.exit 0) [t,.int .u64 z] [])
 |_=>False
def WN2(L:LNt):How:=howOf (fun _=>none) (fun _=>false) [] [(5,(37,([0,1,6,21,22],sLoopN L)))] [] []
def gRNm(N:Nd)(L:LNt)(s:ByteArray)(t:Int)(K:Value->Prop):Prop:=wpe Try.prog N (WN2 L) 300 (.call 103 [(.string s),(.int .u64 t)] h0) (retV K)
def gRNR(N:Nd)(s:ByteArray)(t z n i:Int)(back:List Value->List (Option AObj)->Prop)(out:Exit->List Value->List (Option AObj)->Prop):Prop:=
 wpe Try.prog N (howOf (fun _=>none) (fun _=>false) [] [] [] []) 300 (.code false (loopIn Try.prog 103 5) (stOf 100 37 [0,1,6,21,22] [] ([.string s,.int .u64 t,.int .u64 z,.int .i64 n,.int .i64 i],[]))) (roundQ 100 [0,1,6,21,22] [1,6] 37 [] back out)
set_option maxRecDepth 100000
theorem gRNm_eq(N:Nd)(L:LNt)(s:ByteArray)(t:Int)(K:Value->Prop):gRNm N L s t K=(N.slen s (fun z0=>N.cmp .gtr .i64 z0 .i64 8 (K (.tuple (Array.mk [.int .u64 0,.int .i64 3]))) (N.scmp .neq s (bytesOf []) (N.sat s 0 (fun z1=>N.cmp .eql .u8 z1 .u8 0 (K (.tuple (Array.mk [.int .u64 0,.int .i64 3]))) (N.slen s (fun z2=>L (loopIn Try.prog 103 5) 37 [.string s,.int .u64 t,.int .u64 0,.int .i64 z2,.int .i64 0] [] (fun z3=>N.cmp .gtr .u64 z3 .u64 t (K (.tuple (Array.mk [.int .u64 0,.int .i64 3]))) (K (.tuple (Array.mk [.int .u64 z3,.int .i64 0])))))))) (N.slen s (fun z1=>L (loopIn Try.prog 103 5) 37 [.string s,.int .u64 t,.int .u64 0,.int .i64 z1,.int .i64 0] [] (fun z2=>N.cmp .gtr .u64 z2 .u64 t (K (.tuple (Array.mk [.int .u64 0,.int .i64 3]))) (K (.tuple (Array.mk [.int .u64 z2,.int .i64 0]))))))))):=by kernel_rfl
theorem gRNR_eq(N:Nd)(s:ByteArray)(t z n i:Int)(back:Bk)(out:Ot):gRNR N s t z n i back out=(N.cmp .lss .i64 i .i64 n (N.ari .shl .u64 z .u64 8 (fun z0=>N.sat s i (fun z1=>N.conv 5 23 .u8 z1 .u64 (fun z2=>N.ari .or .u64 z0 .u64 z2 (fun z3=>N.ari .add .i64 i .i64 1 (fun z4=>nD/\(back [.string s,.int .u64 t,.int .u64 z3,.int .i64 n,.int .i64 z4] []))))))) (nD/\(out (Exit.exit 0) [.int .u64 t,.int .u64 z] []))):=by kernel_rfl
end
end Go.Proofs.Ytblbaohcelldpaa.Ob
