/- Maps: made, read, written, taken from. -/
import Derived.Test.YtblbaohcelldpaaA8
set_option linter.all false
namespace Go.Abs
open Go
noncomputable section
theorem pureSem_bind{α β:Type}(P:Program):∀(s:Sem α) (f:α->Sem β),pureSem P (s >>= f)=(pureSem P s).bind fun a=>pureSem P (f a)
 | .pure a,f=>rfl
 | .program k,f=>pureSem_bind P (k P) f
 | .mark m k,f=>pureSem_bind P k f
 | .load ..,f=>rfl
 | .store ..,f=>rfl
 | .new ..,f=>rfl
 | .shape ..,f=>rfl
 | .freeze ..,f=>rfl
 | .frozen ..,f=>rfl
 | .getObj ..,f=>rfl
 | .setObj ..,f=>rfl
 | .choose ..,f=>rfl
 | .sys ..,f=>rfl
 | .halt ..,f=>rfl
section
variable {P:Program} {G:Nat} {F:Nm} {H:Heap} {w0:Base} {w:World}
theorem VRL.erase{F:Nm}:∀ {l l':List Value} (i:Nat),VRL F l l'->VRL F (l.eraseIdx i) (l'.eraseIdx i)
 | [],l',i,h=>by simp only[VRL]at h;subst h;simp[VRL]
 |x::l,l',0,h=>by
  simp only[VRL]at h;obtain⟨y,r',_,h2,e⟩:=h;subst e;simpa using h2
 |x::l,l',i+1,h=>by
  simp only[VRL]at h;obtain⟨y,r',h1,h2,e⟩:=h;subst e;simp only[List.eraseIdx_cons_succ,VRL];exact⟨y,_,h1,VRL.erase i h2,rfl⟩
theorem run_getMap{P:Program}{w:World}{r:Nat}{es:Array MapEntry}{clock:Nat}(hb:w.heap[r]?=some (.map es clock)):(getObj r).run P w = .ok (.map es clock) w:=by
 simp[getObj,Sem.run,hb]
theorem run_setMap{P:Program}{w:World}{r:Nat}{es:Array MapEntry}{clock:Nat}(o:Obj)(hb:w.heap[r]?=some (.map es clock)):(setObj r o).run P w = .ok () {w with heap:=w.heap.setIfInBounds r o}:=by
 simp[setObj,Sem.run,hb]
def ents(ks:List Value):List MapEntry:=ks.map fun k=>⟨k,undef,0⟩
theorem ents_keys:∀ks:List Value,(ents ks).map (·.key)=ks
 | []=>rfl
 |k::ks=>by simp only[ents,List.map_cons];rw[show ks.map (fun k=>(⟨k,undef,0⟩:MapEntry))=ents ks from rfl,ents_keys ks]
theorem findNow_keys(d:TypeDesc)(k:Value):∀(es es0:List MapEntry) (i:Nat),es.map (·.key)=es0.map (·.key)->
  (Instr.findNow d k es0 i=none->Instr.findNow d k es i=none)/\(Instr.findNow d k es0 i=some none->Instr.findNow d k es i=some none)/\
  (∀j v,Instr.findNow d k es0 i=some (some (j,v))->∃e,i<=j/\es[j-i]?=some e/\Instr.findNow d k es i=some (some (j,e.val)))
 | [],[],i,_=>⟨fun h=>h,fun h=>h,fun j v h=>by simp[Instr.findNow]at h⟩
 | [],_::_,i,h=>by simp at h
 |_::_,[],i,h=>by simp at h
 |e::es,e0::es0,i,h=>by
  simp only[List.map_cons,List.cons.injEq]at h
  obtain⟨h1,h2⟩:=h
  obtain⟨a,b,c⟩:=findNow_keys d k es es0 (i+1) h2
  simp only[Instr.findNow,h1]
  cases hs:Instr.sameNow d k e0.key with
  |none=>exact⟨fun _=>rfl,fun h=>by simp at h,fun j v h=>by simp at h⟩
  |some t=>
   cases t with
   |true=>
    refine⟨fun h=>by simp at h,fun h=>by simp at h,fun j v h=>?_⟩
    simp only[Option.some.injEq,Prod.mk.injEq]at h
    obtain⟨h3,h4⟩:=h
    subst h3
    exact⟨e,Nat.le_refl _,by simp,rfl⟩
   |false=>
    refine⟨a,b,fun j v h=>?_⟩
    obtain⟨x,h3,h4,h5⟩:=c j v h
    refine⟨x,by omega,?_,h5⟩
    rw[show j-i=(j-(i+1))+1 by omega];simpa using h4
theorem findAsking_keys(kt:TypeId)(k:Value):∀(es es0:List MapEntry) (i:Nat),es.map (·.key)=es0.map (·.key)->∀r,pureSem P (Instr.findAsking kt k es0 i)=some r->
  (r=none->pureSem P (Instr.findAsking kt k es i)=some none)/\(∀j v,r=some (j,v)->∃e,i<=j/\es[j-i]?=some e/\pureSem P (Instr.findAsking kt k es i)=some (some (j,e.val)))
 | [],[],i,_,r,hr=>by
  have:r=none:=by
   have e:pureSem P (Instr.findAsking kt k [] i)=some none:=rfl
   rw[e]at hr;exact(Option.some.inj hr).symm
  subst this
  exact⟨fun _=>rfl,fun j v h=>by cases h⟩
 | [],_::_,i,h,r,hr=>by simp at h
 |_::_,[],i,h,r,hr=>by simp at h
 |e::es,e0::es0,i,h,r,hr=>by
  simp only[List.map_cons,List.cons.injEq]at h
  obtain⟨h1,h2⟩:=h
  have ih:=findAsking_keys kt k es es0 (i+1) h2
  simp only[Instr.findAsking,pureSem_bind,h1]at hr ⊢
  cases hq:pureSem P (Op.equal kt k e0.key)with
  |none=>rw[hq]at hr;simp at hr
  |some t=>
   rw[hq]at hr
   simp only[Option.bind_some]at hr ⊢
   cases t with
   |true=>
    have e1:pureSem P (pure (some (i,e0.val)):Sem (Option (Nat×Value)))=some (some (i,e0.val)):=rfl
    simp only[if_true,e1,Option.some.injEq]at hr
    subst hr
    refine⟨fun h=>(by cases h),fun j v h=>?_⟩
    simp only[Option.some.injEq,Prod.mk.injEq]at h
    obtain⟨h3,h4⟩:=h
    subst h3
    exact⟨e,Nat.le_refl _,by simp,rfl⟩
   |false=>
    simp only[Bool.false_eq_true,if_false]at hr ⊢
    obtain⟨a,b⟩:=ih r hr
    refine⟨a,fun j v h=>?_⟩
    obtain⟨x,h3,h4,h5⟩:=b j v h
    refine⟨x,by omega,?_,h5⟩
    rw[show j-i=(j-(i+1))+1 by omega];simpa using h4
theorem findKey_keys{kt:TypeId}{k:Value}{es es0:List MapEntry}(h:es.map (·.key)=es0.map (·.key)){r:Option (Nat×Value)}(hr:pureSem P (Instr.findKey kt k es0)=some r):
  (r=none->pureSem P (Instr.findKey kt k es)=some none)/\(∀j v,r=some (j,v)->∃e,es[j]?=some e/\pureSem P (Instr.findKey kt k es)=some (some (j,e.val))):=by
 simp only[Instr.findKey,pureSem_bind]at hr ⊢
 cases hu:pureSem P (underlying kt)with
 |none=>rw[hu]at hr;simp at hr
 |some d=>
  rw[hu]at hr
  simp only[Option.bind_some]at hr ⊢
  obtain⟨a,b,c⟩:=findNow_keys d k es es0 0 h
  cases hf:Instr.findNow d k es0 0 with
  |none=>
   rw[hf]at hr
   rw[a hf]
   obtain⟨x,y⟩:=findAsking_keys kt k es es0 0 h r hr
   exact⟨x,fun j v hj=>let ⟨e,_,h1,h2⟩:=y j v hj;⟨e,h1,h2⟩⟩
  |some r0=>
   rw[hf]at hr
   have hr:some r0=some r:=hr
   simp only[Option.some.injEq]at hr;subst hr
   refine⟨fun hn=>?_,fun j v hj=>?_⟩
   ·subst hn;rw[b hf];rfl
   ·subst hj
    obtain⟨e,_,h1,h2⟩:=c j v hf
    exact⟨e,h1,by rw[h2];rfl⟩
def aFind(P:Program)(kt:TypeId)(k:Value)(ks:List Value):Option (Option Nat):=match plain k&&plainL ks with
 |false=>none
 |true=>match pureSem P (Instr.findKey kt k (ents ks))with
  |some (some (j,_))=>some (some j)
  |some none=>some none
  |none=>none
theorem aFind_ok{kt:TypeId}{k:Value}{ks:List Value}{es:List MapEntry}(hk:VRL F ks (es.map (·.key))){r:Option Nat}(h:aFind P kt k ks=some r)(w:World):
  plainL ks=true/\plain k=true/\(r=none->(Instr.findKey kt k es).run P w = .ok none w)/\(∀j,r=some j->∃e,es[j]?=some e/\(Instr.findKey kt k es).run P w = .ok (some (j,e.val)) w):=by
 unfold aFind at h
 split at h
 ·cases h
 ·rename_i hp
  simp only[Bool.and_eq_true]at hp
  rw[VRL.plain_eq _ _ hp.2]at hk
  have hk':es.map (·.key)=(ents ks).map (·.key):=by rw[ents_keys];exact hk
  refine⟨hp.2,hp.1,?_⟩
  split at h
  ·rename_i j v hf
   simp only[Option.some.injEq]at h;subst h
   refine⟨fun h=>(by cases h),fun j' hj=>?_⟩
   simp only[Option.some.injEq]at hj;subst hj
   obtain⟨e,h1,h2⟩:=(findKey_keys hk' hf).2 j v rfl
   exact⟨e,h1,pureSem_run P _ _ h2 w⟩
  ·rename_i hf
   simp only[Option.some.injEq]at h;subst h
   exact⟨fun _=>pureSem_run P _ _ ((findKey_keys hk' hf).1 rfl) w,fun j hj=>by cases hj⟩
  ·cases h
def aLookup (P:Program) (H:Heap) (t:TypeId) (x k:Value) (commaOk:Bool):Option Value:=
  match P.underlying t with
  | some (.map kt elem)=>
    match (match x with
      | .map none=>some ([],[])
      | .map (some r)=>match H.get r with
        |some (.map ks vs _ _)=>some (ks,vs)
        |_=>none
      |_=>none:Option (List Value×List Value))with
    | some (ks,vs)=>match pureSem P (Instr.checkKey ks.isEmpty 10000 kt k)with
      |some ()=>match aFind P kt k ks with
        |some (some j)=>match vs[j]? with
          |some v=>some (match commaOk with|true => .tuple ⟨[v,.bool true]⟩ | false=>v)
          |none=>none
        |some none=>match aZero P elem with
          |some z=>match plain z with
            |true=>some (match commaOk with|true => .tuple ⟨[z,.bool false]⟩ | false=>z)
            |false=>none
          |none=>none
        |none=>none
      |none=>none
    |none=>none
  |_=>none
theorem aLookup_ok(R:Rel G F H w0 w){t:TypeId}{x x' k k':Value}{ok:Bool}(hx:VR F x x')(hk:VR F k k'){v:Value}(h:aLookup P H t x k ok=some v):
  ∃v',(Instr.lookup t x' k' ok).run P w = .ok v' w/\VR F v v':=by
 unfold aLookup at h
 split at h<;>(try(cases h;done))
 rename_i kt elem hu
 split at h<;>(try(cases h;done))
 rename_i ks vs hx2
 have hes:∃es:Array MapEntry,((x' = .map none/\es=#[])∨∃r clock,x' = .map (some r)/\w.heap[r]?=some (.map es clock))/\VRL F ks (es.toList.map (·.key))/\VRL F vs (es.toList.map (·.val)):=by
  split at hx2
  ·simp only[Option.some.injEq,Prod.mk.injEq]at hx2
   obtain⟨e1,e2⟩:=hx2
   subst e1;subst e2
   simp only[VR]at hx;subst hx
   exact⟨#[],.inl ⟨rfl,rfl⟩,by simp[VRL],by simp[VRL]⟩
  ·rename_i r
   split at hx2<;>(try(cases hx2;done))
   rename_i ks' vs' bs' clock hg
   simp only[Option.some.injEq,Prod.mk.injEq]at hx2
   obtain⟨e1,e2⟩:=hx2
   subst e1;subst e2
   simp only[VR]at hx;obtain⟨r',d,o,hF,e⟩:=hx;subst e
   obtain⟨b,es,hF2,hw,h1,h2,_⟩:=R.obj _ _ hg
   rw[hF]at hF2;simp only[Option.some.injEq,Prod.mk.injEq]at hF2
   obtain⟨e1,_,_⟩:=hF2
   subst e1
   exact⟨es,.inr ⟨r',clock,rfl,hw⟩,h1,h2⟩
  ·cases hx2
 obtain⟨es,hes,hks,hvs⟩:=hes
 split at h<;>(try(cases h;done))
 rename_i hc
 have hemp:ks.isEmpty=es.isEmpty:=by
  have:=hks.length
  rw[Bool.eq_iff_iff,List.isEmpty_iff,Array.isEmpty_iff]
  simp only[List.length_map,Array.length_toList]at this
  constructor
  ·intro e;subst e;exact Array.eq_empty_of_size_eq_zero this
  ·intro e;subst e;exact List.eq_nil_of_length_eq_zero this.symm
 have hgo:∀r,(Instr.findKey kt k es.toList).run P w = .ok r w->k'=k->(Instr.lookup t x' k' ok).run P w=
   ((match r with|some (_,v)=>pure (v,true)|none=>do pure (←zeroValue elem,false):Sem (Value×Bool)).run P w).andThen fun a w=>(pure (if ok then .tuple #[a.1,.bool a.2]else a.1):Sem Value).run P w:=by
  intro r hf e
  subst e
  rcases hes with⟨e1,e2⟩ | ⟨r0,clock,e1,hw⟩
  ·subst e1;subst e2
   simp only[Instr.lookup,Sem.run_bind,run_underlying hu,Result.andThen_ok,Sem.run_pure,←hemp,pureSem_run P _ _ hc w,hf]
   cases r with
   |none=>simp only[Sem.run_bind];cases(zeroValue elem).run P w<;>rfl
   |some p=>rfl
  ·subst e1
   simp only[Instr.lookup,Sem.run_bind,run_underlying hu,Result.andThen_ok,Sem.run_pure,run_getMap hw,←hemp,pureSem_run P _ _ hc w,hf]
   cases r with
   |none=>simp only[Sem.run_bind];cases(zeroValue elem).run P w<;>rfl
   |some p=>rfl
 split at h<;>(try(cases h;done))
 ·rename_i j hf
  obtain⟨hp1,hp2,_,h2⟩:=aFind_ok hks hf w
  obtain⟨e,h3,h4⟩:=h2 j rfl
  rw[VR.plain_eq _ _ hp2]at hk
  split at h<;>(try(cases h;done))
  rename_i v0 hv0
  simp only[Option.some.injEq]at h;subst h
  obtain⟨v',h5,h6⟩:=hvs.get hv0
  rw[List.getElem?_map,h3]at h5
  simp only[Option.map_some,Option.some.injEq]at h5;subst h5
  rw[hgo _ h4 hk]
  cases ok
  ·exact⟨_,rfl,h6⟩
  ·exact⟨_,rfl,by simp only[VR,VRA,VRL];exact⟨_,⟨_,_,h6,⟨_,_,rfl,rfl,rfl⟩,rfl⟩,rfl⟩⟩
 ·rename_i hf
  obtain⟨hp1,hp2,h2,_⟩:=aFind_ok hks hf w
  rw[VR.plain_eq _ _ hp2]at hk
  split at h<;>(try(cases h;done))
  rename_i z hz
  split at h<;>(try(cases h;done))
  rename_i hpz
  simp only[Option.some.injEq]at h;subst h
  have hzz:VR F z z:=(VR.plain_eq _ _ hpz).2 rfl
  rw[hgo _ (h2 rfl) hk]
  simp only[Sem.run_bind,run_zeroValue hz,Result.andThen_ok]
  cases ok
  ·exact⟨_,rfl,hzz⟩
  ·exact⟨_,rfl,by simp only[VR,VRA,VRL];exact⟨_,⟨_,_,hzz,⟨_,_,rfl,rfl,rfl⟩,rfl⟩,rfl⟩⟩
def aMakeMap(P:Program)(H:Heap)(t:TypeId)(r:Option Value):Option (Value×Heap):=match r with
 |none=>some (.map (some H.next),H.push (.map [] [] [] 0))
 |some (.int _ _)=>match P.underlying t with
  |some (.map _ _)=>some (.map (some H.next),H.push (.map [] [] [] 0))
  |_=>none
 |_=>none
theorem aMakeMap_ok(R:Rel G F H w0 w){t:TypeId}{x:Option Value}{r:Value×Heap}(h:aMakeMap P H t x=some r):OpOK P G F w0 w (Instr.makeMap t x) r.1 r.2:=by
 have key:(Instr.makeMap t x).run P w = .ok (.map (some w.heap.size)) {w with heap:=w.heap.push (.map #[] 0)}->r=(.map (some H.next),H.push (.map [] [] [] 0))->OpOK P G F w0 w (Instr.makeMap t x) r.1 r.2:=by
  intro h1 h2
  subst h2
  obtain⟨hle,R'⟩:=R.pushMap
  exact⟨_,_,_,hle,h1,by simp only[VR];exact⟨_,0,0,Nm.with_self _ _ _,rfl⟩,R'⟩
 unfold aMakeMap at h
 split at h
 ·simp only[Option.some.injEq]at h
  exact key rfl h.symm
 ·split at h<;>(try(cases h;done))
  rename_i hu
  simp only[Option.some.injEq]at h
  exact key (by simp[Instr.makeMap,run_underlying hu,asInt,asIntOf]) h.symm
 ·cases h
theorem keeps_new{a b c:Value}(h:pureSem P (Instr.keyThatStays a b)=some c):c=b:=by
 unfold Instr.keyThatStays at h
 split at h
 ·have e:pureSem P (pure b:Sem Value)=some b:=rfl
  rw[e]at h;exact(Option.some.inj h).symm
 ·rw[pureSem_bind]at h
  have e : pureSem P (choose (.extern "map.whichKeyStays" 2)) = none := rfl
  rw[e]at h;cases h
theorem modify_map{α:Type}(g:MapEntry->α)(es:List MapEntry)(j:Nat)(f:MapEntry->MapEntry)(a:α)(h:∀e,es[j]?=some e->g (f e)=a):(es.modify j f).map g=(es.map g).set j a:=by
 apply List.ext_getElem?
 intro i
 rw[List.getElem?_map,List.getElem?_modify,List.getElem?_set,List.getElem?_map,List.length_map]
 by_cases e:j=i
 ·subst e
  rw[if_pos rfl]
  cases hj:es[j]? with
  |none=>rw[if_neg (by have:=List.getElem?_eq_none_iff.1 hj;omega)];rfl
  |some x=>rw[if_pos (List.getElem?_eq_some_iff.1 hj).1];simp[h x hj]
 ·rw[if_neg e]
  cases hi:es[i]?<;>simp[e]
theorem set_self{α:Type}{l:List α}{j:Nat}{a:α}(h:l[j]?=some a):l.set j a=l:=by
 apply List.ext_getElem?
 intro i
 rw[List.getElem?_set]
 split
 ·rename_i hij;subst hij
  rw[h,if_pos (List.getElem?_eq_some_iff.1 h).1]
 ·rfl
def aMapUpdate (P:Program) (H:Heap) (t:TypeId) (m k v:Value):Option Heap:=
  match P.underlying t,m with
  | some (.map kt _),.map (some r)=>match H.get r with
    | some (.map ks vs bs clock)=>match pureSem P (Instr.checkKey false 10000 kt k)with
      |some ()=>match aFind P kt k ks with
        |some (some j)=>match ks[j]? with
          |some k0=>match pureSem P (Instr.keyThatStays k0 k)with
            |some _=>some (H.put r (some (.map (ks.set j k) (vs.set j v) bs clock)))
            |none=>none
          |none=>none
        |some none=>some (H.put r (some (.map (ks++[k]) (vs++[v]) (bs++[clock]) (clock+1))))
        |none=>none
      |none=>none
    |_=>none
  |_,_=>none
theorem aMapUpdate_ok(R:Rel G F H w0 w){t:TypeId}{m m' k k' v v':Value}(hm:VR F m m')(hk:VR F k k')(hv:VR F v v'){H':Heap}(h:aMapUpdate P H t m k v=some H'):
  ∃w',(Instr.mapUpdate t m' k' v').run P w = .ok () w'/\Rel G F H' w0 w':=by
 unfold aMapUpdate at h
 split at h<;>(try(cases h;done))
 rename_i kt elem r hu
 simp only[VR]at hm;obtain⟨r',d,o,hF,e⟩:=hm;subst e
 split at h<;>(try(cases h;done))
 rename_i ks vs bs clock hg
 obtain⟨b,es,hF2,hw,hks,hvs,hbo,hp⟩:=R.obj _ _ hg
 have hF3:=hF2
 rw[hF]at hF2;simp only[Option.some.injEq,Prod.mk.injEq]at hF2
 obtain⟨e1,_,_⟩:=hF2
 subst e1
 split at h<;>(try(cases h;done))
 rename_i hc
 split at h<;>(try(cases h;done))
 ·rename_i j hf
  obtain⟨hp1,hp2,_,h2⟩:=aFind_ok hks hf w
  obtain⟨e,h3,h4⟩:=h2 j rfl
  rw[VR.plain_eq _ _ hp2]at hk;subst hk
  split at h<;>(try(cases h;done))
  rename_i k0 hk0
  split at h<;>(try(cases h;done))
  rename_i k2 hst
  have:=keeps_new hst
  subst this
  simp only[Option.some.injEq]at h;subst h
  have hek:e.key=k0:=by
   rw[VRL.plain_eq _ _ hp1]at hks
   rw[←hks,List.getElem?_map,h3]at hk0
   simpa using hk0
  have h3':es[j]?=some e:=by simpa using h3
  refine⟨_,?_,R.setMap hF3 hg (es':=es.modify j fun e=>{e with key:=k2,val:=v' }) (clock':=clock) ?_ ?_ ?_⟩
  ·simp only[Instr.mapUpdate,Sem.run_bind,run_underlying hu,Result.andThen_ok,run_getMap hw,pureSem_run P _ _ hc w,h4,h3',Option.map_some,Option.getD_some,hek,pureSem_run P _ _ hst w]
   exact run_setMap _ hw
  ·rw[Array.toList_modify,modify_map (·.key) _ _ _ k2 fun _ _=>rfl]
   exact hks.set j ((VR.plain_eq _ _ hp2).2 rfl)
  ·rw[Array.toList_modify,modify_map (·.val) _ _ _ v' fun _ _=>rfl]
   exact hvs.set j hv
  ·rw[←hbo,Array.toList_modify,modify_map (·.born) _ _ _ e.born fun e' he=>by rw[h3]at he;simp only[Option.some.injEq]at he;subst he;rfl]
   exact set_self (by rw[List.getElem?_map,h3];rfl)
 ·rename_i hf
  obtain⟨hp1,hp2,h2,_⟩:=aFind_ok hks hf w
  rw[VR.plain_eq _ _ hp2]at hk;subst hk
  simp only[Option.some.injEq]at h;subst h
  refine⟨_,?_,R.setMap hF3 hg (es':=es.push {key:=k',val:=v',born:=clock}) (clock':=clock+1) ?_ ?_ ?_⟩
  ·simp only[Instr.mapUpdate,Sem.run_bind,run_underlying hu,Result.andThen_ok,run_getMap hw,pureSem_run P _ _ hc w,h2 rfl]
   exact run_setMap _ hw
  ·rw[Array.toList_push,List.map_append]
   exact hks.append (VRL.one ((VR.plain_eq _ _ hp2).2 rfl))
  ·rw[Array.toList_push,List.map_append]
   exact hvs.append (VRL.one hv)
  ·rw[Array.toList_push,List.map_append,hbo];rfl
def aMapEntry (P:Program) (H:Heap) (t:TypeId) (m k:Value):Option (Value×Heap):=
  match P.underlying t,m with
  | some (.map kt elem),.map (some r)=>match H.get r with
    | some (.map ks vs bs clock)=>match pureSem P (Instr.checkKey false 10000 kt k)with
      |some ()=>match aFind P kt k ks with
        |some (some j)=>match ks[j]?,vs[j]?,bs[j]? with
          |some k0,some v,some b=>match pureSem P (Instr.keyThatStays k0 k)with
            |some _=>some (.tuple ⟨[v,.int .i64 b]⟩,H.put r (some (.map (ks.set j k) vs bs clock)))
            |none=>none
          |_,_,_=>none
        |some none=>match aZero P elem with
          |some z=>match plain z with
            |true=>some (.tuple ⟨[z,.int .i64 clock]⟩,H.put r (some (.map (ks++[k]) (vs++[z]) (bs++[clock]) (clock+1))))
            |false=>none
          |none=>none
        |none=>none
      |none=>none
    |_=>none
  |_,_=>none
theorem VR.pair{F:Nm}{v v':Value}{n:Int}(h:VR F v v'):VR F (.tuple ⟨[v,.int .i64 n]⟩) (.tuple ⟨[v',.int .i64 n]⟩):=by
 simp only[VR,VRA,VRL];exact⟨_,⟨_,_,h,⟨_,_,rfl,rfl,rfl⟩,rfl⟩,rfl⟩
theorem aMapEntry_ok(R:Rel G F H w0 w){t:TypeId}{m m' k k':Value}(hm:VR F m m')(hk:VR F k k'){r:Value×Heap}(h:aMapEntry P H t m k=some r):
  OpOK P G F w0 w (Instr.mapEntry t m' k') r.1 r.2:=by
 unfold aMapEntry at h
 split at h<;>(try(cases h;done))
 rename_i kt elem r0 hu
 simp only[VR]at hm;obtain⟨r',d,o,hF,e⟩:=hm;subst e
 split at h<;>(try(cases h;done))
 rename_i ks vs bs clock hg
 obtain⟨b,es,hF2,hw,hks,hvs,hbo,hp⟩:=R.obj _ _ hg
 have hF3:=hF2
 rw[hF]at hF2;simp only[Option.some.injEq,Prod.mk.injEq]at hF2
 obtain⟨e1,_,_⟩:=hF2
 subst e1
 split at h<;>(try(cases h;done))
 rename_i hc
 split at h<;>(try(cases h;done))
 ·rename_i j hf
  obtain⟨hp1,hp2,_,h2⟩:=aFind_ok hks hf w
  obtain⟨e,h3,h4⟩:=h2 j rfl
  rw[VR.plain_eq _ _ hp2]at hk;subst hk
  split at h<;>(try(cases h;done))
  rename_i k0 v b hk0 hv0 hb0
  split at h<;>(try(cases h;done))
  rename_i k2 hst
  have:=keeps_new hst
  subst this
  simp only[Option.some.injEq]at h;subst h
  have hek:e.key=k0:=by
   rw[VRL.plain_eq _ _ hp1]at hks
   rw[←hks,List.getElem?_map,h3]at hk0
   simpa using hk0
  have heb:e.born=b:=by
   rw[←hbo,List.getElem?_map,h3]at hb0
   simpa using hb0
  obtain⟨v',h5,h6⟩:=hvs.get hv0
  rw[List.getElem?_map,h3]at h5
  simp only[Option.map_some,Option.some.injEq]at h5;subst h5
  have h3':es[j]?=some e:=by simpa using h3
  refine⟨F,.tuple #[e.val,.int .i64 b],_,Nm.le_refl F,?_,VR.pair h6,R.setMap hF3 hg (es':=es.modify j fun e=>{e with key:=k2}) (clock':=clock) ?_ ?_ ?_⟩
  ·simp only[Instr.mapEntry,Sem.run_bind,run_underlying hu,Result.andThen_ok,run_getMap hw,pureSem_run P _ _ hc w,h4,h3',Option.map_some,Option.getD_some,hek,heb,pureSem_run P _ _ hst w,run_setMap _ hw,goInt]
   rfl
  ·rw[Array.toList_modify,modify_map (·.key) _ _ _ k2 fun _ _=>rfl]
   exact hks.set j ((VR.plain_eq _ _ hp2).2 rfl)
  ·rw[Array.toList_modify,modify_map (·.val) _ _ _ e.val fun e' he=>by rw[h3]at he;simp only[Option.some.injEq]at he;subst he;rfl]
   rw[set_self (by rw[List.getElem?_map,h3];rfl)];exact hvs
  ·rw[←hbo,Array.toList_modify,modify_map (·.born) _ _ _ e.born fun e' he=>by rw[h3]at he;simp only[Option.some.injEq]at he;subst he;rfl]
   exact set_self (by rw[List.getElem?_map,h3];rfl)
 ·rename_i hf
  obtain⟨hp1,hp2,h2,_⟩:=aFind_ok hks hf w
  rw[VR.plain_eq _ _ hp2]at hk;subst hk
  split at h<;>(try(cases h;done))
  rename_i z hz
  split at h<;>(try(cases h;done))
  rename_i hpz
  simp only[Option.some.injEq]at h;subst h
  have hzz:VR F z z:=(VR.plain_eq _ _ hpz).2 rfl
  refine⟨F,.tuple #[z,.int .i64 clock],_,Nm.le_refl F,?_,VR.pair hzz,R.setMap hF3 hg (es':=es.push {key:=k',val:=z,born:=clock}) (clock':=clock+1) ?_ ?_ ?_⟩
  ·simp only[Instr.mapEntry,Sem.run_bind,run_underlying hu,Result.andThen_ok,run_getMap hw,pureSem_run P _ _ hc w,h2 rfl,run_zeroValue hz,run_setMap _ hw,goInt]
   rfl
  ·rw[Array.toList_push,List.map_append]
   exact hks.append (VRL.one ((VR.plain_eq _ _ hp2).2 rfl))
  ·rw[Array.toList_push,List.map_append]
   exact hvs.append (VRL.one hzz)
  ·rw[Array.toList_push,List.map_append,hbo];rfl
def findBorn(s:Int):List Nat->Nat->Option Nat
 | [],_=>none
 |b::l,i=>match decide ((b:Int)=s)with
  |true=>some i
  |false=>findBorn s l (i+1)
theorem findBorn_ok(s:Int):∀(es:List MapEntry) (i:Nat),(findBorn s (es.map (·.born)) i)=(es.findIdx? (fun e=>(e.born:Int)==s)).map (·+i)
 | [],i=>rfl
 |e::es,i=>by
  simp only[List.map_cons,findBorn,List.findIdx?_cons]
  by_cases h:(e.born:Int)=s
  ·simp[h]
  ·simp only[h,decide_false,findBorn_ok s es (i+1),beq_eq_false_iff_ne.2 h,Bool.false_eq_true,if_false,Option.map_map]
   congr 1;funext x;simp;omega
def aEntryStore(H:Heap)(m s v:Value):Option Heap:=
 match m,s with
 | .map (some r),.int _ b=>match H.get r with
  |some (.map ks vs bs clock)=>match findBorn b bs 0 with
   |some j=>some (H.put r (some (.map ks (vs.set j v) bs clock)))
   |none=>none
  |_=>none
 |_,_=>none
theorem aEntryStore_ok(R:Rel G F H w0 w){t:TypeId}{m m' s s' v v':Value}(hm:VR F m m')(hs:VR F s s')(hv:VR F v v'){H':Heap}(h:aEntryStore H m s v=some H'):
  ∃w',(Instr.entryStore t m' s' v').run P w = .ok () w'/\Rel G F H' w0 w':=by
 unfold aEntryStore at h
 split at h<;>(try(cases h;done))
 rename_i r k n
 simp only[VR]at hm;obtain⟨r',d,o,hF,e⟩:=hm;subst e
 simp only[VR]at hs;subst hs
 split at h<;>(try(cases h;done))
 rename_i ks vs bs clock hg
 obtain⟨b,es,hF2,hw,hks,hvs,hbo,hp⟩:=R.obj _ _ hg
 have hF3:=hF2
 rw[hF]at hF2;simp only[Option.some.injEq,Prod.mk.injEq]at hF2
 obtain⟨e1,_,_⟩:=hF2
 subst e1
 split at h<;>(try(cases h;done))
 rename_i j hj
 simp only[Option.some.injEq]at h;subst h
 rw[←hbo,findBorn_ok]at hj
 simp only[Nat.add_zero,Option.map_id']at hj
 have hj':es.findIdx? (fun e=>(e.born:Int)==n)=some j:=by rw[←hj];cases es;simp
 refine⟨_,?_,R.setMap hF3 hg (es':=es.modify j fun e=>{e with val:=v' }) (clock':=clock) ?_ ?_ ?_⟩
 ·simp only[Instr.entryStore,Sem.run_bind,run_getMap hw,Result.andThen_ok,asInt,asIntOf,Sem.run_pure,hj']
  exact run_setMap _ hw
 ·have hlt:=(List.findIdx?_eq_some_iff_getElem.1 hj).1
  rw[Array.toList_modify,modify_map (·.key) _ _ _ (es.toList[j].key) fun e he=>by rw[List.getElem?_eq_getElem hlt]at he;simp only[Option.some.injEq]at he;subst he;rfl]
  rw[set_self (by rw[List.getElem?_map,List.getElem?_eq_getElem hlt];rfl)];exact hks
 ·rw[Array.toList_modify,modify_map (·.val) _ _ _ v' fun _ _=>rfl]
  exact hvs.set j hv
 ·have hlt:=(List.findIdx?_eq_some_iff_getElem.1 hj).1
  rw[←hbo,Array.toList_modify,modify_map (·.born) _ _ _ (es.toList[j].born) fun e he=>by rw[List.getElem?_eq_getElem hlt]at he;simp only[Option.some.injEq]at he;subst he;rfl]
  exact set_self (by rw[List.getElem?_map,List.getElem?_eq_getElem hlt];rfl)
def aDelete(P:Program)(H:Heap)(t:TypeId)(m k:Value):Option (Value×Heap):=
 match P.underlying t,m with
 |some (.map kt _),.map (some r)=>match H.get r with
  |some (.map ks vs bs clock)=>match pureSem P (Instr.checkKey ks.isEmpty 10000 kt k)with
   |some ()=>match aFind P kt k ks with
    |some (some j)=>some (.tuple ⟨[]⟩,H.put r (some (.map (ks.eraseIdx j) (vs.eraseIdx j) (bs.eraseIdx j) clock)))
    |some none=>some (.tuple ⟨[]⟩,H.put r (some (.map ks vs bs clock)))
    |none=>none
   |none=>none
  |_=>none
 |_,_=>none
theorem erase_map{α:Type}(g:MapEntry->α):∀(es:List MapEntry) (j:Nat),(es.eraseIdx j).map g=(es.map g).eraseIdx j
 | [],j=>by simp
 |e::es,0=>by simp
 |e::es,j+1=>by simp[erase_map g es j]
theorem aDelete_ok(R:Rel G F H w0 w){t:TypeId}{m m' k k':Value}(hm:VR F m m')(hk:VR F k k'){r:Value×Heap}(h:aDelete P H t m k=some r)
  (argTypes:Array TypeId) (ht:argTypes[0]?=some t) (ty:TypeId):OpOK P G F w0 w (Builtin.delete_ argTypes ty #[m',k']) r.1 r.2:=by
 unfold aDelete at h
 split at h<;>(try(cases h;done))
 rename_i kt elem b0 hu
 simp only[VR]at hm;obtain⟨r',d,o,hF,e⟩:=hm;subst e
 split at h<;>(try(cases h;done))
 rename_i ks vs bs clock hg
 obtain⟨b,es,hF2,hw,hks,hvs,hbo,hp⟩:=R.obj _ _ hg
 have hF3:=hF2
 rw[hF]at hF2;simp only[Option.some.injEq,Prod.mk.injEq]at hF2
 obtain⟨e1,_,_⟩:=hF2
 subst e1
 have hemp:ks.isEmpty=es.isEmpty:=by
  have:=hks.length
  rw[Bool.eq_iff_iff,List.isEmpty_iff,Array.isEmpty_iff]
  simp only[List.length_map,Array.length_toList]at this
  constructor
  ·intro e;subst e;exact Array.eq_empty_of_size_eq_zero this
  ·intro e;subst e;exact List.eq_nil_of_length_eq_zero this.symm
 split at h<;>(try(cases h;done))
 rename_i hc
 split at h<;>(try(cases h;done))
 ·rename_i j hf
  obtain⟨hp1,hp2,_,h2⟩:=aFind_ok hks hf w
  obtain⟨e,h3,h4⟩:=h2 j rfl
  rw[VR.plain_eq _ _ hp2]at hk;subst hk
  simp only[Option.some.injEq]at h;subst h
  have hl:(es.eraseIdxIfInBounds j).toList=es.toList.eraseIdx j:=by
   rw[Array.eraseIdxIfInBounds]
   split
   ·simp
   ·rename_i hn;rw[List.eraseIdx_of_length_le (by simpa using hn)]
  refine⟨F,.tuple #[],_,Nm.le_refl F,?_,by simp[VR,VRA,VRL],R.setMap hF3 hg (es':=es.eraseIdxIfInBounds j) (clock':=clock) ?_ ?_ ?_⟩
  ·simp only[Builtin.delete_,ht,List.getElem?_toArray,List.getElem?_cons_zero,List.getElem?_cons_succ,Sem.run_bind,run_underlying hu,Result.andThen_ok,run_getMap hw,←hemp,pureSem_run P _ _ hc w,h4,run_setMap _ hw]
   rfl
  ·rw[hl,erase_map];exact hks.erase j
  ·rw[hl,erase_map];exact hvs.erase j
  ·rw[hl,erase_map,hbo]
 ·rename_i hf
  obtain⟨hp1,hp2,h2,_⟩:=aFind_ok hks hf w
  rw[VR.plain_eq _ _ hp2]at hk;subst hk
  simp only[Option.some.injEq]at h;subst h
  refine⟨F,.tuple #[],_,Nm.le_refl F,?_,by simp[VR,VRA,VRL],R.setMap hF3 hg (es':=es) (clock':=clock) hks hvs hbo⟩
  simp only[Builtin.delete_,ht,List.getElem?_toArray,List.getElem?_cons_zero,List.getElem?_cons_succ,Sem.run_bind,run_underlying hu,Result.andThen_ok,run_getMap hw,←hemp,pureSem_run P _ _ hc w,h2 rfl,run_setMap _ hw]
  rfl
def aLenM(P:Program)(H:Heap)(t:TypeId)(x:Value):Option Value:=
 match P.underlying t,x with
 |some (.map _ _),.map (some r)=>match H.get r with
  |some (.map ks _ _ _)=>some (.int .i64 ks.length)
  |_=>none
 |_,_=>none
theorem aLenM_ok(R:Rel G F H w0 w){t:TypeId}{x x':Value}(hx:VR F x x'){v:Value}(h:aLenM P H t x=some v)(argTypes:Array TypeId)(ht:argTypes[0]?=some t)(ty:TypeId)(rest:List Value):
  (Builtin.len_ argTypes ty (x'::rest).toArray).run P w = .ok v w/\VR F v v:=by
 unfold aLenM at h
 split at h<;>(try(cases h;done))
 rename_i kt e r hu
 split at h<;>(try(cases h;done))
 rename_i ks vs bs clock hg
 simp only[Option.some.injEq]at h;subst h
 simp only[VR]at hx;obtain⟨r',d,o,hF,e'⟩:=hx;subst e'
 obtain⟨b,es,hF2,hw,hks,_⟩:=R.obj _ _ hg
 rw[hF]at hF2;simp only[Option.some.injEq,Prod.mk.injEq]at hF2
 obtain⟨e1,_,_⟩:=hF2
 subst e1
 have hl:=hks.length
 simp only[List.length_map,Array.length_toList]at hl
 refine⟨?_,by simp[VR]⟩
 simp only[Builtin.len_,ht,List.getElem?_toArray,List.getElem?_cons_zero,Sem.run_bind,run_underlying hu,Result.andThen_ok,run_getMap hw,Sem.run_pure,goInt,hl]
def aClear(P:Program)(H:Heap)(t:TypeId)(x:Value):Option (Value×Heap):=
 match P.underlying t with
 |none=>none
 |some d=>match x with
  | .map none=>some (.tuple ⟨[]⟩,H)
  | .slice none _ _=>some (.tuple ⟨[]⟩,H)
  | .slice (some _) 0 _=>some (.tuple ⟨[]⟩,H)
  | .map (some r)=>match H.get r with
   |some (.map _ _ _ clock)=>some (.tuple ⟨[]⟩,H.put r (some (.map [] [] [] clock)))
   |_=>none
  | .slice (some a) (n+1) _=>match d with
   | .slice elem=>match aZero P elem,a.spot,H.get a.block with
    |some z,none,some (.cells vs e sz lo true)=>match plain z&&Nat.ble (a.off+(aZeros z.cells.toList ((n+1)*z.cells.size)).length) vs.length&&(aZeros z.cells.toList ((n+1)*z.cells.size)).all isCell with
     |true=>some (.tuple ⟨[]⟩,H.put a.block (some (.cells (splice vs a.off (aZeros z.cells.toList ((n+1)*z.cells.size))) e sz lo true)))
     |false=>none
    |_,_,_=>none
   |_=>none
  |_=>none
theorem aClear_ok(R:Rel G F H w0 w){t:TypeId}{x x':Value}(hx:VR F x x'){r:Value×Heap}(h:aClear P H t x=some r)(argTypes:Array TypeId)(ht:argTypes[0]?=some t)(ty:TypeId):
  OpOK P G F w0 w (Builtin.clear_ argTypes ty #[x']) r.1 r.2:=by
 unfold aClear at h;simp only[splice_eq]at h
 split at h
 ·cases h
 rename_i d hu
 have hunit:VR F (.tuple ⟨[]⟩) (.tuple #[]):=by simp[VR,VRA,VRL]
 have hnop:∀v',x'=v'->(match v' with | .map none=>True | .slice none _ _=>True | .slice _ 0 _=>True|_=>False)->(Builtin.clear_ argTypes ty #[x']).run P w = .ok (.tuple #[]) w:=by
  intro v' e hm
  subst e
  simp only[Builtin.clear_,ht,List.getElem?_toArray,List.getElem?_cons_zero,Sem.run_bind,run_underlying hu,Result.andThen_ok]
  split at hm
  ·cases d<;>rfl
  ·cases d<;>rfl
  ·rename_i b c _
   cases b<;>cases d<;>rfl
  ·exact hm.elim
 split at h<;>(try(cases h;done))
 ·simp only[Option.some.injEq]at h;subst h
  simp only[VR]at hx
  exact OpOK.same R (hnop _ hx trivial) hunit
 ·simp only[Option.some.injEq]at h;subst h
  simp only[VR]at hx
  exact OpOK.same R (hnop _ hx trivial) hunit
 ·simp only[Option.some.injEq]at h;subst h
  simp only[VR]at hx;obtain⟨a',d',o,_,_,_,e⟩:=hx
  exact OpOK.same R (hnop _ e trivial) hunit
 ·rename_i r0
  split at h<;>(try(cases h;done))
  rename_i ks vs bs clock hg
  simp only[Option.some.injEq]at h;subst h
  simp only[VR]at hx;obtain⟨r',d',o,hF,e⟩:=hx;subst e
  obtain⟨b,es,hF2,hw,_⟩:=R.obj _ _ hg
  have hF3:=hF2
  rw[hF]at hF2;simp only[Option.some.injEq,Prod.mk.injEq]at hF2
  obtain⟨e1,_,_⟩:=hF2
  subst e1
  refine⟨F,.tuple #[],_,Nm.le_refl F,?_,hunit,R.setMap hF3 hg (es':=#[]) (clock':=clock) (by simp[VRL]) (by simp[VRL]) rfl⟩
  simp only[Builtin.clear_,ht,List.getElem?_toArray,List.getElem?_cons_zero,Sem.run_bind,run_underlying hu,Result.andThen_ok]
  cases d<;>simp only[Sem.run_bind,run_getMap hw,Result.andThen_ok,run_setMap _ hw]<;>rfl
 ·rename_i a n cap
  split at h<;>(try(cases h;done))
  rename_i elem
  split at h<;>(try(cases h;done))
  rename_i z vs e sz lo hz hsp hg
  split at h<;>(try(cases h;done))
  rename_i hc
  simp only[Bool.and_eq_true]at hc
  obtain⟨⟨hp,hle⟩,hcell⟩:=hc
  have hle:=Nat.le_of_ble_eq_true hle
  simp only[Option.some.injEq]at h;subst h
  simp only[VR]at hx;obtain⟨a',d',o,hF,h1,h2,e'⟩:=hx;subst e'
  have hzz:VRL F (aZeros z.cells.toList ((n+1)*z.cells.size)) (Builtin.zeroCells z.cells (n+1)).toList:=by
   unfold Builtin.zeroCells
   rw[aZeros_eq]
   exact(VRL.plain_eq _ _ (aZeros_plain (plain_cells hp) _)).2 rfl
  obtain⟨w',hr,R'⟩:=storeCells_ok (P:=P) _ _ 0 R ⟨d',o,hF,h1,h2⟩ hsp hg hcell (by omega) hzz
  refine⟨F,.tuple #[],w',Nm.le_refl F,?_,hunit,by simpa using R'⟩
  simp only[Builtin.clear_,ht,List.getElem?_toArray,List.getElem?_cons_zero,Sem.run_bind,run_underlying hu,Result.andThen_ok,run_zeroValue hz,hr]
  rfl
end
end
end Go.Abs
