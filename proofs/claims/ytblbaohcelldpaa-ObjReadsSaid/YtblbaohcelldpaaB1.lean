/- Every operation that runs no code, in one function: what it tells is what a run does. -/
import Derived.Test.YtblbaohcelldpaaZ1
set_option linter.all false
namespace Go.Abs
open Go
noncomputable section
section
variable {P:Program} {G:Nat} {F:Nm} {H:Heap} {w0:Base} {w:World}
def okOpd(G:Nat):Operand->Bool
 | .const v=>plain v
 | .global g=>Nat.blt g G
 |_=>true
structure Tm where
 t:Tr Value
 n:Nat
def Tm.get(ts:Tm)(i:Nat):Value:=match ts.t.get i with
 |some v=>v
 |none=>undef
def Tm.put(ts:Tm)(i:Nat)(v:Value):Tm:=match ts with
 |⟨t,n⟩=>match Nat.blt i n with
  |true=>⟨t.set i (some v),n⟩
  |false=>⟨t,n⟩
def TR(F:Nm)(ts:Tm)(tmps:Array Value):Prop:=tmps.size=ts.n/\∀i,VR F (ts.get i) (tmps.getD i undef)
theorem Tm.get_put(ts:Tm)(i:Nat)(v:Value)(j:Nat):(ts.put i v).get j=if j=i/\i<ts.n then v else ts.get j:=by
 obtain⟨t,n⟩:=ts
 simp only[Tm.put]
 cases h:Nat.blt i n with
 |true=>
  have h:i<n:=Nat.le_of_ble_eq_true h
  simp only[Tm.get,Tr.get_set]
  by_cases e:j=i
  ·simp[e,h]
  ·simp[e]
 |false=>
  have h:¬i<n:=fun hc=>by rw[show Nat.blt i n=true from Nat.ble_eq_true_of_le hc]at h;cases h
  simp[h]
theorem Tm.n_put(ts:Tm)(i:Nat)(v:Value):(ts.put i v).n=ts.n:=by obtain⟨t,n⟩:=ts;simp only[Tm.put];split<;>rfl
theorem VR.undef{F:Nm}:VR F undef undef:=(VR.plain_eq _ _ rfl).2 rfl
theorem TR.mono{F F':Nm}{ts:Tm}{tmps:Array Value}(h:TR F ts tmps)(hle:Nm.le F F'):TR F' ts tmps:=⟨h.1,fun i=>(h.2 i).mono hle⟩
theorem TR.put{F:Nm}{ts:Tm}{tmps:Array Value}(h:TR F ts tmps)(d:Nat){v v':Value}(hv:VR F v v'):TR F (ts.put d v) (tmps.setIfInBounds d v'):=by
 refine⟨by rw[Tm.n_put];simpa using h.1,fun i=>?_⟩
 rw[Tm.get_put,Array.getD_eq_getD_getElem?,Array.getElem?_setIfInBounds]
 by_cases e:i=d
 ·subst e
  by_cases hd:i<ts.n
  ·rw[if_pos ⟨rfl,hd⟩,if_pos rfl,if_pos (by rw[h.1];exact hd)];exact hv
  ·rw[if_neg (fun c=>hd c.2),if_pos rfl,if_neg (by rw[h.1];exact hd)]
   have:=h.2 i
   rw[Array.getD_eq_getD_getElem?,Array.getElem?_eq_none (by rw[h.1];omega)]at this
   exact this
 ·rw[if_neg (fun c=>e c.1),if_neg (fun c=>e c.symm)]
  have:=h.2 i
  rw[Array.getD_eq_getD_getElem?]at this;exact this
def trOf:List Value->Nat->Tr Value->Tr Value
 | [],_,t=>t
 |v::l,i,t=>trOf l (i+1) (t.set i (some v))
theorem trOf_get:∀(l:List Value) (k:Nat) (t:Tr Value) (j:Nat),(trOf l k t).get j=if k<=j/\j<k+l.length then l[j-k]? else t.get j
 | [],k,t,j=>by simp only[trOf,List.length_nil];rw[if_neg (by omega)]
 |v::l,k,t,j=>by
  simp only[trOf,trOf_get l (k+1),Tr.get_set,List.length_cons]
  by_cases e:j=k
  ·subst e
   rw[if_neg (by omega),if_pos rfl,if_pos (by omega)];simp
  ·by_cases h:k+1<=j/\j<k+1+l.length
   ·rw[if_pos h,if_pos (by omega)]
    have:j-k=(j-(k+1))+1:=by omega
    rw[this,List.getElem?_cons_succ]
   ·rw[if_neg h,if_neg e,if_neg (by omega)]
def Tm.of(args:List Value)(n:Nat):Tm:=⟨trOf args 0 .lf,args.length+(n-args.length)⟩
theorem TR.of{F:Nm}{args:List Value}{args':Array Value}(h:VRL F args args'.toList)(n:Nat):TR F (Tm.of args n) (args'++Array.replicate (n-args'.size) Go.undef):=by
 have hl:=h.length
 simp only[Array.length_toList]at hl
 refine⟨by simp[Tm.of,hl],fun i=>?_⟩
 have e:(Tm.of args n).get i=args.getD i Go.undef:=by
  simp only[Tm.get,Tm.of,trOf_get]
  by_cases hi:i<args.length
  ·rw[if_pos ⟨Nat.zero_le _,by omega⟩];simp[hi]
  ·rw[if_neg (by omega),Tr.get_lf];simp[List.getElem?_eq_none (Nat.le_of_not_lt hi)]
 rw[e,Array.getD_eq_getD_getElem?,Array.getElem?_append]
 by_cases hi:i<args.length
 ·rw[if_pos (by omega)]
  obtain⟨v',h1,h2⟩:=h.get (List.getElem?_eq_getElem hi)
  have h1':args'[i]?=some v':=by simpa using h1
  rw[h1',List.getD_eq_getElem?_getD,List.getElem?_eq_getElem hi];exact h2
 ·rw[if_neg (by omega),List.getD_eq_getElem?_getD,List.getElem?_eq_none (Nat.le_of_not_lt hi),Array.getElem?_replicate]
  split<;>exact VR.undef
def aev(ts:Tm):Operand->Value
 | .tmp t=>ts.get t
 | .const v=>v
 | .global g => .pointer (some ⟨g,0,none⟩)
 | .func f => .func (.func f) #[] #[]
theorem aev_ok(R:Rel G F H w0 w){ts:Tm}{a:Act}(ht:TR F ts a.tmps){x:Operand}(hx:okOpd G x=true):VR F (aev ts x) (a.eval x):=by
 cases x with
 |tmp t=>exact ht.2 t
 |const v=>exact(VR.plain_eq _ _ hx).2 rfl
 |global g=>
  have hg:g<G:=Nat.le_of_ble_eq_true hx
  simp only[aev,Act.eval,VR]
  exact⟨⟨g,0,none⟩,⟨0,0,R.glob g hg,rfl,rfl⟩,rfl⟩
 |func f=>
  simp only[aev,Act.eval]
  exact(VR.plain_eq _ _ rfl).2 rfl
def pOpd(ρ:Operand->Value):Option Operand->Option (Option Value)
 |none=>some none
 |some x=>match plain (ρ x)with
  |true=>some (some (ρ x))
  |false=>none
def aBuiltin(P:Program)(H:Heap)(b:Builtin)(argTypes:Array TypeId)(type:TypeId)(args:List Value):Option (Value×Heap):=
 match b with
 | .append=>aAppend P H argTypes args
 | .len=>match argTypes[0]?,args with
  |some t,x::_=>match aLen P t x with
   |some v=>some (v,H)
   |none=>(aLenM P H t x).map (·,H)
  |_,_=>none
 | .delete=>match argTypes[0]?,args with
  |some t,[m,k]=>aDelete P H t m k
  |_,_=>none
 | .clear=>match argTypes[0]?,args with
  |some t,[x]=>aClear P H t x
  |_,_=>none
 | .cap=>match argTypes[0]?,args with
  |some t,x::_=>(aCap P H t x).map (·,H)
  |_,_=>none
 | .copy=>match argTypes[0]?,args with
  |some t,[d,s]=>aCopy P H t d s
  |_,_=>none
 | .min=>match plainL args with
  |true=>(pureVal P (Builtin.min_ argTypes type args.toArray)).map (·,H)
  |false=>none
 | .max=>match plainL args with
  |true=>(pureVal P (Builtin.max_ argTypes type args.toArray)).map (·,H)
  |false=>none
 |_=>none
def aOpK:Op->Program->TypeId->(Operand->Value)->Heap->Option (Value×Heap)
 | .move x=>fun _ _ ρ H=>some (ρ x,H)
 | .assign x=>fun _ _ ρ H=>some (ρ x,H)
 | .pick c a b=>fun P T ρ H=>match ρ c with
  | .bool true=>some (ρ a,H)
  | .bool false=>some (ρ b,H)
  |_=>none
 | .alloc e=>fun P T ρ H=>match aZero P e with
  |some z=>match plain z with
   |true=>aNew P H e z.cells.toList
   |false=>none
  |none=>none
 | .box e x=>fun P T ρ H=>match isTop (ρ x)with
  |true=>none
  |false=>aNew P H e (ρ x).cells.toList
 | .build t parts=>fun P T ρ H=>(aBuild P t (parts.toList.map fun(i,x)=>(i,ρ x))).map (·,H)
 | .buildSlice t len parts=>fun P T ρ H=>aBuildSlice P H t len (parts.toList.map fun(i,x)=>(i,ρ x))
 | .load t a=>fun P T ρ H=>match ρ a with
  | .pointer (some ad)=>(aLoad P H t ad).map (·,H)
  |_=>none
 | .store t a x=>fun P T ρ H=>match ρ a with
  | .pointer (some ad)=>(aStore P H t ad (ρ x)).map (undef,·)
  |_=>none
 | .nilCheck x=>fun P T ρ H=>match ρ x with
  | .pointer (some a)=>some (.pointer (some a),H)
  | .iface t v=>match isMk t with
   |true=>none
   |false=>some (.iface t v,H)
  | .func (.func f) first captured=>some (.func (.func f) first captured,H)
  |_=>none
 | .binOp op t x y _=>fun P T ρ H=>(aBin P H op t x y (ρ x) (ρ y)).map (·,H)
 | .unOp op _ x=>fun P T ρ H=>match plain (ρ x)with
  |true=>(pureVal P (Op.unary op (ρ x))).map (·,H)
  |false=>none
 | .convert src dst x=>fun P T ρ H=>aConvert P H src dst (ρ x)
 | .makeInterface t x=>fun P T ρ H=>match P.underlying t with
  |some (.interface _)=>none
  |some _=>match isMk t with
   |true=>none
   |false=>some (.iface t (ρ x),H)
  |none=>none
 | .makeFunc fn first captured=>fun P T ρ H=>some (.func fn (first.map ρ) (captured.map ρ),H)
 | .makeSlice t l c=>fun P T ρ H=>match plain (ρ l)&&plain (ρ c)with
  |true=>aMakeSlice P H t (ρ l) (ρ c)
  |false=>none
 | .slice t x lo hi mx=>fun P T ρ H=>match pOpd ρ lo,pOpd ρ hi,pOpd ρ mx with
  |some lo,some hi,some mx=>aSlice P H t (ρ x) lo hi mx
  |_,_,_=>none
 | .fieldAddr s x f=>fun P T ρ H=>(aFieldAddr P s (ρ x) f).map (·,H)
 | .field t x f=>fun P T ρ H=>(aField P t (ρ x) f).map (·,H)
 | .indexAddr t x ix=>fun P T ρ H=>match plain (ρ ix)with
  |true=>(aIndexAddr P t (ρ x) (ρ ix)).map (·,H)
  |false=>none
 | .index t x ix=>fun P T ρ H=>match plain (ρ ix)with
  |true=>(aIndex P t (ρ x) (ρ ix)).map (·,H)
  |false=>none
 | .typeAssert x _ asserted ok=>fun P T ρ H=>(aTypeAssert P (ρ x) asserted ok).map (·,H)
 | .makeMap t r=>fun P T ρ H=>aMakeMap P H t (r.map ρ)
 | .lookup t x k ok=>fun P T ρ H=>(aLookup P H t (ρ x) (ρ k) ok).map (·,H)
 | .mapUpdate t m k x=>fun P T ρ H=>(aMapUpdate P H t (ρ m) (ρ k) (ρ x)).map (undef,·)
 | .insert t m k x=>fun P T ρ H=>(aMapUpdate P H t (ρ m) (ρ k) (ρ x)).map (undef,·)
 | .mapEntry t m k=>fun P T ρ H=>aMapEntry P H t (ρ m) (ρ k)
 | .entryStore t m s x=>fun P T ρ H=>(aEntryStore H (ρ m) (ρ s) (ρ x)).map (undef,·)
 | .extract t ix=>fun P T ρ H=>match ρ t with
  | .tuple vs=>vs[ix]?.map (·,H)
  |_=>none
 | .call {callee := .builtin b,args,argTypes}=>fun P T ρ H=>aBuiltin P H b argTypes T (args.toList.map ρ)
 |_=>fun P T ρ H=>none
def aDeep:Op->Program->(Operand->Value)->Heap->Option (Value×Heap)
 | .load t a=>fun P ρ H=>match ρ a with
  | .iface m (.agg ⟨cs⟩)=>match Nat.beq m mkP with
   |true=>(dLoad P t cs).map (·,H)
   |false=>none
  |_=>none
 | .fieldAddr s x f=>fun P ρ H=>match ρ x with
  | .iface m (.agg ⟨cs⟩)=>match Nat.beq m mkP with
   |true=>(dField P s cs f).map (·,H)
   |false=>none
  |_=>none
 | .indexAddr t x ix=>fun P ρ H=>match ρ x,ρ ix with
  | .iface m (.agg ⟨rows⟩),.int _ i=>match Nat.beq m mkD with
   |true=>(dIndex P t rows i).map (·,H)
   |false=>none
  | .iface m (.slice (some a) n c),.int k i=>match Nat.beq m mkM with
   |true=>(aIndexAddr P t (.slice (some a) n c) (.int k i)).map (·,H)
   |false=>none
  |_,_=>none
 | .slice t x lo hi mx=>fun P ρ H=>match pOpd ρ lo,pOpd ρ hi,pOpd ρ mx,ρ x with
  |some lo,some hi,some mx,.iface m (.agg ⟨rows⟩)=>match Nat.beq m mkD with
   |true=>(dSlice P t rows lo hi mx).map (·,H)
   |false=>none
  |_,_,_,_=>none
 | .convert src dst x=>fun P ρ H=>(dConv P H src dst (ρ x)).map (·,H)
 | .call {callee := .builtin .len,args,argTypes}=>fun P ρ H=>match argTypes[0]?,args.toList.map ρ with
  |some t,x::_=>match P.underlying t with
   |some (.slice _)=>(dLen x).map (Value.int .i64 ·,H)
   |_=>none
  |_,_=>none
 | .call {callee := .builtin .append,args,argTypes}=>fun P ρ H=>dApp P H argTypes (args.toList.map ρ)
 |_=>fun _ _ _=>none
def aOp(P:Program)(o:Oper)(ρ:Operand->Value)(H:Heap):Option (Value×Heap):=match aOpK o.op P o.type ρ H with
 |some r=>some r
 |none=>aDeep o.op P ρ H
def OpNext(P:Program)(G:Nat)(F:Nm)(w0:Base)(w:World)(s:Sem Next)(v:Value)(H':Heap):Prop:=
 ∃F' v' w' n,Nm.le F F'/\s.run P w = .ok n w'/\(n = .value v'∨(n = .skip/\v'=undef))/\VR F' v v'/\Rel G F' H' w0 w'
theorem OpOK.next{s:Sem Value}{v:Value}{H':Heap}(h:OpOK P G F w0 w s v H'):OpNext P G F w0 w (do Pure.pure (Next.value (←s))) v H':=by
 obtain⟨F',v',w',h1,h2,h3,h4⟩:=h
 exact⟨F',v',w',.value v',h1,by simp[h2],.inl rfl,h3,h4⟩
theorem OpNext.same(R:Rel G F H w0 w){s:Sem Value}{v v':Value}(h:s.run P w = .ok v' w)(hv:VR F v v'):OpNext P G F w0 w (do Pure.pure (Next.value (←s))) v H:=
 (OpOK.same R h hv).next
theorem PR_map{ρ ρ':Operand->Value}:∀(l:List (Nat×Operand)),(∀x∈l,VR F (ρ x.2) (ρ' x.2))->PR F (l.map fun(i,x)=>(i,ρ x)) (l.map fun(i,x)=>(i,ρ' x))
 | [],_=>rfl
 |(_,x)::l,h=>⟨ρ' x,_,h _ (List.mem_cons_self ..),PR_map l fun y hy=>h y (List.mem_cons_of_mem _ hy),rfl⟩
theorem VRL_map{ρ ρ':Operand->Value}:∀(l:List Operand),(∀x∈l,VR F (ρ x) (ρ' x))->VRL F (l.map ρ) (l.map ρ')
 | [],_=>by simp[VRL]
 |x::l,h=>by simp only[List.map_cons,VRL];exact⟨ρ' x,_,h _ (List.mem_cons_self ..),VRL_map l fun y hy=>h y (List.mem_cons_of_mem _ hy),rfl⟩
theorem pOpd_ok{ρ ρ':Operand->Value}{x:Option Operand}{r:Option Value}(h:pOpd ρ x=some r)(hx:∀y,x=some y->VR F (ρ y) (ρ' y)):x.map ρ'=r:=by
 unfold pOpd at h
 split at h
 ·simp only[Option.some.injEq]at h;subst h;rfl
 ·split at h<;>(try(cases h;done))
  rename_i hp
  simp only[Option.some.injEq]at h;subst h
  have:=hx _ rfl
  rw[VR.plain_eq _ _ hp]at this
  simp[this]
theorem aBuiltin_ok(R:Rel G F H w0 w){b:Builtin}{argTypes:Array TypeId}{type:TypeId}{consts:Array Bool}{args:List Value}{args':List Value}(hargs:VRL F args args'){r:Value×Heap}(h:aBuiltin P H b argTypes type args=some r):
  OpNext P G F w0 w (builtin b argTypes type consts args'.toArray) r.1 r.2:=by
 have hno:∀ {p:Prop},(none:Option (Value×Heap))=some r->p:=fun h=>by cases h
 cases b
 case append=>exact(aAppend_ok (P:=P) (t:=type) (args':=args'.toArray) R (by simpa using hargs) (show aAppend P H argTypes args=some r from h)).next
 case len=>
  replace h:(match (generalizing:=false) argTypes[0]?,args with|some t,x::_=>(match (generalizing:=false) aLen P t x with|some v=>some (v,H)|none=>(aLenM P H t x).map (·,H))|_,_=>none)=some r:=h
  split at h<;>(try(cases h;done))
  rename_i t x rest ht
  simp only[VRL]at hargs;obtain⟨x',r',g1,g2,g3⟩:=hargs
  subst g3
  split at h
  ·rename_i v hv
   simp only[Option.some.injEq]at h;subst h
   obtain⟨h1,h2⟩:=aLen_ok (P:=P) g1 hv argTypes ht type r' w
   exact OpNext.same R h1 h2
  ·simp only[Option.map_eq_some_iff]at h
   obtain⟨v,hv,e⟩:=h;subst e
   obtain⟨h1,h2⟩:=aLenM_ok (P:=P) R g1 hv argTypes ht type r'
   exact OpNext.same R h1 h2
 case clear=>
  replace h:(match (generalizing:=false) argTypes[0]?,args with|some t,[x]=>aClear P H t x|_,_=>none)=some r:=h
  split at h<;>(try(cases h;done))
  rename_i t x ht
  simp only[VRL]at hargs;obtain⟨x',r',g1,g2,g3⟩:=hargs
  subst g2;subst g3
  exact(aClear_ok (P:=P) R g1 h argTypes ht type).next
 case delete=>
  replace h:(match (generalizing:=false) argTypes[0]?,args with|some t,[m,k]=>aDelete P H t m k|_,_=>none)=some r:=h
  split at h<;>(try(cases h;done))
  rename_i t m k ht
  obtain⟨m',k',g1,g2,g3⟩:=hargs.two
  subst g1
  exact(aDelete_ok (P:=P) R g2 g3 h argTypes ht type).next
 case cap=>
  replace h:(match (generalizing:=false) argTypes[0]?,args with|some t,x::_=>(aCap P H t x).map (·,H)|_,_=>none)=some r:=h
  split at h<;>(try(cases h;done))
  rename_i t x rest ht
  simp only[Option.map_eq_some_iff]at h
  obtain⟨v,hv,e⟩:=h;subst e
  simp only[VRL]at hargs;obtain⟨x',r',g1,g2,g3⟩:=hargs
  subst g3
  obtain⟨h1,h2⟩:=aCap_ok (P:=P) R g1 hv argTypes ht type r'
  exact OpNext.same R h1 h2
 case copy=>
  replace h:(match (generalizing:=false) argTypes[0]?,args with|some t,[d,s]=>aCopy P H t d s|_,_=>none)=some r:=h
  split at h<;>(try(cases h;done))
  rename_i t d s ht
  obtain⟨d',s',g1,g2,g3⟩:=hargs.two
  subst g1
  exact(aCopy_ok (P:=P) R g2 g3 h argTypes ht type).next
 case min=>
  replace h:(match (generalizing:=false) plainL args with|true=>(pureVal P (Builtin.min_ argTypes type args.toArray)).map (·,H)|false=>none)=some r:=h
  split at h<;>(try(cases h;done))
  rename_i hp
  simp only[Option.map_eq_some_iff]at h
  obtain⟨v,hv,e⟩:=h;subst e
  rw[VRL.plain_eq _ _ hp]at hargs;subst hargs
  obtain⟨h1,h2⟩:=pureVal_ok (F:=F) hv w
  exact OpNext.same R h1 h2
 case max=>
  replace h:(match (generalizing:=false) plainL args with|true=>(pureVal P (Builtin.max_ argTypes type args.toArray)).map (·,H)|false=>none)=some r:=h
  split at h<;>(try(cases h;done))
  rename_i hp
  simp only[Option.map_eq_some_iff]at h
  obtain⟨v,hv,e⟩:=h;subst e
  rw[VRL.plain_eq _ _ hp]at hargs;subst hargs
  obtain⟨h1,h2⟩:=pureVal_ok (F:=F) hv w
  exact OpNext.same R h1 h2
 all_goals exact hno h
theorem aDeep_ok(R:Rel G F H w0 w){o:Oper}{ρ ρ':Operand->Value}(hρ:∀x∈o.op.operands,VR F (ρ x) (ρ' x)){r:Value×Heap}(h:aDeep o.op P ρ H=some r):
  OpNext P G F w0 w (execOp ρ' o) r.1 r.2:=by
 obtain⟨dst,op,type,pos,after,guard⟩:=o
 simp only at hρ h
 have hno:∀ {p:Prop},(none:Option (Value×Heap))=some r->p:=fun h=>by cases h
 cases op
 case load t a=>
  replace h:(match ρ a with | .iface m (.agg ⟨cs⟩)=>(match Nat.beq m mkP with|true=>(dLoad P t cs).map (·,H)|false=>none)|_=>none)=some r:=h
  have ha:=hρ a (by simp[Op.operands])
  split at h<;>(try(cases h;done))
  rename_i m cs e
  split at h<;>(try(cases h;done))
  rename_i hm
  have hm:=Nat.eq_of_beq_eq_true hm
  subst hm
  simp only[Option.map_eq_some_iff]at h
  obtain⟨v,hv,e2⟩:=h;subst e2
  rw[e]at ha
  obtain⟨ad,e3,v2,h1,h2⟩:=dLoad_ok (P:=P) R ha hv
  exact OpNext.same (s:=Instr.loadAt t (ρ' a)) R (by simp[Instr.loadAt,Instr.sureAddr,e3,h1]) h2
 case fieldAddr s x f=>
  replace h:(match ρ x with | .iface m (.agg ⟨cs⟩)=>(match Nat.beq m mkP with|true=>(dField P s cs f).map (·,H)|false=>none)|_=>none)=some r:=h
  have ha:=hρ x (by simp[Op.operands])
  split at h<;>(try(cases h;done))
  rename_i m cs e
  split at h<;>(try(cases h;done))
  rename_i hm
  have hm:=Nat.eq_of_beq_eq_true hm
  subst hm
  simp only[Option.map_eq_some_iff]at h
  obtain⟨v,hv,e2⟩:=h;subst e2
  rw[e]at ha
  obtain⟨v2,h1,h2⟩:=dField_ok (P:=P) ha hv w
  exact⟨F,v2,w,.value v2,Nm.le_refl F,by simp[execOp,h1],.inl rfl,h2,R⟩
 case indexAddr t x ix=>
  replace h:(match ρ x,ρ ix with | .iface m (.agg ⟨rows⟩),.int _ i=>(match Nat.beq m mkD with|true=>(dIndex P t rows i).map (·,H)|false=>none) | .iface m (.slice (some a) n c),.int k i=>(match Nat.beq m mkM with|true=>(aIndexAddr P t (.slice (some a) n c) (.int k i)).map (·,H)|false=>none)|_,_=>none)=some r:=h
  have ha:=hρ x (by simp[Op.operands])
  have hi:=hρ ix (by simp[Op.operands])
  split at h<;>(try(cases h;done))
  ·rename_i m rows k i e e'
   split at h<;>(try(cases h;done))
   rename_i hm
   have hm:=Nat.eq_of_beq_eq_true hm
   subst hm
   simp only[Option.map_eq_some_iff]at h
   obtain⟨v,hv,e2⟩:=h;subst e2
   rw[e]at ha;rw[e']at hi;simp only[VR]at hi
   obtain⟨v2,h1,h2⟩:=dIndex_ok (P:=P) (k:=k) ha hv w
   exact⟨F,v2,w,.value v2,Nm.le_refl F,by simp[execOp,hi,h1],.inl rfl,h2,R⟩
  ·rename_i m a n c k i e e'
   split at h<;>(try(cases h;done))
   rename_i hm
   have hm:=Nat.eq_of_beq_eq_true hm
   subst hm
   simp only[Option.map_eq_some_iff]at h
   obtain⟨v,hv,e2⟩:=h;subst e2
   rw[e]at ha;rw[e']at hi;simp only[VR]at hi
   obtain⟨v2,h1,h2⟩:=mIndex_ok (P:=P) (k:=k) ha hv w
   exact⟨F,v2,w,.value v2,Nm.le_refl F,by simp[execOp,hi,h1],.inl rfl,h2,R⟩
 case slice t x lo hi mx=>
  replace h:(match pOpd ρ lo,pOpd ρ hi,pOpd ρ mx,ρ x with|some lo,some hi,some mx,.iface m (.agg ⟨rows⟩)=>(match Nat.beq m mkD with|true=>(dSlice P t rows lo hi mx).map (·,H)|false=>none)|_,_,_,_=>none)=some r:=h
  have ha:=hρ x (by simp[Op.operands])
  split at h<;>(try(cases h;done))
  rename_i lo' hi' mx' m rows e1 e2 e3 e
  split at h<;>(try(cases h;done))
  rename_i hm
  have hm:=Nat.eq_of_beq_eq_true hm
  subst hm
  simp only[Option.map_eq_some_iff]at h
  obtain⟨v,hv,e4⟩:=h;subst e4
  rw[e]at ha
  have q1:=pOpd_ok e1 (fun y hy=>hρ y (by simp[Op.operands,hy]))
  have q2:=pOpd_ok e2 (fun y hy=>hρ y (by simp[Op.operands,hy]))
  have q3:=pOpd_ok e3 (fun y hy=>hρ y (by simp[Op.operands,hy]))
  obtain⟨v2,h1,h2⟩:=dSlice_ok (P:=P) ha hv w
  exact⟨F,v2,w,.value v2,Nm.le_refl F,by simp[execOp,q1,q2,q3,h1],.inl rfl,h2,R⟩
 case convert src d x=>
  replace h:(dConv P H src d (ρ x)).map (·,H)=some r:=h
  have ha:=hρ x (by simp[Op.operands])
  simp only[Option.map_eq_some_iff]at h
  obtain⟨v,hv,e2⟩:=h;subst e2
  obtain⟨v2,h1,h2⟩:=dConv_ok (P:=P) R ha hv
  exact⟨F,v2,w,.value v2,Nm.le_refl F,by simp[execOp,h1],.inl rfl,h2,R⟩
 case call c=>
  obtain⟨callee,args,argTypes⟩:=c
  cases callee
  case builtin b=>
   cases b<;>try(exact hno h)
   case len=>
    replace h:(match argTypes[0]?,args.toList.map ρ with|some t,x::_=>(match P.underlying t with|some (.slice _)=>(dLen x).map (Value.int .i64 ·,H)|_=>none)|_,_=>none)=some r:=h
    split at h<;>(try(cases h;done))
    rename_i t x rest ht hargs
    split at h<;>(try(cases h;done))
    rename_i el hu
    simp only[Option.map_eq_some_iff]at h
    obtain⟨n,hn,e2⟩:=h;subst e2
    have hm:=VRL_map (F:=F) (ρ:=ρ) (ρ':=ρ') args.toList (fun y hy=>hρ y (by simp only[Op.operands,Call.operands,Array.mem_append];exact .inr (by simpa using hy)))
    rw[hargs]at hm
    simp only[VRL]at hm
    obtain⟨x',r',g1,g2,g3⟩:=hm
    obtain⟨a,k,c,e3,e4⟩:=dLen_ok g1 hn
    subst e3;subst e4
    have hrun:(Builtin.len_ argTypes type (args.map ρ')).run P w = .ok (.int .i64 k) w:=by
     have e5:args.map ρ'=(Value.slice a k c::r').toArray:=by apply Array.ext';simpa using g3
     rw[e5]
     simp[Builtin.len_,ht,run_underlying hu,goInt]
    exact OpNext.same (v := .int .i64 k) (s:=Builtin.len_ argTypes type (args.map ρ')) R hrun (by simp[VR])
   case append=>
    replace h:dApp P H argTypes (args.toList.map ρ)=some r:=h
    have hm:=VRL_map (F:=F) (ρ:=ρ) (ρ':=ρ') args.toList (fun y hy=>hρ y (by simp only[Op.operands,Call.operands,Array.mem_append];exact .inr (by simpa using hy)))
    have:=(dApp_ok (P:=P) (t:=type) (args':=args.map ρ') R (by simpa using hm) h).next
    exact this
  case value f=>exact hno h
  case invoke f m=>exact hno h
 all_goals exact hno h
theorem aOp_ok(R:Rel G F H w0 w){o:Oper}{ρ ρ':Operand->Value}(hρ:∀x∈o.op.operands,VR F (ρ x) (ρ' x)){r:Value×Heap}(h:aOp P o ρ H=some r):
  OpNext P G F w0 w (execOp ρ' o) r.1 r.2:=by
 unfold aOp at h
 split at h
 case h_2=>exact aDeep_ok R hρ h
 rename_i r0 h0
 simp only[Option.some.injEq]at h
 have h:aOpK o.op P o.type ρ H=some r:=by rw[h0,h]
 clear h0
 obtain⟨dst,op,type,pos,after,guard⟩:=o
 simp only at hρ h
 have hno:∀ {p:Prop},(none:Option (Value×Heap))=some r->p:=fun h=>by cases h
 cases op
 case move x=>
  replace h:some (ρ x,H)=some r:=h
  simp only[Option.some.injEq]at h;subst h
  exact⟨F,_,w,_,Nm.le_refl F,rfl,.inl rfl,hρ _ (by simp[Op.operands]),R⟩
 case assign x=>
  replace h:some (ρ x,H)=some r:=h
  simp only[Option.some.injEq]at h;subst h
  exact⟨F,_,w,_,Nm.le_refl F,rfl,.inl rfl,hρ _ (by simp[Op.operands]),R⟩
 case pick c a b=>
  replace h:(match ρ c with | .bool true=>some (ρ a,H) | .bool false=>some (ρ b,H)|_=>none)=some r:=h
  have hc:=hρ c (by simp[Op.operands])
  split at h<;>(try(cases h;done))<;>rename_i e<;>simp only[Option.some.injEq]at h<;>subst h<;>rw[e]at hc<;>simp only[VR]at hc
  ·exact⟨F,ρ' a,w,.value (ρ' a),Nm.le_refl F,by simp[execOp,hc,asBool],.inl rfl,hρ a (by simp[Op.operands]),R⟩
  ·exact⟨F,ρ' b,w,.value (ρ' b),Nm.le_refl F,by simp[execOp,hc,asBool],.inl rfl,hρ b (by simp[Op.operands]),R⟩
 case alloc e=>
  replace h:(match aZero P e with|some z=>(match plain z with|true=>aNew P H e z.cells.toList|false=>none)|none=>none)=some r:=h
  split at h<;>(try(cases h;done))
  rename_i z hz
  split at h<;>(try(cases h;done))
  rename_i hp
  obtain⟨F',v',w',h1,h2,h3,h4⟩:=aNew_ok (P:=P) R (c:=z.cells) (((VR.plain_eq (F:=F) z z hp).2 rfl).cells (plain_top hp)) h
  exact OpOK.next (s:=Instr.alloc e true (.tuple #[])) ⟨F',v',w',h1,by simpa [Instr.alloc,run_zeroValue hz,newVar]using h2,h3,h4⟩
 case box e x=>
  replace h:(match isTop (ρ x)with|true=>none|false=>aNew P H e (ρ x).cells.toList)=some r:=h
  split at h<;>(try(cases h;done))
  rename_i htop
  obtain⟨F',v',w',h1,h2,h3,h4⟩:=aNew_ok (P:=P) R (c:=(ρ' x).cells) ((hρ x (by simp[Op.operands])).cells htop) (show aNew P H e (ρ x).cells.toList=some r from h)
  exact OpOK.next (s:=Instr.box e (ρ' x)) ⟨F',v',w',h1,by simpa [Instr.box,newVar]using h2,h3,h4⟩
 case build t parts=>
  replace h:(aBuild P t (parts.toList.map fun(i,x)=>(i,ρ x))).map (·,H)=some r:=h
  simp only[Option.map_eq_some_iff]at h
  obtain⟨v,hv,e⟩:=h;subst e
  have key:∀Q:Array (Nat×Value),PR F (parts.toList.map fun(i,x)=>(i,ρ x)) Q.toList->OpNext P G F w0 w (do Pure.pure (Next.value (←Instr.build t Q))) v H:=by
   intro Q hQ
   obtain⟨v',h1,h2⟩:=aBuild_ok (P:=P) (F:=F) hQ hv w
   exact OpNext.same (s:=Instr.build t Q) R h1 h2
  have hp:=PR_map (F:=F) (ρ:=ρ) (ρ':=ρ') parts.toList fun y hy=>hρ _ (by simp only[Op.operands,List.mem_toArray,List.mem_map];exact⟨y,hy,rfl⟩)
  simp only[execOp]
  refine key _ ?_
  rw[Array.toList_map]
  exact hp
 case buildSlice t len parts=>
  replace h:aBuildSlice P H t len (parts.toList.map fun(i,x)=>(i,ρ x))=some r:=h
  have key:∀Q:Array (Nat×Value),PR F (parts.toList.map fun(i,x)=>(i,ρ x)) Q.toList->OpNext P G F w0 w (do Pure.pure (Next.value (←Instr.buildSlice t len Q))) r.1 r.2:=by
   intro Q hQ
   exact(aBuildSlice_ok (P:=P) R hQ h).next
  have hp:=PR_map (F:=F) (ρ:=ρ) (ρ':=ρ') parts.toList fun y hy=>hρ _ (by simp only[Op.operands,List.mem_toArray,List.mem_map];exact⟨y,hy,rfl⟩)
  simp only[execOp]
  refine key _ ?_
  rw[Array.toList_map]
  exact hp
 case load t a=>
  replace h:(match ρ a with | .pointer (some ad)=>(aLoad P H t ad).map (·,H)|_=>none)=some r:=h
  have ha:=hρ a (by simp[Op.operands])
  split at h<;>(try(cases h;done))
  rename_i ad e
  rw[e]at ha;simp only[VR]at ha;obtain⟨ad',har,e'⟩:=ha
  simp only[Option.map_eq_some_iff]at h
  obtain⟨v,hv,e2⟩:=h;subst e2
  obtain⟨v',h1,h2⟩:=aLoad_ok (P:=P) R har hv
  exact OpNext.same (s:=Instr.loadAt t (ρ' a)) R (by simp[Instr.loadAt,Instr.sureAddr,e',h1]) h2
 case store t a x=>
  replace h:(match ρ a with | .pointer (some ad)=>(aStore P H t ad (ρ x)).map (undef,·)|_=>none)=some r:=h
  have ha:=hρ a (by simp[Op.operands])
  split at h<;>(try(cases h;done))
  rename_i ad e
  rw[e]at ha;simp only[VR]at ha;obtain⟨ad',har,e'⟩:=ha
  simp only[Option.map_eq_some_iff]at h
  obtain⟨H2,hv,e2⟩:=h;subst e2
  obtain⟨w',h1,h2⟩:=aStore_ok (P:=P) R har (hρ x (by simp[Op.operands])) hv
  refine⟨F,undef,w',.skip,Nm.le_refl F,?_,.inr ⟨rfl,rfl⟩,(VR.plain_eq _ _ rfl).2 rfl,h2⟩
  show(do Instr.storeAt t (ρ' a) (ρ' x);pure Next.skip:Sem Next).run P w=_
  simp[Instr.storeAt,Instr.sureAddr,e',h1]
 case nilCheck x=>
  replace h:(match ρ x with | .pointer (some a)=>some (.pointer (some a),H) | .iface t v=>(match isMk t with|true=>none|false=>some (.iface t v,H)) | .func (.func f) first captured=>some (.func (.func f) first captured,H)|_=>none)=some r:=h
  have hx:=hρ x (by simp[Op.operands])
  have hg:∀v',ρ' x=v'->(match v' with | .pointer (some _) | .iface _ _ | .func (.func _) _ _=>True|_=>False)->execOp ρ' ⟨dst,.nilCheck x,type,pos,after,guard⟩=pure (.value v'):=by
   intro v' e hm
   simp only[execOp,e]
   split at hm<;>first|exact hm.elim|rfl
  split at h<;>(try(cases h;done))<;>rename_i e
  case h_2=>
   split at h
   ·cases h
   rename_i hm
   simp only[Option.some.injEq]at h
   subst h;rw[e]at hx
   have hx0:=hx
   obtain⟨a',_,e'⟩:=hx.iface_real hm;rw[e']at hx0
   rw[hg _ e' trivial]
   exact⟨F,_,w,_,Nm.le_refl F,rfl,.inl rfl,hx0,R⟩
  all_goals(simp only[Option.some.injEq]at h;subst h;rw[e]at hx;have hx0:=hx;simp only[VR]at hx)
  ·obtain⟨a',_,e'⟩:=hx;rw[e']at hx0
   rw[hg _ e' trivial]
   exact⟨F,_,w,_,Nm.le_refl F,rfl,.inl rfl,hx0,R⟩
  ·obtain⟨f',c',_,_,e'⟩:=hx;rw[e']at hx0
   rw[hg _ e' trivial]
   exact⟨F,_,w,_,Nm.le_refl F,rfl,.inl rfl,hx0,R⟩
 case binOp op t x y yt=>
  replace h:(aBin P H op t x y (ρ x) (ρ y)).map (·,H)=some r:=h
  simp only[Option.map_eq_some_iff]at h
  obtain⟨v,hv,e⟩:=h;subst e
  obtain⟨v',h1,h2⟩:=aBin_ok (P:=P) R x y (hρ x (by simp[Op.operands])) (hρ y (by simp[Op.operands])) hv
  exact OpNext.same (s:=do eqGuard op t x y (ρ' x) (ρ' y);binOp op t (ρ' x) (ρ' y)) R h1 h2
 case unOp op t x=>
  replace h:(match plain (ρ x)with|true=>(pureVal P (Op.unary op (ρ x))).map (·,H)|false=>none)=some r:=h
  split at h<;>(try(cases h;done))
  rename_i hp
  simp only[Option.map_eq_some_iff]at h
  obtain⟨v,hv,e⟩:=h;subst e
  have hx:=hρ x (by simp[Op.operands])
  rw[VR.plain_eq _ _ hp]at hx
  obtain⟨h1,h2⟩:=pureVal_ok (F:=F) hv w
  exact OpNext.same (s:=Op.unary op (ρ' x)) R (by rw[hx];exact h1) h2
 case convert src d x=>exact(aConvert_ok (P:=P) R (hρ x (by simp[Op.operands])) (show aConvert P H src d (ρ x)=some r from h)).next
 case makeInterface t x=>
  replace h:(match P.underlying t with|some (.interface _)=>none|some _=>(match isMk t with|true=>none|false=>some (.iface t (ρ x),H))|none=>none)=some r:=h
  split at h<;>(try(cases h;done))
  rename_i d hni hu
  split at h<;>(try(cases h;done))
  rename_i hm
  simp only[Option.some.injEq]at h;subst h
  refine OpNext.same (s:=Instr.makeInterface t (ρ' x)) R (v' := .iface t (ρ' x)) ?_ ((hρ x (by simp[Op.operands])).iface_mk hm)
  cases d<;>first|exact absurd rfl (hni _)|simp[Instr.makeInterface,run_underlying hu]
 case makeFunc fn first captured=>
  replace h:some (Value.func fn (first.map ρ) (captured.map ρ),H)=some r:=h
  simp only[Option.some.injEq]at h;subst h
  refine OpNext.same (s:=Instr.makeFunc fn (first.map ρ') (captured.map ρ')) R (v' := .func fn (first.map ρ') (captured.map ρ')) (by simp[Instr.makeFunc]) ?_
  simp only[VR]
  refine⟨_,_,VRA.ofL ?_,VRA.ofL ?_,rfl⟩
  ·simp only[Array.toList_map];exact VRL_map _ fun y hy=>hρ y (by simp only[Op.operands,Array.mem_append];exact .inl (by simpa using hy))
  ·simp only[Array.toList_map];exact VRL_map _ fun y hy=>hρ y (by simp only[Op.operands,Array.mem_append];exact .inr (by simpa using hy))
 case makeSlice t l c=>
  replace h:(match plain (ρ l)&&plain (ρ c)with|true=>aMakeSlice P H t (ρ l) (ρ c)|false=>none)=some r:=h
  split at h<;>(try(cases h;done))
  rename_i hp
  simp only[Bool.and_eq_true]at hp
  have hl:=hρ l (by simp[Op.operands])
  have hc:=hρ c (by simp[Op.operands])
  rw[VR.plain_eq _ _ hp.1]at hl;rw[VR.plain_eq _ _ hp.2]at hc
  have:=(aMakeSlice_ok (P:=P) R h).next
  rw[←hl,←hc]at this
  exact this
 case slice t x lo hi mx=>
  replace h:(match pOpd ρ lo,pOpd ρ hi,pOpd ρ mx with|some lo,some hi,some mx=>aSlice P H t (ρ x) lo hi mx|_,_,_=>none)=some r:=h
  split at h<;>(try(cases h;done))
  rename_i lo2 hi2 mx2 e1 e2 e3
  have:=(aSlice_ok (P:=P) R (hρ x (by simp[Op.operands])) h).next
  rw[←pOpd_ok (F:=F) (ρ':=ρ') e1 fun y hy=>hρ y (by simp[Op.operands,hy]),←pOpd_ok (F:=F) (ρ':=ρ') e2 fun y hy=>hρ y (by simp[Op.operands,hy]),←pOpd_ok (F:=F) (ρ':=ρ') e3 fun y hy=>hρ y (by simp[Op.operands,hy])]at this
  exact this
 case fieldAddr s x f=>
  replace h:(aFieldAddr P s (ρ x) f).map (·,H)=some r:=h
  simp only[Option.map_eq_some_iff]at h
  obtain⟨v,hv,e⟩:=h;subst e
  obtain⟨v',h1,h2⟩:=aFieldAddr_ok (P:=P) (hρ x (by simp[Op.operands])) hv w
  exact OpNext.same (s:=Instr.fieldAt s (ρ' x) f) R h1 h2
 case field t x f=>
  replace h:(aField P t (ρ x) f).map (·,H)=some r:=h
  simp only[Option.map_eq_some_iff]at h
  obtain⟨v,hv,e⟩:=h;subst e
  obtain⟨v',h1,h2⟩:=aField_ok (P:=P) (hρ x (by simp[Op.operands])) hv w
  exact OpNext.same (s:=Instr.field t (ρ' x) f) R h1 h2
 case indexAddr t x ix=>
  replace h:(match plain (ρ ix)with|true=>(aIndexAddr P t (ρ x) (ρ ix)).map (·,H)|false=>none)=some r:=h
  split at h<;>(try(cases h;done))
  rename_i hp
  simp only[Option.map_eq_some_iff]at h
  obtain⟨v,hv,e⟩:=h;subst e
  have hi:=hρ ix (by simp[Op.operands])
  rw[VR.plain_eq _ _ hp]at hi
  obtain⟨v',h1,h2⟩:=aIndexAddr_ok (P:=P) (hρ x (by simp[Op.operands])) hv w
  rw[←hi]at h1
  exact OpNext.same (s:=Instr.indexAt t (ρ' x) (ρ' ix)) R h1 h2
 case index t x ix=>
  replace h:(match plain (ρ ix)with|true=>(aIndex P t (ρ x) (ρ ix)).map (·,H)|false=>none)=some r:=h
  split at h<;>(try(cases h;done))
  rename_i hp
  simp only[Option.map_eq_some_iff]at h
  obtain⟨v,hv,e⟩:=h;subst e
  have hi:=hρ ix (by simp[Op.operands])
  rw[VR.plain_eq _ _ hp]at hi
  obtain⟨v',h1,h2⟩:=aIndex_ok (P:=P) (hρ x (by simp[Op.operands])) hv w
  rw[←hi]at h1
  exact OpNext.same (s:=Instr.index t (ρ' x) (ρ' ix)) R h1 h2
 case typeAssert x xt asserted ok=>
  replace h:(aTypeAssert P (ρ x) asserted ok).map (·,H)=some r:=h
  simp only[Option.map_eq_some_iff]at h
  obtain⟨v,hv,e⟩:=h;subst e
  obtain⟨v',h1,h2⟩:=aTypeAssert_ok (P:=P) (xType:=xt) (hρ x (by simp[Op.operands])) hv w
  exact OpNext.same (s:=Instr.typeAssert (ρ' x) xt asserted ok) R h1 h2
 case makeMap t x=>
  have e:(x.map ρ').map (fun _=>())=(x.map ρ).map (fun _=>()):=by cases x<;>rfl
  have hx:aMakeMap P H t (x.map ρ')=some r:=by
   have h:aMakeMap P H t (x.map ρ)=some r:=h
   cases x with
   |none=>exact h
   |some y=>
    have hy:=hρ y (by simp[Op.operands])
    simp only[Option.map_some]at h ⊢
    generalize hg:ρ y=a at h hy
    unfold aMakeMap at h
    split at h
    ·rename_i hn;cases hn
    ·rename_i k n hs
     simp only[Option.some.injEq]at hs;subst hs
     simp only[VR]at hy;rw[hy];exact h
    ·cases h
  exact(aMakeMap_ok (P:=P) R hx).next
 case lookup t x k ok=>
  replace h:(aLookup P H t (ρ x) (ρ k) ok).map (·,H)=some r:=h
  simp only[Option.map_eq_some_iff]at h
  obtain⟨v,hv,e⟩:=h;subst e
  obtain⟨v',h1,h2⟩:=aLookup_ok (P:=P) R (hρ x (by simp[Op.operands])) (hρ k (by simp[Op.operands])) hv
  exact OpNext.same (s:=Instr.lookup t (ρ' x) (ρ' k) ok) R h1 h2
 case mapUpdate t m k x=>
  replace h:(aMapUpdate P H t (ρ m) (ρ k) (ρ x)).map (undef,·)=some r:=h
  simp only[Option.map_eq_some_iff]at h
  obtain⟨H2,hv,e2⟩:=h;subst e2
  obtain⟨w',h1,h2⟩:=aMapUpdate_ok (P:=P) R (hρ m (by simp[Op.operands])) (hρ k (by simp[Op.operands])) (hρ x (by simp[Op.operands])) hv
  refine⟨F,undef,w',.skip,Nm.le_refl F,?_,.inr ⟨rfl,rfl⟩,(VR.plain_eq _ _ rfl).2 rfl,h2⟩
  show(do Instr.mapUpdate t (ρ' m) (ρ' k) (ρ' x);pure Next.skip:Sem Next).run P w=_
  simp[h1]
 case insert t m k x=>
  replace h:(aMapUpdate P H t (ρ m) (ρ k) (ρ x)).map (undef,·)=some r:=h
  simp only[Option.map_eq_some_iff]at h
  obtain⟨H2,hv,e2⟩:=h;subst e2
  obtain⟨w',h1,h2⟩:=aMapUpdate_ok (P:=P) R (hρ m (by simp[Op.operands])) (hρ k (by simp[Op.operands])) (hρ x (by simp[Op.operands])) hv
  refine⟨F,undef,w',.skip,Nm.le_refl F,?_,.inr ⟨rfl,rfl⟩,(VR.plain_eq _ _ rfl).2 rfl,h2⟩
  show(do Instr.mapUpdate t (ρ' m) (ρ' k) (ρ' x);pure Next.skip:Sem Next).run P w=_
  simp[h1]
 case mapEntry t m k=>exact(aMapEntry_ok (P:=P) R (hρ m (by simp[Op.operands])) (hρ k (by simp[Op.operands])) (show aMapEntry P H t (ρ m) (ρ k)=some r from h)).next
 case entryStore t m s x=>
  replace h:(aEntryStore H (ρ m) (ρ s) (ρ x)).map (undef,·)=some r:=h
  simp only[Option.map_eq_some_iff]at h
  obtain⟨H2,hv,e2⟩:=h;subst e2
  obtain⟨w',h1,h2⟩:=aEntryStore_ok (P:=P) (t:=t) R (hρ m (by simp[Op.operands])) (hρ s (by simp[Op.operands])) (hρ x (by simp[Op.operands])) hv
  refine⟨F,undef,w',.skip,Nm.le_refl F,?_,.inr ⟨rfl,rfl⟩,(VR.plain_eq _ _ rfl).2 rfl,h2⟩
  show(do Instr.entryStore t (ρ' m) (ρ' s) (ρ' x);pure Next.skip:Sem Next).run P w=_
  simp[h1]
 case extract t ix=>
  replace h:(match ρ t with | .tuple vs=>vs[ix]?.map (·,H)|_=>none)=some r:=h
  have ht:=hρ t (by simp[Op.operands])
  split at h<;>(try(cases h;done))
  rename_i vs e
  rw[e]at ht;simp only[VR]at ht;obtain⟨vs',hvs,e'⟩:=ht
  simp only[Option.map_eq_some_iff]at h
  obtain⟨v,hv,e2⟩:=h;subst e2
  obtain⟨v',h1,h2⟩:=hvs.toL.get (by simpa using hv:vs.toList[ix]?=some v)
  have h1':vs'[ix]?=some v':=by simpa using h1
  exact OpNext.same (s:=Instr.extract (ρ' t) ix) R (by simp[Instr.extract,e',h1']) h2
 case call c=>
  obtain⟨callee,args,argTypes⟩:=c
  cases callee
  case builtin b=>
   have hargs:VRL F (args.toList.map ρ) (args.toList.map ρ'):=
    VRL_map _ fun y hy=>hρ y (by simp only[Op.operands,Call.operands,Array.mem_append];exact .inr (by simpa using hy))
   have hlist:args.map ρ'=(args.toList.map ρ').toArray:=by apply Array.ext';simp
   have:=aBuiltin_ok (P:=P) (consts:=args.map fun | .const _=>true|_=>false) R hargs (show aBuiltin P H b argTypes type (args.toList.map ρ)=some r from h)
   rw[←hlist]at this
   exact this
  case value f=>exact hno h
  case invoke f m=>exact hno h
 all_goals exact hno h
end
end
end Go.Abs
