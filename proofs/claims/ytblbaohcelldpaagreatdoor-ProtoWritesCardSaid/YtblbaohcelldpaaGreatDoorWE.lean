/- . -/
import Derived.Test.YtblbaohcelldpaaGreatDoorT15
import Derived.WalkKit
import Derived.ProofKit
import Derived.OpenShut
import Derived.Carry
import Derived.Deep.Slices
import Derived.Deep.Fields
import Derived.SizedLaws
import Derived.Test.YtblbaohcelldpaaGreatDoorS4
import Derived.Test.YtblbaohcelldpaaGreatDoorS5
set_option linter.all false
set_option maxRecDepth 100000
namespace Go.Abs
open Go Go.ChangeShapes Go.WideShapes Go.ChangeAt Go.RowKit Go.Deep
inductive CK
 |int (k:IntKind)
 |str
 |bool
 |sl (t:TypeId)
def xE(P:Program)(rec:TypeId->Option (List CK)):Nat->List Field->Option (List CK)
 |_,[]=>some []
 |off,f::fs=>match Nat.beq f.offset off,rec f.type with
  |true,some l=>match Nat.beq l.length (P.cellsOf f.type),xE P rec (off+l.length) fs with
   |true,some l'=>some (l++l')
   |_,_=>none
  |_,_=>none
def flatK(P:Program):Nat->TypeId->Option (List CK)
 | 0,_=>none
 |d+1,t=>match P.underlying t with
  |some (.int k)=>some [.int k]
  |some .bool=>some [.bool]
  |some .string=>some [.str]
  |some (.slice _)=>some [.sl t]
  |some (.struct fs)=>match xE P (flatK P d) 0 fs.toList with
   |some l=>match Nat.beq l.length (P.cellsOf t)with
    |true=>some l
    |false=>none
   |none=>none
  |_=>none
section
variable {H:Type} (enc:TypeId×Value->H) (P:Program) (W:World) (base:Nat) (spare:Nat->Bool) (held:Bool)
def AN5:CK->Value->Prop
 | .int k,v=>∃z,v = .int k z/\(Lit.int k z).wf=true
 | .str,v=>∃s:ByteArray,v = .string s/\s.size<=maxLen
 | .bool,v=>∃b,v = .bool b
 | .sl t,v=>∃fuel x,DataW.trod enc P W base spare held fuel t [v]=some x/\∀n∈x.1.weights P t,n<=reachBytes
def GA:List CK->List Value->Prop
 | [],vs=>vs=[]
 |k::ks,vs=>∃v r,vs=v::r/\AN5 enc P W base spare held k v/\GA ks r
variable {enc P W base spare held}
theorem GA.append:∀ {ks ks':List CK} {vs vs':List Value},GA enc P W base spare held ks vs->GA enc P W base spare held ks' vs'->GA enc P W base spare held (ks++ks') (vs++vs')
 | [],ks',vs,vs',h,h'=>by simp only[GA]at h;subst h;exact h'
 |k::ks,ks',vs,vs',⟨v,r,e,h1,h2⟩,h'=>by subst e;exact⟨v,r++vs',rfl,h1,h2.append h'⟩
theorem xG{n:Nat}{rec:TypeId->Option (List CK)}{cs:List Value}
  (hrec:∀t ks,rec t=some ks->∀fuel cs x,DataW.trod enc P W base spare held fuel t cs=some x->(∀n∈x.1.weights P t,n<=reachBytes)->GA enc P W base spare held ks cs):
  ∀(gs:List Field) (ys:List (DataW H×List MemPlace)) (off:Nat) (ks:List CK),xE P rec off gs=some ks->ys.length=gs.length->
   (∀(i:Nat) (f:Field),gs[i]?=some f->DataW.trod enc P W base spare held n f.type ((cs.drop f.offset).take (P.cellsOf f.type))=ys[i]?)->
   (∀m∈DataW.weightsEach P (gs.map (·.type)) (ys.map (·.1)),m<=reachBytes)->GA enc P W base spare held ks ((cs.drop off).take ks.length)
 | [],ys,off,ks,h,hl,ht,hw=>by simp only[xE,Option.some.injEq]at h;subst h;simp[GA]
 |f::gs,[],off,ks,h,hl,ht,hw=>by simp at hl
 |f::gs,y::ys,off,ks,h,hl,ht,hw=>by
  unfold xE at h
  split at h
  ·rename_i l ho hr
   split at h
   ·rename_i l' hlen hr'
    simp only[Option.some.injEq]at h;subst h
    have ho:=Nat.eq_of_beq_eq_true ho
    have hlen:=Nat.eq_of_beq_eq_true hlen
    have h0:=ht 0 f rfl
    rw[ho,←hlen]at h0
    have hw0:∀m∈y.1.weights P f.type,m<=reachBytes:=fun m hm=>hw m (by simp only[List.map_cons,DataW.weightsEach,List.mem_append];exact .inl hm)
    have r1:=hrec _ _ hr n _ y (by simpa using h0) hw0
    have r2:=xG hrec gs ys (off+l.length) l' hr' (by simpa using hl) (fun i g hg=>by simpa using ht (i+1) g (by simpa using hg))
     (fun m hm=>hw m (by simp only[List.map_cons,DataW.weightsEach,List.mem_append];exact .inr hm))
    rw[List.length_append,List.take_add,List.drop_drop]
    exact r1.append r2
   ·cases h
  ·cases h
theorem iG:∀(d:Nat) (t:TypeId) (ks:List CK),flatK P d t=some ks->∀fuel cs x,DataW.trod enc P W base spare held fuel t cs=some x->(∀n∈x.1.weights P t,n<=reachBytes)->GA enc P W base spare held ks cs
 | 0,t,ks,h=>by cases h
 |d+1,t,ks,h=>by
  intro fuel cs x hx hw
  unfold flatK at h
  split at h
  ·rename_i k hu
   simp only[Option.some.injEq]at h;subst h
   obtain⟨z,e,_,hwf⟩:=DataW.trod_int hu hx
   exact⟨_,[],e,⟨z,rfl,hwf⟩,rfl⟩
  ·rename_i hu
   simp only[Option.some.injEq]at h;subst h
   obtain⟨b,e,_⟩:=DataW.trod_bool hu hx
   exact⟨_,[],e,⟨b,rfl⟩,rfl⟩
  ·rename_i hu
   simp only[Option.some.injEq]at h;subst h
   obtain⟨s,e,_,hs⟩:=DataW.trod_string hu hx
   exact⟨_,[],e,⟨s,rfl,hs⟩,rfl⟩
  ·rename_i e' hu
   simp only[Option.some.injEq]at h;subst h
   rcases open_slice hu hx with⟨e,_⟩ | ⟨a,len,cap,m,n,D,Pl,e,_⟩
   ·subst e;exact⟨_,[],rfl,⟨fuel,x,hx,hw⟩,rfl⟩
   ·subst e;exact⟨_,[],rfl,⟨fuel,x,hx,hw⟩,rfl⟩
  ·rename_i fs hu
   split at h
   ·rename_i l hl
    split at h
    ·rename_i hlen
     simp only[Option.some.injEq]at h;subst h
     have hlen:=Nat.eq_of_beq_eq_true hlen
     obtain⟨xs,n,_,ex,hcl,hxl,hf⟩:=DataW.trod_struct hu hx
     subst ex
     have:=xG (cs:=cs) (n:=n) (fun t ks h=>iG d t ks h) fs.toList xs 0 l hl (by simpa using hxl) (fun i f hi=>hf i f (by simpa using hi)) (fun m hm=>hw m (by simp only[DataW.weights,hu];exact hm))
     rw[List.drop_zero,hlen,←hcl,List.take_length]at this
     exact this
    ·cases h
   ·cases h
  ·cases h
end
noncomputable section
def jP(W:World):Nm:=⟨fun n=>if n<100 then some (n,0,0)else none,AOn W⟩
theorem AGG(W:World)(ht:AD6 W):Rel 100 (jP W) (hOf 100 [] []) (AGu W ht) W:=by
 have hno:∀m o',(hOf 100 [] []).get m≠some o':=by
  intro m o' h
  obtain⟨_,h2,_⟩:=Y9 h
  simp only[List.length_nil]at h2;omega
 constructor
 ·intro n o h;exact absurd h (hno n o)
 ·intro n m o o' h;exact absurd h (hno n o)
 ·intro n hn
  have hn:100+0<=n:=hn
  show(if n<100 then some (n,0,0)else none)=none
  rw[if_neg (by omega)]
 ·intro g hg
  show(if g<100 then some (g,0,0)else none)=_
  rw[if_pos hg]
 ·exact Nat.le_refl _
 ·intro i _;rfl
 ·intro b i v hz
  refine⟨?_,fun n o h=>absurd h (hno n o)⟩
  have hz:(match W.heap[b]? with|some (.cells c _ _)=>c[i]? | _=>none)=some v:=hz
  split at hz
  ·rename_i c t fz hw;exact⟨c,t,fz,hw,hz,fun hn=>absurd (Array.getElem?_eq_some_iff.1 hw).1 hn⟩
  ·cases hz
 ·intro b i v hz _;exact hz
 ·rfl
 ·rfl
 ·rfl
theorem ANw{W:World}{b i:Nat}{v:Value}(h:W.cell? ⟨b,i,none⟩=some v):(jP W).z b i=some v:=by
 show(match W.heap[b]? with|some (.cells c _ _)=>c[i]? | _=>none)=some v
 unfold World.cell? at h
 split at h
 ·rename_i c t fz hw
  rw[hw]
  simpa using h
 ·cases h
theorem AAG{H:Type}{P:Program}{e:TypeId}{d:DataW H}{n:Nat}(hn:n∈d.weights P e):∀ {l:List (DataW H)},d∈l->n∈DataW.weightsAll P e l
 | [],h=>by cases h
 |x::l,h=>by
  simp only[DataW.weightsAll,List.mem_append]
  rcases List.mem_cons.1 h with e|h
  ·subst e;exact .inl hn
  ·exact .inr (AAG hn h)
theorem tH{H:Type}{enc:TypeId×Value->H}{P:Program}{W:World}{base:Nat}{spare:Nat->Bool}{held:Bool}:∀ {ks:List CK} {cs:List Value},GA enc P W base spare held ks cs->cs.length=ks.length
 | [],cs,h=>by simp only[GA]at h;subst h;rfl
 |k::ks,cs,⟨v,r,e,_,h2⟩=>by subst e;simp[tH h2]
theorem OW{H:Type}{enc:TypeId×Value->H}{P:Program}{W:World}{t e:TypeId}{ks:List CK}{d:Nat}(hu:P.underlying t=some (.slice e))(he:flatK P d e=some ks)(hc:P.cellsOf e=ks.length)(hpos:0<ks.length)
  (hby:0<P.bytesOf e) (hpl:∀cs,GA enc P W 0 (fun _=>true) true ks cs->DV cs=true) {v:Value} (h:AN5 enc P W 0 (fun _=>true) true (.sl t) v):
  ∃AY:List (List Value),(∀r∈AY,GA enc P W 0 (fun _=>true) true ks r)/\AY.length<=140737488355328/\VR (jP W) (.iface mkD (.agg ⟨AY.map fun r => .agg ⟨r⟩⟩)) v:=by
 obtain⟨fuel,x,hx,hw⟩:=h
 rcases open_slice hu hx with⟨e0,_⟩ | ⟨a,len,cap,m,n,D,Pl,hcs,hb,hl,hm,hmm,hxx,hi⟩
 ·simp only[List.cons.injEq,and_true]at e0
  subst e0
  exact⟨[],fun r hr=>(by cases hr),by simp,VR.D_nil _ _⟩
 ·simp only[List.cons.injEq,and_true]at hcs
  subst hcs
  simp only[if_true]at hmm
  subst hmm
  have hweights:∀k∈(len+(m-len))*P.bytesOf e::(DataW.weightsAll P e ((List.range len).map D)++DataW.weightsAll P e ((List.range (m-len)).map fun j=>D (len+j))),k<=reachBytes:=by
   intro k hk
   refine hw k ?_
   rw[hxx]
   simp only[DataW.weights,hu,List.length_map,List.length_range]
   exact hk
  have hcap:m<=140737488355328:=by
   have h1:=hweights _ (List.mem_cons_self ..)
   rw[show len+(m-len)=m by omega]at h1
   have h2:m*1<=m*P.bytesOf e:=Nat.mul_le_mul_left m hby
   unfold reachBytes at h1
   omega
  rw[hc]at hi
  have hrow:∀i,i<len->∃r:List Value,GA enc P W 0 (fun _=>true) true ks r/\∀j,j<ks.length->W.cell? ((a.add (i*ks.length)).add j)=r[j]?:=by
   intro i hil
   obtain⟨cs',hc1,hc2⟩:=hi i (by omega)
   obtain⟨_,_,hat⟩:=World.cells?_some hc1
   have hD:∀k∈(D i).weights P e,k<=reachBytes:=by
    intro k hk
    exact hweights k (List.mem_cons_of_mem _ (List.mem_append.2 (.inl (AAG hk (List.mem_map.2 ⟨i,List.mem_range.2 hil,rfl⟩)))))
   exact⟨cs',iG d e _ he _ _ _ hc2 hD,hat⟩
  rcases Nat.eq_zero_or_pos len with c|c
  ·subst c
   exact⟨[],fun r hr=>(by cases hr),by simp,VR.D_nil _ _⟩
  ·have hsp:a.spot=none:=by
    obtain⟨r,hr,hx0⟩:=hrow 0 c
    have h0:=hx0 0 hpos
    have hrl:=tH hr
    cases hs:a.spot with
    |none=>rfl
    |some z=>
     have e1:(a.add (0*ks.length)).add 0=a:=by simp[Addr.add]
     rw[e1]at h0
     have:W.cell? a=none:=by
      unfold World.cell?;split
      ·simp[hs]
      ·rfl
     rw[this]at h0
     have:r[0]?≠none:=by rw[List.getElem?_eq_getElem (by omega)];simp
     exact absurd h0.symm this
   obtain⟨blk,o,sp⟩:=a
   simp only at hsp;subst hsp
   simp only[Addr.add_none]at hrow
   let f:Nat->List Value:=fun i=>if h:i<len then Classical.choose (hrow i h)else[]
   have hfs:∀i,i<len->GA enc P W 0 (fun _=>true) true ks (f i)/\∀j,j<ks.length->W.cell? ⟨blk,o+i*ks.length+j,none⟩=(f i)[j]?:=by
    intro i hi'
    have:f i=Classical.choose (hrow i hi'):=by simp only[f,dif_pos hi']
    rw[this];exact Classical.choose_spec (hrow i hi')
   have hlen:((List.range len).map f).length=len:=by simp
   refine⟨(List.range len).map f,fun r hr=>?_,by rw[hlen];omega,?_⟩
   ·obtain⟨i,h1,rfl⟩:=List.mem_map.1 hr
    exact(hfs i (List.mem_range.1 h1)).1
   ·have hpl2:DV (((List.range len).map f).map fun r=>Value.agg ⟨r⟩)=true:=by
     have key:∀l:List (List Value),(∀r∈l,DV r=true)->DV (l.map fun r=>Value.agg ⟨r⟩)=true:=by
      intro l
      induction l with
      |nil=>intro _;rfl
      |cons r l ih=>
       intro h
       simp only[List.map_cons,DV,plain,PU,Bool.and_eq_true]
       exact⟨h r (List.mem_cons_self ..),ih fun r hr=>h r (List.mem_cons_of_mem _ hr)⟩
     refine key _ fun r hr=>?_
     obtain⟨i,h1,rfl⟩:=List.mem_map.1 hr
     exact hpl _ (hfs i (List.mem_range.1 h1)).1
    have hl2:(((List.range len).map f).map fun r=>Value.agg ⟨r⟩).length=len:=by simp
    have:=VR.D_mk (F:=jP W) (AY:=((List.range len).map f).map fun r=>Value.agg ⟨r⟩) (rows':=((List.range len).map f).map fun r=>Value.agg ⟨r⟩) (a:=⟨blk,o,none⟩) (c:=m) (sz:=ks.length) ((VRL.plain_eq _ _ hpl2).2 rfl) (by rw[hl2];exact hl) rfl hpos (fun i r hr=>by
     rw[List.getElem?_map,List.getElem?_map]at hr
     cases hri:(List.range len)[i]? with
     |none=>rw[hri]at hr;cases hr
     |some k=>
      rw[hri]at hr
      simp only[Option.map_some,Option.some.injEq]at hr
      have hik:i<len:=by
       have:=(List.getElem?_eq_some_iff.1 hri).1
       simpa using this
      rw[List.getElem?_range hik]at hri
      simp only[Option.some.injEq]at hri;subst hri
      obtain⟨h1,h2⟩:=hfs i hik
      have hfl:=tH h1
      refine⟨f i,hr.symm,hfl,fun j y hj=>ANw ?_⟩
      have hjl:j<ks.length:=by rw[←hfl];exact(List.getElem?_eq_some_iff.1 hj).1
      rw[h2 j hjl,hj])
    rw[hl2]at this
    exact this
theorem AEq{P:Program}{f:FuncId}{args:List Value}{args':Array Value}{H':Heap}{W:World}{ht:AD6 W}(hc:BM P 100 (AGu W ht) f args (hOf 100 [] []) (.returned (.bool true)) H')(ha:VRL (jP W) args args'.toList):
  Calls P f args' W fun e w'=>e = .returned (.bool true)/\Below W.heap.size W w':=by
 refine(hc (jP W) W args' (AGG W ht) ha).mono fun e' w' ⟨F',h1,h2,R'⟩=>?_
 simp only[EnR]at h2
 obtain⟨v',h3,h4⟩:=h2
 simp only[VR]at h3
 subst h3
 exact⟨h4,R'.os,R'.tape,R'.out,R'.base,fun k hk=>R'.frame k hk⟩
theorem CP{F:Nm}{v v':Value}{l l':List Value}(h:VR F v v')(h':VRL F l l'):VRL F (v::l) (v'::l'):=by simp only[VRL];exact⟨_,_,h,h',rfl⟩
theorem AI5{F:Nm}:VRL F [] []:=by simp only[VRL]
theorem EO{F:Nm}{k:IntKind}{n:Int}:VR F (.int k n) (.int k n):=by simp only[VR]
theorem wB{F:Nm}{s:ByteArray}:VR F (.string s) (.string s):=by simp only[VR]
theorem AKX{F:Nm}{s:Bool}:VR F (.bool s) (.bool s):=by simp only[VR]
theorem ANi{F:Nm}{l l':List Value}(h:VRL F l l'):VR F (.agg ⟨l⟩) (.agg ⟨l'⟩):=VR.ofAggL h
theorem wf_u8{z:Int}(h:(Lit.int .u8 z).wf=true):∃m:Nat,z=m/\m<256:=by
 simp[Lit.wf,IntKind.min,IntKind.max,IntKind.signed,IntKind.bits]at h
 exact⟨z.toNat,by omega,by omega⟩
theorem wf_u32{z:Int}(h:(Lit.int .u32 z).wf=true):∃m:Nat,z=m/\m<4294967296:=by
 simp[Lit.wf,IntKind.min,IntKind.max,IntKind.signed,IntKind.bits]at h
 exact⟨z.toNat,by omega,by omega⟩
theorem wf_u64{z:Int}(h:(Lit.int .u64 z).wf=true):∃m:Nat,z=m/\m<18446744073709551616:=by
 simp[Lit.wf,IntKind.min,IntKind.max,IntKind.signed,IntKind.bits]at h
 exact⟨z.toNat,by omega,by omega⟩
theorem YB{α:Type}{c:α->List Value}{wf:α->Prop}{AY:List (List Value)}(h:∀r∈AY,∃x:α,r=c x/\wf x):∃l:List α,AY=l.map c/\∀x∈l,wf x:=by
 induction AY with
 |nil=>exact⟨[],rfl,fun x hx=>by cases hx⟩
 |cons r AY ih=>
  obtain⟨x,rfl,hx⟩:=h r (List.mem_cons_self ..)
  obtain⟨l,rfl,hl⟩:=ih fun r hr=>h r (List.mem_cons_of_mem _ hr)
  refine⟨x::l,rfl,fun y hy=>?_⟩
  rcases List.mem_cons.1 hy with rfl|hy
  ·exact hx
  ·exact hl y hy
end
end Go.Abs
namespace Go.Abs
open Go
noncomputable section
section
variable {G:Nat}
theorem VRL.at{F:Nm}:∀ {l l':List Value},VRL F l l'->∀(i:Nat) v,l[i]?=some v->∃v',l'[i]?=some v'/\VR F v v'
 | [],l',h,i,v,hi=>by simp at hi
 |a::l,l',h,i,v,hi=>by
  simp only[VRL]at h
  obtain⟨b,r,h1,h2,e⟩:=h
  subst e
  cases i with
  |zero=>simp only[List.getElem?_cons_zero,Option.some.injEq]at hi;subst hi;exact⟨b,rfl,h1⟩
  |succ i=>simpa using VRL.at h2 i v (by simpa using hi)
theorem VRL.of_at{F:Nm}:∀ {l l':List Value},l'.length=l.length->(∀(i:Nat) v v',l[i]?=some v->l'[i]?=some v'->VR F v v')->VRL F l l'
 | [],l',hl,_=>by
  have:l'=[]:=List.eq_nil_of_length_eq_zero hl
  subst this;simp only[VRL]
 |a::l,[],hl,_=>by simp at hl
 |a::l,b::l',hl,h=>by
  simp only[VRL]
  exact⟨b,l',h 0 a b rfl rfl,VRL.of_at (by simpa using hl) (fun i v v' h1 h2=>h (i+1) v v' (by simpa using h1) (by simpa using h2)),rfl⟩
theorem VR.tupL{F:Nm}{cs:List Value}{v':Value}(h:VR F (.tuple ⟨cs⟩) v'):∃cs':List Value,v' = .tuple ⟨cs'⟩/\VRL F cs cs':=by
 simp only[VR]at h
 obtain⟨⟨cs'⟩,h1,e⟩:=h
 simp only[VRA]at h1
 exact⟨cs',e,h1⟩
theorem VR.ofTupL{F:Nm}{cs cs':List Value}(h:VRL F cs cs'):VR F (.tuple ⟨cs⟩) (.tuple ⟨cs'⟩):=by
 simp only[VR]
 exact⟨⟨cs'⟩,by simp only[VRA];exact h,rfl⟩
theorem AAM{n0:Nat}{cs cs':List Value}{AC objs':List (Option AA)}(h:Wk G n0 cs AC cs' objs'):Wk G n0 [.tuple ⟨cs⟩] AC [.tuple ⟨cs'⟩] objs':=by
 refine⟨rfl,fun B F w R=>?_⟩
 obtain⟨F',h1,h2,h3⟩:=h.2 B F w R
 refine⟨F',h1,h2,fun i v v' x e1 e2 hx=>?_⟩
 cases i with
 |succ i=>simp at e1
 |zero=>
  simp only[List.getElem?_cons_zero,Option.some.injEq]at e1 e2
  subst e1;subst e2
  obtain⟨xs,rfl,hl⟩:=hx.tupL
  refine VR.ofTupL (VRL.of_at (by rw[hl.length,h.1]) fun i v v' g1 g2=>?_)
  have hlt:i<cs.length:=by rw[←h.1];exact(List.getElem?_eq_some_iff.1 g1).1
  obtain⟨y,k1,k2⟩:=hl.at i cs[i] (List.getElem?_eq_getElem hlt)
  rw[g2]at k1;simp only[Option.some.injEq]at k1;subst k1
  exact h3 i _ v _ (List.getElem?_eq_getElem hlt) g1 k2
theorem AAJ:∀ {l:List Value} (j:Nat) {v v':Value},l[j]?=some v->FZ v v'->DT l (l.set j v')
 | [],j,v,v',h,_=>by simp at h
 |a::l,0,v,v',h,hw=>by simp only[List.getElem?_cons_zero,Option.some.injEq]at h;subst h;exact .cons hw (DT.refl _)
 |a::l,j+1,v,v',h,hw => .cons (.refl _) (AAJ j (by simpa using h) hw)
theorem JY{n0:Nat}(j i:Nat){AB:List Value}{AC:List (Option AA)}{AY vs:List Value}{n e size:Nat}(hj:AB[j]?=some (.iface mkM (.slice (some ⟨G+i,0,none⟩) n n)))(ho:AC[i]?=some (mo vs e size))(hf:DI size AY=some vs)(hb:BL 0 vs=true)(hs:0<size)(hn:n=AY.length):
  Wk G n0 AB AC (AB.set j (.iface mkD (.agg ⟨AY⟩))) (AC.set i none):=by
 subst hn
 cases AY with
 |nil=>
  simp only[DI,Option.some.injEq]at hf
  subst hf
  have hset:AC.set i none=AC:=by
   apply List.ext_getElem?
   intro k
   rw[List.getElem?_set]
   split
   ·rename_i hik
    subst hik
    rw[ho]
    have hlt:i<AC.length:=(List.getElem?_eq_some_iff.1 ho).1
    rw[if_pos hlt];rfl
   ·rfl
  rw[hset]
  exact EX (AAJ j hj .emptyMD) (F5.refl _)
 |cons r AY=>
  have hvs:vs≠[]:=by
   intro e
   subst e
   have:=QA hf
   simp only[List.length_nil,List.length_cons]at this
   rcases Nat.mul_eq_zero.1 this.symm with h|h<;>omega
  rw[J4 hvs]at ho
  refine rA ho hf hb hs (by simp) (fun k v v' h1 h2=>?_)
  by_cases e:k=j
  ·subst e
   rw[hj]at h1;simp only[Option.some.injEq]at h1;subst h1
   rw[List.getElem?_set_self (List.getElem?_eq_some_iff.1 hj).1]at h2
   simp only[Option.some.injEq]at h2;subst h2
   exact .inr ⟨rfl,(r::AY).length,Nat.le_refl _,.inr ⟨rfl,by simp⟩⟩
  ·rw[List.getElem?_set_ne (fun h=>e h.symm),h1]at h2
   simp only[Option.some.injEq]at h2
   exact .inl h2.symm
end
section
variable {P:Program}
theorem BX{src dst:TypeId}{ks kd k:IntKind}{m:Nat}{K:Int->Prop}(hs:P.underlying src=some (.int ks))(hd:P.underlying dst=some (.int kd))(hw:kd.wrap (m:Int)=(m:Int))(hk:K (m:Int)):(real P).conv src dst k (m:Int) kd K:=
 VI hs hd (by rw[hw];exact hk)
theorem BG{m:Nat}(h:m<9223372036854775808):IntKind.i64.wrap (m:Int)=(m:Int):=by simp[IntKind.wrap,IntKind.signed,IntKind.bits];omega
def J6(K:Value->Prop):Res->Prop
 | .en (.returned v) _ h=>match Nat.ble 100 h.next&&below 100 v with
  |true=>K v
  |false=>False
 |_=>False
theorem kQ(hP:D8 P 100=true){W:How}(hkn:OM P 100 W)(hlp:SN P 100 W){f:FuncId}{args:List Value}{v:Value}{n:Nat}(ha:BL 100 args=true)
  (h:Is (wpe P (real P) W n (.call f args (hOf 100 [] [])) (J6 fun v'=>v'=v))) (B:Base) (H:Heap):BM P 100 B f args H (.returned v) H:=by
 obtain⟨r,h1,h2⟩:=ZN hP hkn hlp n _ _ h.out
 unfold J6 at h2
 split at h2
 ·rename_i v' u h'
  split at h2
  ·rename_i hc
   simp only[Bool.and_eq_true]at hc
   subst h2
   exact QG (fun B=>IM (ins:=[]) (TB (Nat.le_of_ble_eq_true hc.1) (h1 B)) (LB (by simp only[BL,hc.2];rfl))) ha hc.2 B H
  ·exact h2.elim
 ·exact h2.elim
end
end
end Go.Abs
namespace Go.Abs
open Go
noncomputable section
section
variable {P:Program}
def AGt(n0:Nat):List (Option AA)->Bool
 | []=>true
 |o::l=>EC n0 o&&AGt n0 l
theorem sH{n0:Nat}:∀ {l:List (Option AA)},AGt n0 l=true->∀(i:Nat) o,l[i]?=some (some o)->EC n0 (some o)=true
 | [],_,i,o,h=>by simp at h
 |x::l,hb,0,o,h=>by
  simp only[AGt,Bool.and_eq_true]at hb
  simp only[List.getElem?_cons_zero,Option.some.injEq]at h;subst h;exact hb.1
 |x::l,hb,i+1,o,h=>by
  simp only[AGt,Bool.and_eq_true]at hb
  exact sH hb.2 i o (by simpa using h)
theorem map_none{α β:Type}:∀ {l:List α} {m:List β},l.length=m.length->(l.map fun _=>(none:Option AA))=m.map fun _=>none
 | [],[],_=>rfl
 |a::l,b::m,h=>by simp only[List.map_cons,map_none (l:=l) (m:=m) (by simpa using h)]
end
end
end Go.Abs
namespace Go.Abs
open Go
noncomputable section
section
variable {P:Program} {G:Nat} {B:Base}
theorem IR.nilD{z z':Nat->Nat->Option Value}{x v':Value}(hx:x = .agg ⟨[]⟩)(h:IR z mkD x v'):IR z' mkD x v':=by
 unfold IR at h ⊢
 simp only[show OX mkD=true from rfl]at h ⊢
 rcases h with⟨_,AY,e,h⟩ | ⟨e,_⟩ | ⟨e,_⟩
 ·subst hx
  simp only[Value.agg.injEq,Array.mk.injEq]at e;subst e
  refine .inl ⟨trivial,[],rfl,?_⟩
  rcases h with h|⟨a,c,sz,e3,e3',e4,e5,h2⟩
  ·exact .inl h
  ·exact .inl ⟨rfl,some a,c,e3⟩
 ·cases e
 ·cases e
theorem Rel.withTab{F:Nm}{w:World}(R:Rel G F (hOf G [] []) B w){g:Nat}{vs:List Value}(hg:TT g=some vs)(hG:g<G)(hp:DV vs=true)(e sz:Nat):Rel G F (hOf G [(g,.cells vs e sz true false)] []) B w:=by
 obtain⟨t,fz,hw⟩:=R.tabW g vs hg
 have hget:∀n o,(hOf G [(g,.cells vs e sz true false)] []).get n=some o->n=g/\o = .cells vs e sz true false:=by
  intro n o h
  rw[J8]at h
  split at h
  ·rename_i h2;simp only[List.length_nil]at h2;omega
  ·have:=j5 _ _ _ h
   simp only[List.mem_cons,Prod.mk.injEq,List.not_mem_nil,or_false]at this
   exact this
 constructor
 ·intro n o h
  obtain⟨rfl,rfl⟩:=hget n o h
  refine⟨n,0,0,vs.toArray,fz,R.glob n hG,⟨t,hw,fun h=>by cases h⟩,?_,by simp,(fun h=>by cases h),(fun h=>by cases h)⟩
  rw[List.drop_zero,List.toList_toArray,List.take_length]
  exact(VRL.plain_eq _ _ hp).2 rfl
 ·intro n m o o' h _ _ how
  obtain⟨rfl,rfl⟩:=hget n o h
  cases how
 ·exact R.fresh
 ·exact R.glob
 ·exact R.base
 ·exact R.frame
 ·intro b i v hz
  refine⟨(R.froz b i v hz).1,fun n o h how=>?_⟩
  obtain⟨rfl,rfl⟩:=hget n o h
  cases how
 ·exact R.zprot
 ·exact R.os
 ·exact R.out
 ·exact R.tape
theorem AAC{f:FuncId}{args:List Value}{en:Ending}{H':Heap}{g:Nat}{vs:List Value}{e sz:Nat}(hg:TT g=some vs)(hG:g<G)(hp:DV vs=true)
  (h:∀B,BM P G B f args (hOf G [(g,.cells vs e sz true false)] []) en H') (B:Base):BM P G B f args (hOf G [] []) en H':=by
 intro F w args' R ha
 exact h B F w args' (R.withTab hg hG hp e sz) ha
theorem AMQ(hP:D8 P 100=true){W:How}(hkn:OM P 100 W)(hlp:SN P 100 W){f:FuncId}{args:List Value}{v:Value}{n:Nat}{g:Nat}{vs:List Value}{e sz:Nat}(hg:TT g=some vs)(hp:DV vs=true)(ha:BL 100 args=true)
  (h:Is (wpe P (real P) W n (.call f args (hOf 100 [(g,.cells vs e sz true false)] [])) (J6 fun v'=>v'=v))) (B:Base) (H:Heap):BM P 100 B f args H (.returned v) H:=by
 obtain⟨r,h1,h2⟩:=ZN hP hkn hlp n _ _ h.out
 unfold J6 at h2
 split at h2
 ·rename_i v' u h'
  split at h2
  ·rename_i hc
   simp only[Bool.and_eq_true]at hc
   subst h2
   exact QG (fun B=>IM (ins:=[]) (TB (Nat.le_of_ble_eq_true hc.1) (AAC hg (XK hg) hp h1 B)) (LB (by simp only[BL,hc.2];rfl))) ha hc.2 B H
  ·exact h2.elim
 ·exact h2.elim
theorem AA5{f:FuncId}{args:List Value}{H H':Heap}{e:Ending}(h:BM P G B f args H e H'):BM P G B f args H e (hOf G [] (GJ G H')):=by
 intro F w args' R ha
 refine(h F w args' R ha).mono fun e' w' ⟨F',h1,h2,R'⟩=>⟨F',h1,h2,R'.part (fun n o hn=>?_) ?_⟩
 ·rw[J8]at hn
  split at hn
  ·rename_i hr
   rw[QV]at hn
   split at hn
   ·simp only[Option.getD_some]at hn
    rw[←hn];congr 1;omega
   ·cases hn
  ·simp only[dJ,Tr.get_lf]at hn;cases hn
 ·have:=R'.next_le
  simp only[hOf,ZC];omega
theorem AKR(hP:D8 P 100=true){f n g:Nat}{vs:List Value}{e sz:Nat}(hg:TT g=some vs)(hp:DV vs=true)(h:vR (ev P (fun _=>none) n (.call f [] (hOf 100 [(g,.cells vs e sz true false)] [])))=true)(B:Base)(H:Heap):
  BM P 100 B f [] H (.returned (.bool true)) H:=by
 unfold vR at h
 split at h
 ·rename_i u h' h2
  exact QG (fun B=>IM (ins:=[]) (AA5 (AAC hg (XK hg) hp (fun B=>nX hP AHZ n B _ _ h2) B)) (LB rfl)) rfl rfl B H
 ·cases h
end
end
end Go.Abs
namespace Go.Proofs.Ob
open Go Go.Abs Go.Tlv
noncomputable section
end
end Go.Proofs.Ob
namespace Go.Proofs.Ob
open Go Go.Abs Go.Tlv
noncomputable section
end
end Go.Proofs.Ob
namespace Go.Proofs.Ob
open Go Go.Abs Go.Tlv
noncomputable section
abbrev Z0:Sy:=fun _=>none
abbrev Zp:Nat->Bool:=fun _=>false
def rdC(s:ByteArray)(b:Bool):AA := .cells [.string s,.bool b] 244 2 false true
def hR(s:ByteArray):Heap:=hOf 100 [] [some (rdC s false)]
end
end Go.Proofs.Ob
namespace Go.Tlv
open Go Go.Abs
structure iU{α:Type}(step:α->At->Option α)(z:α)(l:List At)(x:α)(i:Nat):Prop where
 le:i<=l.length
 eq:run step z l=run step x (l.drop i)
section
variable {α:Type} {step:α->At->Option α} {z:α} {l:List At} {x:α} {i:Nat}
theorem iU.one(inv:iU step z l x i){a:At}(ha:l[i]?=some a):run step z l=match step x a with
  |some y=>run step y (l.drop (i+1))
  |none=>none:=by
 have hlt:i<l.length:=(List.getElem?_eq_some_iff.1 ha).1
 have h2:=List.drop_eq_getElem_cons hlt
 rw[List.getElem?_eq_getElem hlt]at ha
 simp only[Option.some.injEq]at ha
 rw[inv.eq,h2,ha]
 rfl
theorem iU.next(inv:iU step z l x i){a:At}{y:α}(ha:l[i]?=some a)(hs:step x a=some y):iU step z l y (i+1):=
 ⟨(List.getElem?_eq_some_iff.1 ha).1,by rw[inv.one ha,hs]⟩
theorem iU.bad(inv:iU step z l x i){a:At}(ha:l[i]?=some a)(hs:step x a=none):run step z l=none:=by rw[inv.one ha,hs]
theorem iU.last(inv:iU step z l x i)(h:l.length<=i):run step z l=some x:=by
 rw[inv.eq,List.drop_eq_nil_of_le h];rfl
end
end Go.Tlv
namespace Go.Proofs.Ob
open Go Go.Abs Go.Tlv
noncomputable section
theorem ZF{a b:FuncId×(List Value->(Value->Prop)->Prop)}(h1:FY Tryz.prog 100 a.1 a.2)(h2:FY Tryz.prog 100 b.1 b.2):∀x∈[a,b],FY Tryz.prog 100 x.1 x.2:=fun x hx=>by
 simp only[List.mem_cons,List.not_mem_nil,or_false]at hx
 rcases hx with rfl|rfl
 ·exact h1
 ·exact h2
end
end Go.Proofs.Ob
namespace Go.Tlv
open Go Go.Abs
theorem qK{α β:Type}{f:α->Option β}{l:List α}{i:Nat}{y:α}{acc:List β}{x:β}(h:l[i]?=some y)(h1:M7 f (l.take i)=some acc)(h2:f y=some x):M7 f (l.take (i+1))=some (acc++[x]):=by
 rw[List.take_add_one,h,zQ,h1]
 simp[M7,h2]
structure Got{α:Type}(rd:List UInt8->Option α)(b0:Bool)(l:List ByteArray)(b:Bool)(acc:List α)(i:Nat):Prop where
 le:i<=l.length
 len:acc.length=i
 well:b=false->b0=false/\M7 (fun s=>rd s.data.toList) (l.take i)=some acc
 bad:b=true->b0=true∨M7 (fun s=>rd s.data.toList) l=none
theorem Got.next{α:Type}{rd:List UInt8->Option α}{b0 b:Bool}{l:List ByteArray}{acc:List α}{i:Nat}(h:Got rd b0 l b acc i){y:ByteArray}{x:α}(hy:l[i]?=some y)(hx:rd y.data.toList=some x):Got rd b0 l b (acc++[x]) (i+1):=
 ⟨(List.getElem?_eq_some_iff.1 hy).1,by simp[h.len],fun hb=>⟨(h.well hb).1,qK hy (h.well hb).2 hx⟩,h.bad⟩
end Go.Tlv
namespace Go.Proofs.Ob
open Go Go.Abs Go.Tlv
noncomputable section
theorem mU{a:AA}(ha:EC 101 (some a)=true){AC:List (Option AA)}(h0:AC[0]?=some (some a)):
  ∀(i:Nat) o,([some a]:List (Option AA))[i]?=some (some o)->AC[i]?=some (some o)/\EC (100+1) (some o)=true:=by
 intro i o h
 cases i with
 |zero=>simp only[List.getElem?_cons_zero,Option.some.injEq]at h;subst h;exact⟨h0,ha⟩
 |succ i=>simp at h
end
end Go.Proofs.Ob
namespace Go.Tlv
open Go Go.Abs
section
variable {α:Type} {step:α->At->Option α} {z:α} {s:List UInt8}
end
end Go.Tlv
namespace Go.Proofs.Ob
open Go Go.Abs Go.Tlv
noncomputable section
def JS(x:EP):AA := .cells [.int .i64 x.id,.int .i64 x.size,.int .i64 x.lo,.int .i64 x.lw,.int .i64 x.lu,.int .i64 x.so,.int .i64 x.sw,dsl (rowsOf D7 x.arms),.int .i64 x.ot] 32 9 false true
def G6(x:EB):AA := .cells [.int .i64 x.id,.int .u8 (x.kind:Int),dsl (rowsOf EM x.keys),.int .i64 x.cap,.int .i64 x.miss] 37 5 false true
def GZ(x:C9):AA := .cells [.int .i64 x.tab,.string x.key,.string x.oth,.int .i64 x.len,.int .i64 x.prio,.int .i64 x.blk,dsl (rowsOf DJ x.args),.int .i64 x.idle,.int .i64 x.hard,.int .u64 (x.cook:Int),.bool x.tell] 39 11 false true
def GY(x:ES):AA := .cells [.int .i64 x.id,dsl (rowsOf BN x.code)] 42 2 false true
def G5(x:EI):AA := .cells [.int .i64 x.id,.int .u8 (x.kind:Int),.int .i64 x.fld,dsl (rowsOf BB x.bks)] 45 4 false true
end
end Go.Proofs.Ob
