/- Abstract memory: names in place of blocks; how an abstract value and an abstract heap stand to a value and a world. -/
import Derived.Calls
import Derived.Laws.Sem
import Derived.Laws.World
set_option linter.all false
namespace Go.Abs
open Go
structure Nm where
 f:Nat->Option (Nat×Nat×Nat)
 /-- What stands in a block's cell for ever. -/
 z:Nat->Nat->Option Value
instance:CoeFun Nm (fun _=>Nat->Option (Nat×Nat×Nat)):=⟨Nm.f⟩
def zle(z z':Nat->Nat->Option Value):Prop:=∀b i v,z b i=some v->z' b i=some v
theorem zle_refl(z:Nat->Nat->Option Value):zle z z:=fun _ _ _ h=>h
structure Nm.le(F F':Nm):Prop where
 nm:∀n x,F n=some x->F' n=some x
 zs:zle F.z F'.z
theorem Nm.le_refl(F:Nm):Nm.le F F:=⟨fun _ _ h=>h,zle_refl _⟩
theorem Nm.le_trans{F G K:Nm}(h:Nm.le F G)(h':Nm.le G K):Nm.le F K:=⟨fun n x e=>h'.nm n x (h.nm n x e),fun b i v e=>h'.zs b i v (h.zs b i v e)⟩
theorem Nm.ext_of{F F':Nm}(h:∀n,F n=F' n)(hz:F.z=F'.z):F=F':=by
 obtain⟨f,z⟩:=F;obtain⟨f',z'⟩:=F'
 have h1:f=f':=funext h
 have h2:z=z':=hz
 rw[h1,h2]
def Nm.re(F:Nm)(τ:Nat->Nat):Nm:=⟨fun n=>F (τ n),F.z⟩
def AR(F:Nm)(a a':Addr):Prop:=∃d o,F a.block=some (a'.block,d,o)/\a'.off=a.off+o/\a'.spot=a.spot
theorem AR.mono{F F':Nm}(h:Nm.le F F'){a a':Addr}(r:AR F a a'):AR F' a a':=
 let ⟨d,o,e,x⟩:=r;⟨d,o,h.nm _ _ e,x⟩
theorem AR.add{F:Nm}{a a':Addr}(r:AR F a a')(n:Nat):AR F (a.add n) (a'.add n):=by
 obtain⟨d,o,e,h1,h2⟩:=r
 unfold Addr.add
 by_cases hn:n=0
 ·simp[hn];exact⟨d,o,e,h1,h2⟩
 ·simp[hn];exact⟨d,o,e,by simp[h1];omega,rfl⟩
def asB:Value->Option Bool
 | .bool b=>some b
 |_=>none
def isTop:Value->Bool
 | .chan (some _)=>true
 |_=>false
def mkD:Nat:=1000000007
def mkP:Nat:=1000000009
def mkM:Nat:=1000000021
def isDP(t:Nat):Bool:=Nat.beq t mkD||Nat.beq t mkP
def isMk(t:Nat):Bool:=isDP t||Nat.beq t mkM
def Nm.bare(F:Nm):Nm:=⟨fun _=>none,F.z⟩
def Nm.on(F:Nm)(t:Nat):Nm:=match isDP t with
 |true=>F.bare
 |false=>F
theorem isMk_dp{t:Nat}(h:isMk t=false):isDP t=false:=by
 unfold isMk at h;simp only[Bool.or_eq_false_iff]at h;exact h.1
theorem Nm.on_real{F:Nm}{t:Nat}(h:isMk t=false):F.on t=F:=by unfold Nm.on;rw[isMk_dp h]
theorem Nm.on_D{F:Nm}:F.on mkD=F.bare:=rfl
theorem Nm.on_P{F:Nm}:F.on mkP=F.bare:=rfl
theorem Nm.on_M{F:Nm}:F.on mkM=F:=rfl
theorem Nm.le.on{F F':Nm}(h:Nm.le F F')(t:Nat):Nm.le (F.on t) (F'.on t):=by
 unfold Nm.on;split
 ·exact⟨fun n x (e:(none:Option (Nat×Nat×Nat))=some x)=>(by cases e),h.zs⟩
 ·exact h
theorem Nm.re_on{F:Nm}{τ:Nat->Nat}{t:Nat}(h:isDP t=true):(F.re τ).on t=F.on t:=by unfold Nm.on;rw[h];rfl
theorem Nm.re_on'{F:Nm}{τ:Nat->Nat}{t:Nat}(h:isDP t=false):(F.re τ).on t=(F.on t).re τ:=by unfold Nm.on;rw[h]
def zRow(z:Nat->Nat->Option Value)(b off:Nat)(cs:List Value):Prop:=∀j x,cs[j]?=some x->z b (off+j)=some x
theorem zRow.mono{z z':Nat->Nat->Option Value}(h:zle z z'){b off:Nat}{cs:List Value}(hr:zRow z b off cs):zRow z' b off cs:=fun j x e=>h _ _ _ (hr j x e)
def DeepS (z:Nat->Nat->Option Value) (x' v':Value):Prop:=∃rows:List Value,x' = .agg ⟨rows⟩/\
  ((rows=[]/\∃a c,v' = .slice a 0 c)∨
    ∃a c sz,v' = .slice (some a) rows.length c/\rows.length<=c/\a.spot=none/\0<sz/\∀i r,rows[i]?=some r->∃cs:List Value,r = .agg ⟨cs⟩/\cs.length=sz/\zRow z a.block (a.off+i*sz) cs)
def DeepP(z:Nat->Nat->Option Value)(x' v':Value):Prop:=∃cs:List Value,x' = .agg ⟨cs⟩/\∃a:Addr,v' = .pointer (some a)/\a.spot=none/\zRow z a.block a.off cs
def IR(z:Nat->Nat->Option Value)(t:Nat)(x' v':Value):Prop:=match isMk t with
 |false=>v' = .iface t x'
 |true=>(t=mkD/\DeepS z x' v')∨(t=mkP/\DeepP z x' v')∨(t=mkM/\v'=x'/\∃a l c,v' = .slice a l c/\l≠0)
theorem IR.mono{z z':Nat->Nat->Option Value}(h:zle z z'){t:Nat}{x' v':Value}(hr:IR z t x' v'):IR z' t x' v':=by
 unfold IR at hr ⊢
 split
 ·rename_i e;rw[e]at hr;exact hr
 ·rename_i e;rw[e]at hr
  rcases hr with⟨e1,rows,e2,h2⟩ | ⟨e1,cs,e2,a,e3,e4,h2⟩ | h2
  ·refine .inl ⟨e1,rows,e2,?_⟩
   rcases h2 with h2|⟨a,c,sz,e3,e3',e4,e5,h2⟩
   ·exact .inl h2
   ·exact .inr ⟨a,c,sz,e3,e3',e4,e5,fun i r hi=>let ⟨cs,g1,g2,g3⟩:=h2 i r hi;⟨cs,g1,g2,g3.mono h⟩⟩
  ·exact .inr (.inl ⟨e1,cs,e2,a,e3,e4,h2.mono h⟩)
  ·exact .inr (.inr h2)
def isNilS:Value->Bool
 | .slice (some _) 0 _=>true
 |_=>false
mutual
def VR:Nm->Value->Value->Prop
 |_,.bool b,v'=>v' = .bool b
 |_,.int k n,v'=>v' = .int k n
 |_,.float k n,v'=>v' = .float k n
 |_,.complex k n m,v'=>v' = .complex k n m
 |_,.string s,v'=>v' = .string s
 |_,.pointer none,v'=>v' = .pointer none
 |F,.pointer (some a),v'=>∃a',AR F a a'/\v' = .pointer (some a')
 |_,.slice none l c,v'=>v' = .slice none l c
 |F,.slice (some a) l c,v'=>∃a' d o,F a.block=some (a'.block,d,o)/\a'.off=a.off+o/\a'.spot=a.spot/\v' = .slice (some a') l (c+d)
 |_,.map none,v'=>v' = .map none
 |F,.map (some r),v'=>∃r' d o,F r=some (r',d,o)/\v' = .map (some r')
 |_,.chan none,v'=>v' = .chan none
 |_,.chan (some _),_=>True
 |F,.func fn first captured,v'=>∃f' c',VRA F first f'/\VRA F captured c'/\v' = .func fn f' c'
 |_,.nilFunc,v'=>v' = .nilFunc
 |F,.iface t v,v'=>(∃x',VR (F.on t) v x'/\IR F.z t x' v')∨(t=mkM/\isNilS v=true/\∃a,v' = .slice a 0 0)
 |_,.nilIface,v'=>v' = .nilIface
 |F,.agg cs,v'=>∃cs',VRA F cs cs'/\v' = .agg cs'
 |F,.tuple cs,v'=>∃cs',VRA F cs cs'/\v' = .tuple cs'
def VRA:Nm->Array Value->Array Value->Prop
 |F,⟨l⟩,c'=>VRL F l c'.toList
def VRL:Nm->List Value->List Value->Prop
 |_,[],l'=>l'=[]
 |F,v::l,l'=>∃v' r',VR F v v'/\VRL F l r'/\l'=v'::r'
end
mutual
def plain:Value->Bool
 | .pointer (some _) | .slice (some _) _ _ | .map (some _) | .chan (some _)=>false
 | .func _ first captured=>plainA first&&plainA captured
 | .iface t v=>match isMk t with
  |true=>false
  |false=>plain v
 | .agg cs=>plainA cs
 | .tuple cs=>plainA cs
 |_=>true
def plainA:Array Value->Bool
 |⟨l⟩=>plainL l
def plainL:List Value->Bool
 | []=>true
 |v::l=>plain v&&plainL l
end
mutual
theorem VR.mono{F F':Nm}(h:Nm.le F F'):∀(v v':Value),VR F v v'->VR F' v v'
 | .bool b,v',hv=>by simpa [VR]using hv
 | .int k n,v',hv=>by simpa [VR]using hv
 | .float k n,v',hv=>by simpa [VR]using hv
 | .complex k n m,v',hv=>by simpa [VR]using hv
 | .string s,v',hv=>by simpa [VR]using hv
 | .pointer none,v',hv=>by simpa [VR]using hv
 | .pointer (some a),v',hv=>by
  simp only[VR]at hv ⊢;obtain⟨a',r,e⟩:=hv;exact⟨a',r.mono h,e⟩
 | .slice none l c,v',hv=>by simpa [VR]using hv
 | .slice (some a) l c,v',hv=>by
  simp only[VR]at hv ⊢;obtain⟨a',d,o,r,e⟩:=hv;exact⟨a',d,o,h.nm _ _ r,e⟩
 | .map none,v',hv=>by simpa [VR]using hv
 | .map (some r),v',hv=>by
  simp only[VR]at hv ⊢;obtain⟨a',d,o,r,e⟩:=hv;exact⟨a',d,o,h.nm _ _ r,e⟩
 | .chan none,v',hv=>by simpa [VR]using hv
 | .chan (some r),v',hv=>by simp[VR]
 | .func fn first captured,v',hv=>by
  simp only[VR]at hv ⊢;obtain⟨f',c',h1,h2,e⟩:=hv
  exact⟨f',c',VRA.mono h _ _ h1,VRA.mono h _ _ h2,e⟩
 | .nilFunc,v',hv=>by simpa [VR]using hv
 | .iface t v,v',hv=>by
  simp only[VR]at hv ⊢
  rcases hv with⟨x',h1,e⟩ | hv
  ·exact .inl ⟨x',VR.mono (h.on t) _ _ h1,e.mono h.zs⟩
  ·exact .inr hv
 | .nilIface,v',hv=>by simpa [VR]using hv
 | .agg cs,v',hv=>by
  simp only[VR]at hv ⊢;obtain⟨x',h1,e⟩:=hv;exact⟨x',VRA.mono h _ _ h1,e⟩
 | .tuple cs,v',hv=>by
  simp only[VR]at hv ⊢;obtain⟨x',h1,e⟩:=hv;exact⟨x',VRA.mono h _ _ h1,e⟩
theorem VRA.mono{F F':Nm}(h:Nm.le F F'):∀(c c':Array Value),VRA F c c'->VRA F' c c'
 |⟨l⟩,c',hv=>by simp only[VRA]at hv ⊢;exact VRL.mono h _ _ hv
theorem VRL.mono{F F':Nm}(h:Nm.le F F'):∀(l l':List Value),VRL F l l'->VRL F' l l'
 | [],l',hv=>by simpa [VRL]using hv
 |v::l,l',hv=>by
  simp only[VRL]at hv ⊢;obtain⟨v',r',h1,h2,e⟩:=hv
  exact⟨v',r',VR.mono h _ _ h1,VRL.mono h _ _ h2,e⟩
end
mutual
theorem VR.plain_eq{F:Nm}:∀(v v':Value),plain v=true->(VR F v v'↔v'=v)
 | .bool b,v',_=>by simp[VR]
 | .int k n,v',_=>by simp[VR]
 | .float k n,v',_=>by simp[VR]
 | .complex k n m,v',_=>by simp[VR]
 | .string s,v',_=>by simp[VR]
 | .pointer none,v',_=>by simp[VR]
 | .pointer (some a),v',h=>by simp[plain]at h
 | .slice none l c,v',_=>by simp[VR]
 | .slice (some a) l c,v',h=>by simp[plain]at h
 | .map none,v',_=>by simp[VR]
 | .map (some r),v',h=>by simp[plain]at h
 | .chan none,v',_=>by simp[VR]
 | .chan (some r),v',h=>by simp[plain]at h
 | .func fn first captured,v',h=>by
  simp only[plain,Bool.and_eq_true]at h
  simp only[VR]
  constructor
  ·rintro ⟨f',c',h1,h2,e⟩
   rw[VRA.plain_eq _ _ h.1]at h1;rw[VRA.plain_eq _ _ h.2]at h2;rw[e,h1,h2]
  ·intro e;exact⟨first,captured,(VRA.plain_eq _ _ h.1).2 rfl,(VRA.plain_eq _ _ h.2).2 rfl,e⟩
 | .nilFunc,v',_=>by simp[VR]
 | .iface t v,v',h=>by
  simp only[plain]at h
  split at h
  ·cases h
  ·rename_i hm
   simp only[VR,IR,hm,Nm.on_real hm]
   constructor
   ·rintro (⟨x',h1,e⟩ | ⟨e,_⟩)
    ·rw[VR.plain_eq _ _ h]at h1;rw[e,h1]
    ·subst e;cases hm
   ·intro e;exact .inl ⟨v,(VR.plain_eq _ _ h).2 rfl,e⟩
 | .nilIface,v',_=>by simp[VR]
 | .agg cs,v',h=>by
  simp only[plain]at h
  simp only[VR]
  constructor
  ·rintro ⟨x',h1,e⟩;rw[VRA.plain_eq _ _ h]at h1;rw[e,h1]
  ·intro e;exact⟨cs,(VRA.plain_eq _ _ h).2 rfl,e⟩
 | .tuple cs,v',h=>by
  simp only[plain]at h
  simp only[VR]
  constructor
  ·rintro ⟨x',h1,e⟩;rw[VRA.plain_eq _ _ h]at h1;rw[e,h1]
  ·intro e;exact⟨cs,(VRA.plain_eq _ _ h).2 rfl,e⟩
theorem VRA.plain_eq{F:Nm}:∀(c c':Array Value),plainA c=true->(VRA F c c'↔c'=c)
 |⟨l⟩,⟨l'⟩,h=>by
  simp only[plainA]at h
  simp only[VRA]
  rw[VRL.plain_eq _ _ h]
  simp
theorem VRL.plain_eq{F:Nm}:∀(l l':List Value),plainL l=true->(VRL F l l'↔l'=l)
 | [],l',_=>by simp[VRL]
 |v::l,l',h=>by
  simp only[plainL,Bool.and_eq_true]at h
  simp only[VRL]
  constructor
  ·rintro ⟨v',r',h1,h2,e⟩
   rw[VR.plain_eq _ _ h.1]at h1;rw[VRL.plain_eq _ _ h.2]at h2;rw[e,h1,h2]
  ·intro e;exact⟨v,l,(VR.plain_eq _ _ h.1).2 rfl,(VRL.plain_eq _ _ h.2).2 rfl,e⟩
end
theorem plain_top{v:Value}(h:plain v=true):isTop v=false:=by
 cases v<;>first|rfl|skip
 rename_i a;cases a<;>first|rfl|(simp[plain]at h)
theorem VRL.length{F:Nm}:∀ {l l':List Value},VRL F l l'->l'.length=l.length
 | [],l',h=>by simp only[VRL]at h;subst h;rfl
 |v::l,l',h=>by
  simp only[VRL]at h;obtain⟨v',r',_,h2,e⟩:=h;subst e;simp[VRL.length h2]
theorem VRL.get{F:Nm}:∀ {l l':List Value} {i:Nat} {v:Value},VRL F l l'->l[i]?=some v->∃v',l'[i]?=some v'/\VR F v v'
 | [],l',i,v,_,hv=>by simp at hv
 |x::l,l',0,v,h,hv=>by
  simp only[VRL]at h;obtain⟨v',r',h1,_,e⟩:=h;subst e;simp at hv;subst hv;exact⟨v',rfl,h1⟩
 |x::l,l',i+1,v,h,hv=>by
  simp only[VRL]at h;obtain⟨v',r',_,h2,e⟩:=h;subst e
  simp at hv;obtain⟨y,hy,r⟩:=VRL.get h2 hv;exact⟨y,by simpa using hy,r⟩
theorem VRL.set{F:Nm}:∀ {l l':List Value} (i:Nat) {v v':Value},VRL F l l'->VR F v v'->VRL F (l.set i v) (l'.set i v')
 | [],l',i,v,v',h,_=>by simp only[VRL]at h;subst h;simp[VRL]
 |x::l,l',0,v,v',h,hv=>by
  simp only[VRL]at h;obtain⟨y,r',_,h2,e⟩:=h;subst e;simp only[List.set,VRL];exact⟨v',r',hv,h2,rfl⟩
 |x::l,l',i+1,v,v',h,hv=>by
  simp only[VRL]at h;obtain⟨y,r',h1,h2,e⟩:=h;subst e;simp only[List.set,VRL];exact⟨y,_,h1,VRL.set i h2 hv,rfl⟩
theorem VRL.append{F:Nm}:∀ {l l' m m':List Value},VRL F l l'->VRL F m m'->VRL F (l++m) (l'++m')
 | [],l',m,m',h,hm=>by simp only[VRL]at h;subst h;simpa using hm
 |x::l,l',m,m',h,hm=>by
  simp only[VRL]at h;obtain⟨y,r',h1,h2,e⟩:=h;subst e;simp only[List.cons_append,VRL];exact⟨y,_,h1,VRL.append h2 hm,rfl⟩
theorem VRL.take{F:Nm}:∀(n:Nat) {l l':List Value},VRL F l l'->VRL F (l.take n) (l'.take n)
 | 0,l,l',_=>by simp[VRL]
 |n+1,[],l',h=>by simp only[VRL]at h;subst h;simp[VRL]
 |n+1,x::l,l',h=>by
  simp only[VRL]at h;obtain⟨y,r',h1,h2,e⟩:=h;subst e;simp only[List.take_succ_cons,VRL];exact⟨y,_,h1,VRL.take n h2,rfl⟩
theorem VRL.drop{F:Nm}:∀(n:Nat) {l l':List Value},VRL F l l'->VRL F (l.drop n) (l'.drop n)
 | 0,l,l',h=>by simpa using h
 |n+1,[],l',h=>by simp only[VRL]at h;subst h;simp[VRL]
 |n+1,x::l,l',h=>by
  simp only[VRL]at h;obtain⟨y,r',h1,h2,e⟩:=h;subst e;simpa using VRL.drop n h2
theorem VRL.split{F:Nm}:∀ {l m l':List Value},VRL F (l++m) l'->∃a b,l'=a++b/\VRL F l a/\VRL F m b
 | [],m,l',h=>⟨[],l',rfl,by simp[VRL],h⟩
 |x::l,m,l',h=>by
  simp only[List.cons_append,VRL]at h;obtain⟨y,r',h1,h2,e⟩:=h
  obtain⟨a,b,e2,ha,hb⟩:=VRL.split h2
  exact⟨y::a,b,by rw[e,e2];rfl,by simp only[VRL];exact⟨y,a,h1,ha,rfl⟩,hb⟩
theorem VRL.one{F:Nm}{v v':Value}(h:VR F v v'):VRL F [v] [v']:=by
 simp only[VRL];exact⟨v',[],h,rfl,rfl⟩
theorem VRA.toL{F:Nm}{c c':Array Value}(h:VRA F c c'):VRL F c.toList c'.toList:=by
 cases c;simpa only[VRA]using h
theorem VRA.ofL{F:Nm}{c c':Array Value}(h:VRL F c.toList c'.toList):VRA F c c':=by
 cases c;simpa only[VRA]using h
theorem VRA.size{F:Nm}{c c':Array Value}(h:VRA F c c'):c'.size=c.size:=by
 have:=h.toL.length;simpa using this
theorem VR.iface_cases{F:Nm}{t:Nat}{x v':Value}(h:VR F (.iface t x) v'):(isMk t=false/\∃x',VR F x x'/\v' = .iface t x')∨(isMk t=true/\((∃a l c,v' = .slice a l c)∨∃a,v' = .pointer (some a))):=by
 simp only[VR]at h
 rcases h with⟨x',h1,e⟩ | ⟨e,_,a,e2⟩
 ·unfold IR at e
  split at e
  ·rename_i hm;rw[Nm.on_real hm]at h1;exact .inl ⟨hm,x',h1,e⟩
  ·rename_i hm
   refine .inr ⟨hm,?_⟩
   rcases e with⟨_,rows,_,h2⟩ | ⟨_,cs,_,a,e3,_⟩ | ⟨_,_,a,l,c,e,_⟩
   ·rcases h2 with⟨_,a,c,e⟩ | ⟨a,c,sz,e,_⟩
    ·exact .inl ⟨_,_,_,e⟩
    ·exact .inl ⟨_,_,_,e⟩
   ·exact .inr ⟨_,e3⟩
   ·exact .inl ⟨_,_,_,e⟩
 ·subst e;exact .inr ⟨rfl,.inl ⟨_,_,_,e2⟩⟩
theorem VR.iface_real{F:Nm}{t:Nat}{x v':Value}(h:VR F (.iface t x) v')(ht:isMk t=false):∃x',VR F x x'/\v' = .iface t x':=by
 rcases h.iface_cases with⟨_,h⟩ | ⟨e,_⟩
 ·exact h
 ·rw[ht]at e;cases e
theorem VR.iface_mk{F:Nm}{t:Nat}{x x':Value}(h:VR F x x')(ht:isMk t=false):VR F (.iface t x) (.iface t x'):=by
 simp only[VR,IR,ht,Nm.on_real ht];exact .inl ⟨x',h,rfl⟩
theorem VR.iface_cells{F:Nm}{t:Nat}{x v':Value}(h:VR F (.iface t x) v'):v'.cells.toList=[v']:=by
 rcases h.iface_cases with⟨_,x',_,e⟩ | ⟨_,⟨a,l,c,e⟩ | ⟨a,e⟩⟩<;>subst e<;>rfl
theorem VR.iface_iff{F:Nm}{t:Nat}{v v':Value}:VR F (.iface t v) v'↔((∃x',VR (F.on t) v x'/\IR F.z t x' v')∨(t=mkM/\isNilS v=true/\∃a,v' = .slice a 0 0)):=by
 rw[VR]
theorem Nm.bare_le(F:Nm):Nm.le F.bare F:=⟨fun n x (e:(none:Option (Nat×Nat×Nat))=some x)=>(by cases e),zle_refl _⟩
theorem VR.bare_up{F:Nm}{v v':Value}(h:VR F.bare v v'):VR F v v':=VR.mono F.bare_le _ _ h
theorem VRL.bare_up{F:Nm}{l l':List Value}(h:VRL F.bare l l'):VRL F l l':=VRL.mono F.bare_le _ _ h
theorem VR.aggL{F:Nm}{cs:List Value}{v':Value}(h:VR F (.agg ⟨cs⟩) v'):∃cs':List Value,v' = .agg ⟨cs'⟩/\VRL F cs cs':=by
 simp only[VR,VRA]at h
 obtain⟨⟨cs'⟩,h1,e⟩:=h
 exact⟨cs',e,h1⟩
theorem VR.ofAggL{F:Nm}{cs cs':List Value}(h:VRL F cs cs'):VR F (.agg ⟨cs⟩) (.agg ⟨cs'⟩):=by
 simp only[VR,VRA];exact⟨⟨cs'⟩,h,rfl⟩
def zRows(z:Nat->Nat->Option Value)(b off sz:Nat)(rows':List Value):Prop:=∀i r,rows'[i]?=some r->∃cs:List Value,r = .agg ⟨cs⟩/\cs.length=sz/\zRow z b (off+i*sz) cs
theorem VR.D_cases{F:Nm}{rows:List Value}{v':Value}(h:VR F (.iface mkD (.agg ⟨rows⟩)) v'):
  (rows=[]/\∃a c,v' = .slice a 0 c)∨∃rows' a c sz,VRL F.bare rows rows'/\v' = .slice (some a) rows.length c/\rows.length<=c/\a.spot=none/\0<sz/\zRows F.z a.block a.off sz rows':=by
 rw[VR.iface_iff]at h
 rcases h with⟨x',h1,e⟩ | ⟨e,h2,_⟩
 ·rw[Nm.on_D]at h1
  obtain⟨rows',e1,h5⟩:=VR.aggL h1
  clear h1
  have h1:=h5
  subst e1
  rcases e with⟨_,rows2,e2,h3⟩ | ⟨e,_⟩ | ⟨e,_⟩
  ·simp only[Value.agg.injEq,Array.mk.injEq]at e2;subst e2
   have hl:=h1.length
   rcases h3 with⟨e3,h3⟩ | ⟨a,c,sz,h3,h4,h5,h6,h7⟩
   ·rw[e3]at hl;exact .inl ⟨List.eq_nil_of_length_eq_zero hl.symm,h3⟩
   ·exact .inr ⟨rows',a,c,sz,h1,by rw[←hl];exact h3,by rw[←hl];exact h4,h5,h6,h7⟩
  ·exact absurd e (by decide)
  ·exact absurd e (by decide)
 ·exact absurd e (by decide)
theorem VR.D_nil{F:Nm}(a:Option Addr)(c:Nat):VR F (.iface mkD (.agg ⟨[]⟩)) (.slice a 0 c):=by
 rw[VR.iface_iff]
 exact .inl ⟨.agg ⟨[]⟩,VR.ofAggL (by simp only[VRL]),.inl ⟨rfl,[],rfl,.inl ⟨rfl,a,c,rfl⟩⟩⟩
theorem VR.D_mk{F:Nm}{rows rows':List Value}{a:Addr}{c sz:Nat}(h:VRL F.bare rows rows')(hc:rows.length<=c)(hs:a.spot=none)(hz:0<sz)(hr:zRows F.z a.block a.off sz rows'):
  VR F (.iface mkD (.agg ⟨rows⟩)) (.slice (some a) rows.length c):=by
 rw[VR.iface_iff]
 have hl:=h.length
 exact .inl ⟨.agg ⟨rows'⟩,VR.ofAggL h,.inl ⟨rfl,rows',rfl,.inr ⟨a,c,sz,by rw[hl],by rw[hl];exact hc,hs,hz,hr⟩⟩⟩
theorem VR.P_cases{F:Nm}{cs:List Value}{v':Value}(h:VR F (.iface mkP (.agg ⟨cs⟩)) v'):∃cs' a,VRL F.bare cs cs'/\v' = .pointer (some a)/\a.spot=none/\zRow F.z a.block a.off cs':=by
 rw[VR.iface_iff]at h
 rcases h with⟨x',h1,e⟩ | ⟨e,h2,_⟩
 ·rw[Nm.on_P]at h1
  obtain⟨cs',e1,h5⟩:=VR.aggL h1
  clear h1
  have h1:=h5
  subst e1
  rcases e with⟨e,_⟩ | ⟨_,cs2,e2,a,h2,h3,h4⟩ | ⟨e,_⟩
  ·exact absurd e (by decide)
  ·simp only[Value.agg.injEq,Array.mk.injEq]at e2;subst e2
   exact⟨cs',a,h1,h2,h3,h4⟩
  ·exact absurd e (by decide)
 ·exact absurd e (by decide)
theorem VR.P_mk{F:Nm}{cs cs':List Value}{a:Addr}(h:VRL F.bare cs cs')(hs:a.spot=none)(hr:zRow F.z a.block a.off cs'):VR F (.iface mkP (.agg ⟨cs⟩)) (.pointer (some a)):=by
 rw[VR.iface_iff]
 exact .inl ⟨.agg ⟨cs'⟩,VR.ofAggL h,.inr (.inl ⟨rfl,cs',rfl,a,rfl,hs,hr⟩)⟩
theorem VR.M_cases{F:Nm}{a:Addr}{l c:Nat}{v':Value}(h:VR F (.iface mkM (.slice (some a) l c)) v'):(l≠0/\VR F (.slice (some a) l c) v')∨(l=0/\∃a',v' = .slice a' 0 0):=by
 rw[VR.iface_iff]at h
 rcases h with⟨x',h1,e⟩ | ⟨_,h2,h3⟩
 ·rw[Nm.on_M]at h1
  rcases e with⟨e,_⟩ | ⟨e,_⟩ | ⟨_,e,a',l',c',h2,h3⟩
  ·exact absurd e (by decide)
  ·exact absurd e (by decide)
  ·subst e
   simp only[VR]at h1
   obtain⟨a2,d,o,g1,g2,g3,g4⟩:=h1
   rw[h2]at g4;simp only[Value.slice.injEq]at g4
   rw[g4.2.1]at h3
   exact .inl ⟨h3,by simp only[VR];exact⟨a2,d,o,g1,g2,g3,by rw[h2,g4.1,g4.2.1,g4.2.2]⟩⟩
 ·cases l with
  |zero=>exact .inr ⟨rfl,h3⟩
  |succ l=>simp[isNilS]at h2
theorem VR.M_nil{F:Nm}(a:Addr)(c:Nat)(a':Option Addr):VR F (.iface mkM (.slice (some a) 0 c)) (.slice a' 0 0):=by
 rw[VR.iface_iff];exact .inr ⟨rfl,rfl,a',rfl⟩
theorem VR.M_mk{F:Nm}{a:Addr}{l c:Nat}{v':Value}(h:VR F (.slice (some a) l c) v')(hl:l≠0):VR F (.iface mkM (.slice (some a) l c)) v':=by
 have h0:=h
 simp only[VR]at h
 obtain⟨a2,d,o,g1,g2,g3,g4⟩:=h
 rw[VR.iface_iff]
 exact .inl ⟨v',by rw[Nm.on_M];exact h0,.inr (.inr ⟨rfl,rfl,some a2,l,c+d,g4,hl⟩)⟩
theorem VR.cells{F:Nm}{v v':Value}(h:VR F v v')(ht:isTop v=false):VRL F v.cells.toList v'.cells.toList:=by
 cases v with
 |agg cs=>simp only[VR]at h;obtain⟨cs',h1,e⟩:=h;subst e;exact h1.toL
 |pointer a=>cases a<;>(have h0:=h;simp only[VR]at h)<;>first
  |(subst h;exact VRL.one h0)
  |(obtain⟨_,_,e⟩:=h;subst e;exact VRL.one h0)
 |slice a l c=>cases a<;>(have h0:=h;simp only[VR]at h)<;>first
  |(subst h;exact VRL.one h0)
  |(obtain⟨_,_,_,_,_,_,e⟩:=h;subst e;exact VRL.one h0)
 |map a=>cases a<;>(have h0:=h;simp only[VR]at h)<;>first
  |(subst h;exact VRL.one h0)
  |(obtain⟨_,_,_,_,e⟩:=h;subst e;exact VRL.one h0)
 |chan a=>cases a<;>(have h0:=h;simp only[VR]at h)<;>first
  |(subst h;exact VRL.one h0)
  |(cases ht)
 |func f x y=>have h0:=h;simp only[VR]at h;obtain⟨_,_,_,_,e⟩:=h;subst e;exact VRL.one h0
 |iface t x=>have h1:=VR.iface_cells h;show VRL F [Value.iface t x] _;rw[h1];exact VRL.one h
 |tuple x=>have h0:=h;simp only[VR]at h;obtain⟨_,_,e⟩:=h;subst e;exact VRL.one h0
 |_=>have h0:=h;simp only[VR]at h;subst h;exact VRL.one h0
end Go.Abs
namespace Go.Abs
open Go
noncomputable section
def tabL:List (Nat×List Value):=[]
def lookT:List (Nat×List Value)->Nat->Option (List Value)
 | [],_=>none
 |x::l,g=>if x.1=g then some x.2 else lookT l g
def tabOf(g:Nat):Option (List Value):=if g<100 then lookT tabL g else none
theorem tabOf_lt{g:Nat}{vs:List Value}(h:tabOf g=some vs):g<100:=by
 unfold tabOf at h
 split at h
 ·assumption
 ·cases h
theorem tabOf_nil(h:tabL=[])(g:Nat):tabOf g=none:=by unfold tabOf;rw[h];split<;>rfl
def TabW(w:World):Prop:=∀g vs,tabOf g=some vs->∃t fz,w.heap[g]?=some (.cells vs.toArray t fz)
theorem tabW_nil(h:tabL=[])(w:World):TabW w:=fun g vs hg=>by rw[tabOf_nil h]at hg;cases hg
end
end Go.Abs
