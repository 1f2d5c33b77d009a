/- The law ObjReads: what the code comes to. -/
import Derived.Test.YtblbaohcelldpaaWH
set_option linter.all false
namespace Go.Abs
open Go
theorem zfreeL_take:∀(l:List Value) (n:Nat),zfreeL l=true->zfreeL (l.take n)=true
 | [],n,_=>by simp;rfl
 |v::l,0,_=>rfl
 |v::l,n+1,h=>by
  simp only[zfreeL,Bool.and_eq_true,List.take_succ_cons]at h ⊢
  exact⟨h.1,zfreeL_take l n h.2⟩
theorem zfreeL_drop:∀(l:List Value) (n:Nat),zfreeL l=true->zfreeL (l.drop n)=true
 | [],n,_=>by simp;rfl
 |v::l,0,h=>h
 |v::l,n+1,h=>by
  simp only[zfreeL,Bool.and_eq_true]at h
  exact zfreeL_drop l n h.2
theorem zfree_of{α:Type}{c:α->List Value}(hc:∀x m,zfreeL m=true->zfreeL (c x++m)=true)(l:List α):zfreeL (l.flatMap c)=true:=by
 induction l with
 |nil=>rfl
 |cons a l ih=>rw[List.flatMap_cons];exact hc a _ ih
theorem skip_call{P:Program}{G:Nat}{B:Base}{f:FuncId}{args:List Value}{H H1:Heap}{e:Ending}(h:CallH P G B f args H e H1):CallH P G B f args H e {H1 with next:=H1.next+1}:=
 fun F w x R ha=>(h F w x R ha).mono fun _ _ ⟨F',h1,h2,R'⟩=>⟨F',h1,h2,{
  obj:=R'.obj,inj:=R'.inj,fresh:=fun n hn=>R'.fresh n (Nat.le_of_succ_le hn),glob:=R'.glob,base:=R'.base,frame:=R'.frame,froz:=R'.froz,zprot:=R'.zprot,os:=R'.os,out:=R'.out,tape:=R'.tape}⟩
end Go.Abs
namespace Go.Tlv
open Go Go.Abs
def decB(k:Nat)(s:List UInt8):Nat×OMsg:=match k with
 | 0=>((rdE stepNode zNode s).1,{zMsg with n:=(rdE stepNode zNode s).2})
 | 1=>((rdE stepField zField s).1,{zMsg with f:=(rdE stepField zField s).2})
 | 2=>((rdE stepTable zTable s).1,{zMsg with t:=(rdE stepTable zTable s).2})
 | 3=>((rdE stepEntry zEntry s).1,{zMsg with e:=(rdE stepEntry zEntry s).2})
 | 4=>((rdE stepBlock zBlock s).1,{zMsg with b:=(rdE stepBlock zBlock s).2})
 | 5=>((rdE stepGroup zGroup s).1,{zMsg with g:=(rdE stepGroup zGroup s).2})
 | 6=>((rdE stepMeter zMeter s).1,{zMsg with m:=(rdE stepMeter zMeter s).2})
 |_=>((rdE stepRegs zRegs s).1,{zMsg with r:=(rdE stepRegs zRegs s).2})
theorem decB_else{k:Nat}{s:List UInt8}(h:7<=k):decB k s=((rdE stepRegs zRegs s).1,{zMsg with r:=(rdE stepRegs zRegs s).2}):=by
 unfold decB;split<;>first|rfl|omega
def lst5(x:OMsg):Nat->Prop
 | 0=>x.n.arms=[]
 | 1=>x.t.keys=[]
 | 2=>x.e.args=[]
 | 3=>x.b.code=[]
 |_=>x.g.bks=[]
theorem lists_of(k:Nat)(s:List UInt8):∀a∈[0,1,2,3,4],¬lst5 (decB k s).2 a->∀b∈[0,1,2,3,4],a≠b->lst5 (decB k s).2 b:=by
 intro a ha hn b hb hne
 simp only[List.mem_cons,List.not_mem_nil,or_false]at ha hb
 unfold decB at hn ⊢
 split<;>rcases ha with rfl|rfl|rfl|rfl|rfl<;>first|exact absurd rfl hn|(rcases hb with rfl|rfl|rfl|rfl|rfl<;>first|exact absurd rfl hne|rfl)
theorem decB_w(k:Nat)(s:List UInt8):(decB k s).2.a10=[]:=by
 unfold decB;split<;>rfl
theorem mapO_len{α β:Type}{f:α->Option β}:∀ {l:List α} {m:List β},mapO f l=some m->m.length=l.length
 | [],m,h=>by simp only[mapO,Option.some.injEq]at h;subst h;rfl
 |a::l,m,h=>by
  simp only[mapO]at h
  cases hf:f a with
  |none=>rw[hf]at h;cases h
  |some b=>
   rw[hf]at h
   cases hr:mapO f l with
   |none=>rw[hr]at h;cases h
   |some r=>
    rw[hr]at h
    simp only[Option.some.injEq]at h;subst h
    simp[mapO_len hr]
theorem rdE_inv{α:Type}{step:α->At->Option α}{z:α}{P:α->Prop}(hz:P z)(hs:∀x a y,step x a=some y->P x->P y)(s:List UInt8):P (rdE step z s).2:=by
 have hr:∀(l:List At) (x y:α),P x->run step x l=some y->P y:=by
  intro l
  induction l with
  |nil=>intro x y hx h;simp only[run,Option.some.injEq]at h;subst h;exact hx
  |cons a l ih=>
   intro x y hx h
   simp only[run]at h
   cases h1:step x a with
   |none=>rw[h1]at h;cases h
   |some x'=>rw[h1]at h;exact ih x' y (hs x a x' h1 hx) h
 unfold rdE
 split
 ·split
  ·rename_i x h;exact hr _ _ _ hz h
  ·exact hz
 ·exact hz
end Go.Tlv
namespace Go.Proofs.Ytblbaohcelldpaa.Ob
open Go Go.Abs Go.Tlv
set_option maxRecDepth 100000
theorem getL_len{β:Type}{rd:List UInt8->Option β}{t:Nat}{s:List UInt8}{l:List β}(ht:t<=32)(h:getL rd t s=some l):l.length<=32:=by
 unfold getL at h
 split at h
 ·rw[mapO_len h];exact lst_len ht
 ·cases h
theorem len_of{α β:Type}{step:α->At->Option α}{z:α}{g:α->List β}(hz:g z=[])(hs:∀x a y,step x a=some y->(g x).length<=32->(g y).length<=32)(s:List UInt8):(g (rdE step z s).2).length<=32:=
 rdE_inv (P:=fun x=>(g x).length<=32) (by rw[hz];simp) hs s
theorem ln_no(s:List UInt8):(rdE stepNode zNode s).2.arms.length<=32:=len_of (g:=ONode.arms) rfl (fun x a y h hx=>by
 unfold stepNode at h
 split at h<;>first|(obtain⟨v,hv,rfl⟩:=Option.map_eq_some_iff.1 h;first|exact hx|exact getL_len (by decide) hv)|cases h) s
theorem ln_ta(s:List UInt8):(rdE stepTable zTable s).2.keys.length<=32:=len_of (g:=OTable.keys) rfl (fun x a y h hx=>by
 unfold stepTable at h
 split at h<;>first|(obtain⟨v,hv,rfl⟩:=Option.map_eq_some_iff.1 h;first|exact hx|exact getL_len (by decide) hv)|cases h) s
theorem ln_en(s:List UInt8):(rdE stepEntry zEntry s).2.args.length<=32:=len_of (g:=OEntry.args) rfl (fun x a y h hx=>by
 unfold stepEntry at h
 split at h<;>first|(obtain⟨v,hv,rfl⟩:=Option.map_eq_some_iff.1 h;first|exact hx|exact getL_len (by decide) hv)|cases h) s
theorem ln_bl(s:List UInt8):(rdE stepBlock zBlock s).2.code.length<=32:=len_of (g:=OBlock.code) rfl (fun x a y h hx=>by
 unfold stepBlock at h
 split at h<;>first|(obtain⟨v,hv,rfl⟩:=Option.map_eq_some_iff.1 h;first|exact hx|exact getL_len (by decide) hv)|cases h) s
theorem ln_gr(s:List UInt8):(rdE stepGroup zGroup s).2.bks.length<=32:=len_of (g:=OGroup.bks) rfl (fun x a y h hx=>by
 unfold stepGroup at h
 split at h<;>first|(obtain⟨v,hv,rfl⟩:=Option.map_eq_some_iff.1 h;first|exact hx|exact getL_len (by decide) hv)|cases h) s
structure okB(x:OMsg):Prop where
 n:x.n.arms.length<1000000000
 t:x.t.keys.length<1000000000
 e:x.e.args.length<1000000000
 b:x.b.code.length<1000000000
 g:x.g.bks.length<1000000000
theorem okB_dec(k:Nat)(s:List UInt8):okB (decB k s).2:=by
 have h1:=ln_no s
 have h2:=ln_ta s
 have h3:=ln_en s
 have h4:=ln_bl s
 have h5:=ln_gr s
 unfold decB
 split<;>constructor<;>first|(show([]:List _).length<1000000000;decide)|(dsimp only;omega)
noncomputable section
theorem elif_ok{t:Nat}{d:Prop}:∀(l:List (Int×Prop)),(∀f∈l,(t:Int)=f.1->f.2)->((∀f∈l,f.1≠(t:Int))->d)->elif (real Try.prog) (t:Int) d l
 | [],_,h=>h fun f hf=>by cases hf
 |(c,p)::r,h1,h2=>n_eql (fun h=>h1 (c,p) (List.mem_cons_self ..) h) (fun h=>elif_ok r (fun f hf=>h1 f (List.mem_cons_of_mem _ hf)) fun h3=>h2 fun f hf=>by
  rcases List.mem_cons.1 hf with rfl|hf
  ·exact fun e=>h e.symm
  ·exact h3 f hf)
theorem neF{l:List (Int×Prop)}{t:Nat}(h:∀f∈l,f.1≠(t:Int))(n:Nat)(hm:(l.map (·.1)).contains (n:Int)=true):n≠t:=fun e=>by
 rw[List.contains_iff_mem]at hm
 obtain⟨f,h1,h2⟩:=List.mem_map.1 hm
 exact h f h1 (by rw[h2,e])
theorem nat_of{t n:Nat}(h:(t:Int)=(n:Int)):t=n:=by omega
def rvB(q:Nat×OMsg):Value := .tuple ⟨[vMsg q.2,.int .i64 (q.1:Int)]⟩
def MOr8:MOs:=⟨MRq stepNode zNode,MRq stepField zField,MRq stepTable zTable,MRq stepEntry zEntry,MRq stepBlock zBlock,MRq stepGroup zGroup,MRq stepMeter zMeter,MRq stepRegs zRegs⟩
theorem wkzW{off n:Nat}{v:Value}{x:OMsg}{e:Nat}{q:Nat×OMsg}(hq:q=(e,x))(h:WeakL (zW off n v) (lM x)):fiR (fun v=>Weak v (rvB q)) (zW off n v) (e:Int):=by
 subst hq
 exact .tup (.cons (.agg h) (WeakL.refl _))
theorem rkC{G:Nd->MOs->ByteArray->Int->(Value->Prop)->Prop}(heq:∀N M s k K,G N M s k K=bRk N M s k K)(k:Nat)(s:ByteArray):Is (G (real Try.prog) MOr8 s (k:Int) (fun v=>Weak v (rvB (decB k s.data.toList)))):=by
 refine⟨?_⟩
 rw[heq]
 refine elif_ok _ (all_cons (fun h=>?_) (all_cons (fun h=>?_) (all_cons (fun h=>?_) (all_cons (fun h=>?_) (all_cons (fun h=>?_) (all_cons (fun h=>?_) (all_cons (fun h=>?_) all_nil))))))) fun h=>?_
 ·rw[nat_of (n:=0) h];exact wkzW rfl (by repeat first|exact .nil|refine .cons (.refl _) ?_|refine .cons .nilD ?_)
 ·rw[nat_of (n:=1) h];exact wkzW rfl (by repeat first|exact .nil|refine .cons (.refl _) ?_|refine .cons .nilD ?_)
 ·rw[nat_of (n:=2) h];exact wkzW rfl (by repeat first|exact .nil|refine .cons (.refl _) ?_|refine .cons .nilD ?_)
 ·rw[nat_of (n:=3) h];exact wkzW rfl (by repeat first|exact .nil|refine .cons (.refl _) ?_|refine .cons .nilD ?_)
 ·rw[nat_of (n:=4) h];exact wkzW rfl (by repeat first|exact .nil|refine .cons (.refl _) ?_|refine .cons .nilD ?_)
 ·rw[nat_of (n:=5) h];exact wkzW rfl (by repeat first|exact .nil|refine .cons (.refl _) ?_|refine .cons .nilD ?_)
 ·rw[nat_of (n:=6) h];exact wkzW rfl (by repeat first|exact .nil|refine .cons (.refl _) ?_|refine .cons .nilD ?_)
 ·have h0:=neF h 0 rfl
  have h1:=neF h 1 rfl
  have h2:=neF h 2 rfl
  have h3:=neF h 3 rfl
  have h4:=neF h 4 rfl
  have h5:=neF h 5 rfl
  have h6:=neF h 6 rfl
  rw[decB_else (by omega)]
  exact wkzW rfl (by repeat first|exact .nil|refine .cons (.refl _) ?_|refine .cons .nilD ?_)
theorem puOr1:∀x∈puO1 MOr8,PuOk Try.prog 100 x.1 x.2:=
 all_cons (P:=fun x:FuncId×(List Value->(Value->Prop)->Prop)=>PuOk Try.prog 100 x.1 x.2) pRNo (all_cons pRFi (all_cons pRTa (all_cons pREn (all_cons pRBl (all_cons pRGr (all_cons pRMe (all_cons pRRg all_nil)))))))
theorem puOr2:∀x∈puO2 MOr8,PuOk Try.prog 100 x.1 x.2:=
 all_cons (P:=fun x:FuncId×(List Value->(Value->Prop)->Prop)=>PuOk Try.prog 100 x.1 x.2) (puRd rdNodeH) (all_cons (puRd rdFieldH) (all_cons (puRd rdTableH) (all_cons (puRd rdEntryH) (all_cons (puRd rdBlockH) (all_cons (puRd rdGroupH) (all_cons (puRd rdMeterH) (all_cons (puRd rdRegsH) all_nil)))))))
theorem dec24(k:Nat)(s:ByteArray)(B:Base)(H:Heap):CallH Try.prog 100 B 24 [.string s,.int .i64 (k:Int)] H (.returned (rvB (decB k s.data.toList))) H:=pu_mkW (kn_pu puOr1) lp_none rfl rfl (rkC gR24_eq k s) B H
theorem dec25(k:Nat)(s:ByteArray)(B:Base)(H:Heap):CallH Try.prog 100 B 25 [.string s,.int .i64 (k:Int)] H (.returned (rvB (decB k s.data.toList))) H:=pu_mkW (kn_pu puOr2) lp_none rfl rfl (rkC gR25_eq k s) B H
def MRr2:MR2:=fun s k K=>∃n:Nat,k=n/\K (decB n s.data.toList).2 ((decB n s.data.toList).1:Int)
theorem puR24:PuOk Try.prog 100 24 (sR2 MRr2):=by
 intro args K h
 unfold sR2 at h
 split at h<;>try exact h.elim
 obtain⟨n,rfl,hK⟩:=h
 exact⟨_,dec24 n _,hK⟩
def MSer{α:Type}(v:α->Value)(ok:α->Prop):MSe:=fun a b A E=>∃x:α,a=v x/\b=v x/\ok x/\A
theorem puSe{α:Type}{v:α->Value}{ok:α->Prop}{f:FuncId}(h:∀x y:α,ok x->∃b:Bool,(b=true↔x=y)/\∀B H,CallH Try.prog 100 B f [v x,v y] H (.returned (.bool b)) H):PuOk Try.prog 100 f (sSe (MSer v ok)):=by
 intro args K hs
 unfold sSe at hs
 split at hs<;>try exact hs.elim
 obtain⟨x,rfl,rfl,hx,hA⟩:=hs
 obtain⟨b,hb,hC⟩:=h x x hx
 rw[hb.2 rfl]at hC
 exact⟨_,hC,hA⟩
def MS8r:MS8:=⟨MSer vNode fitNode,MSer vField fun _=>True,MSer vTable fitTable,MSer vEntry fitEntry,MSer vBlock fitBlock,MSer vGroup fitGroup,MSer vMeter fun _=>True,MSer vRegs fun _=>True⟩
theorem puS8r:∀x∈puS8 MS8r,PuOk Try.prog 100 x.1 x.2:=
 all_cons (P:=fun x:FuncId×(List Value->(Value->Prop)->Prop)=>PuOk Try.prog 100 x.1 x.2) (puSe smNodeH) (all_cons (puSe fun x y _=>smFieldH x y) (all_cons (puSe smTableH) (all_cons (puSe smEntryH) (all_cons (puSe smBlockH) (all_cons (puSe smGroupH) (all_cons (puSe fun x y _=>smMeterH x y) (all_cons (puSe fun x y _=>smRegsH x y) all_nil)))))))
theorem same_self{x:OMsg}(hx:okB x)(B:Base)(H:Heap):CallH Try.prog 100 B 26 [vMsg x,vMsg x] H (.returned (.bool true)) H:=
 pu_mkV okp (kn_pu puS8r) lp_none rfl (v := .bool true) ⟨by
  show gSe (real Try.prog) MS8r x x _
  rw[gSe_eq]
  exact⟨x.n,rfl,rfl,hx.n,x.f,rfl,rfl,trivial,x.t,rfl,rfl,hx.t,x.e,rfl,rfl,hx.e,x.b,rfl,rfl,hx.b,x.g,rfl,rfl,hx.g,x.m,rfl,rfl,trivial,x.r,rfl,rfl,trivial,rfl⟩⟩ B H
theorem awake_ran:retTrue (ev Try.prog (fun _=>none) 10000 (.call 6 [] (hOf 100 [] [])))=true:=by kernel_rfl
theorem awakeH(B:Base)(H:Heap):CallH Try.prog 100 B 6 [] H (.returned (.bool true)) H:=by
 refine pure_lift (fun B=>?_) rfl rfl B H
 have h:=awake_ran
 unfold retTrue at h
 split at h
 ·rename_i u h' he
  have h1:CallH Try.prog 100 B 6 [] (hOf 100 [] []) (.returned (.bool true)) h':=ev_ok_all okp orc_none _ B _ _ he
  rcases Nat.lt_or_ge h'.next 100 with hle|hle
  ·intro F w args' R ha
   exact(h1 F w args' R ha).mono fun e' w' ⟨F',k1,k2,R'⟩=>by have:=R'.next_le;omega
  ·exact call_wk (ins:=[]) (call_objs hle h1) (wk_pure rfl)
 ·cases h
theorem puAwk:PuOk Try.prog 100 6 sAwk:=by
 intro args K h
 unfold sAwk at h
 split at h
 ·exact⟨_,awakeH,h⟩
 ·exact h.elim
end
end Go.Proofs.Ytblbaohcelldpaa.Ob
namespace Go.Proofs.Ytblbaohcelldpaa.Ob
open Go Go.Abs Go.Tlv
set_option maxRecDepth 100000
noncomputable section
abbrev LpPk(live live2:List Nat)(c:Code)(n:Nat)(vals:List Value)(obs:List (Option AObj))(K:LK):Prop:=
 ∃(α:Type) (k0 fuel:Nat) (m:α->Nat) (I:α->List Value×List (Option AObj)) (R:α->LK) (a:α),obs.length=k0/\Wk 100 (100+k0) vals obs (I a).1 (I a).2/\(∀e v o,R a e v o->K e v o)/\
  ∀a,Is (wpe Try.prog (real Try.prog) (howOf sy1F Zp [] [] [] []) fuel (.code false c (stOf 100 n live [] (I a))) (roundQ 100 live live2 n []
  (fun vals objs=>∃a',m a' < m a/\Wk 100 (100+k0) vals objs (I a').1 (I a').2/\∀e v o,R a' e v o->R a e v o)
  (fun e vals objs=>∃v o,Wk 100 (100+k0) vals objs v o/\R a e v o)))
theorem pkOwn{key ix j n:Nat}{ty:TypeId}{v:List Value}(hv:v.all isCell=true)(hn:v.length=n){cs:List Value}{k:Nat}{vs:List Value}(hlen:vs.length=k*n)(hk:k<1000000000)
  (heq:∀vs N y i back out,gS key ix cs (some (.cells vs ty 0 true true)) N y i back out=bO cs ty j n v k vs N y i back out) {y:OMsg} {K:LK}
  (hK:K (.exit j) [pA 103] [some (cM y),none,mO cs,mO cs]):LpPk [1,ix] [1] (loopIn Try.prog 27 key) 75 [pA 103,.int .i64 0] [some (cM y),some (.cells vs ty 0 true true),mO cs,mO cs] K:=by
 let I:{p:List Value×Nat // p.1.length=k*n/\p.2<=k}->List Value×List (Option AObj):=fun p=>([pA 103,.int .i64 (p.1.2:Int)],[some (cM y),some (.cells p.1.1 ty 0 true true),mO cs,mO cs])
 let R:LK:=fun ex v o=>ex = .exit j/\v=[pA 103]/\o=[some (cM y),none,mO cs,mO cs]
 refine⟨_,4,300,fun p=>k-p.1.2,I,fun _=>R,⟨(vs,0),hlen,Nat.zero_le _⟩,rfl,Wk.refl _ _ _ _,fun ex v o h=>?_,fun p=>⟨?_⟩⟩
 ·obtain⟨rfl,rfl,rfl⟩:=h;exact hK
 obtain⟨⟨vs,i⟩,hl,hi⟩:=p
 show gS key ix cs (some (.cells vs ty 0 true true)) (real Try.prog) y (i:Int) _ _
 rw[heq]
 dsimp only at hl hi
 refine n_ltN (fun hlt=>?_) (fun hge=>⟨rfl,_,_,wk_weak (WeakL.refl _) (.cons (.refl _) (.cons (.none _) (WeakOs.refl _))),rfl,rfl,rfl⟩)
 have h1:(i+1)*n<=k*n:=Nat.mul_le_mul_right n hlt
 rw[Nat.succ_mul]at h1
 exact n_idx i rfl hlt (n_wr hn hv (by rw[hl,Nat.zero_add];exact h1) (n_inc (by omega) ⟨rfl,⟨(splice vs (0+i*n) v,i+1),by dsimp only;rw[splice_eq,setAll_len];exact hl,hlt⟩,by show k-(i+1)<k-i;omega,Wk.refl _ _ _ _,fun _ _ _ h=>h⟩))
theorem pkEmp{key ix j:Nat}{cs:List Value}{ob:Option AObj}{P:Nd->Int->Prop}(heq:∀N y i back out,gS key ix cs ob N y i back out=bE cs ob j P N y i out){y:OMsg}{K:LK}
  (hK:K (.exit j) [pA 103] [some (cM y),ob,mO cs,mO cs]):LpPk [1,ix] [1] (loopIn Try.prog 27 key) 75 [pA 103,.int .i64 0] [some (cM y),ob,mO cs,mO cs] K:=by
 let R:LK:=fun ex v o=>ex = .exit j/\v=[pA 103]/\o=[some (cM y),ob,mO cs,mO cs]
 refine⟨Unit,4,300,fun _=>0,fun _=>([pA 103,.int .i64 0],[some (cM y),ob,mO cs,mO cs]),fun _=>R,(),rfl,Wk.refl _ _ _ _,fun ex v o h=>?_,fun p=>⟨?_⟩⟩
 ·obtain⟨rfl,rfl,rfl⟩:=h;exact hK
 show gS key ix cs ob (real Try.prog) y 0 _ _
 rw[heq]
 exact n_dlen 0 rfl (n_ltN (m:=0) (fun h=>absurd h (by omega)) (fun _=>⟨rfl,_,_,Wk.refl _ _ _ _,rfl,rfl,rfl⟩))
def LSx(key:Nat)(ty:TypeId)(n:Nat)(C:OMsg->Value->Value->Value->Value->Value->List Value):LSp:=fun c fr vals obs A E=>∃(y x:OMsg) (a b d e:Value),c=loopIn Try.prog 27 key/\fr=75/\vals=[pA 103,.int .i64 0]/\
 ((∃ob,obs=[some (cM y),ob,mO (C x nD0 a b d e),mO (C x nD0 a b d e)]/\A)∨∃(k:Nat) (vs:List Value),vs.length=k*n/\k<1000000000/\obs=[some (cM y),some (.cells vs ty 0 true true),mO (C x (sO 101 k) a b d e),mO (C x (sO 101 k) a b d e)]/\E)
theorem lpSp{key ix j n:Nat}{ty:TypeId}{v:List Value}{P:Nd->Int->Prop}{C:OMsg->Value->Value->Value->Value->Value->List Value}(hv:v.all isCell=true)(hn:v.length=n)
  (heqO:∀x a b d e k vs N y i back out,gS key ix (C x (sO 101 k) a b d e) (some (.cells vs ty 0 true true)) N y i back out=bO (C x (sO 101 k) a b d e) ty j n v k vs N y i back out)
  (heqE:∀x a b d e ob N y i back out,gS key ix (C x nD0 a b d e) ob N y i back out=bE (C x nD0 a b d e) ob j P N y i out):LoopOk Try.prog 100 [1,ix] (sLpSp j (LSx key ty n C)):=by
 show LoopOk Try.prog 100 [1,ix] (lpS [1] _)
 refine lp_mk okp (W:=howOf sy1F Zp [] [] [] []) kn_none lp_none ?_
 intro c fr vals obs K h
 split at h<;>try exact h.elim
 obtain⟨y,x,a,b,d,e,hc,hf,hv2,ho⟩:=h
 subst hc;subst hf
 simp only[List.cons.injEq,and_true]at hv2
 obtain⟨rfl,rfl⟩:=hv2
 rcases ho with⟨ob,ho,hA⟩ | ⟨k,vs,hl,hk,ho,hA⟩
 ·simp only[List.cons.injEq,and_true]at ho
  obtain⟨rfl,rfl,rfl,rfl⟩:=ho
  exact pkEmp (heqE x a b d e _) hA
 ·simp only[List.cons.injEq,and_true]at ho
  obtain⟨rfl,rfl,rfl,rfl⟩:=ho
  exact pkOwn hv hn hl hk (fun vs=>heqO x a b d e k vs) hA
abbrev LXA:LSp:=LSx 2 76 2 fun x v a b c d=>c5 x v a b c d
theorem lqA:LoopOk Try.prog 100 [1,2] (sLpSp 0 LXA):=lpSp (n:=2) (P:=PA) (v:=[.int .u32 99,.int .i64 0]) rfl rfl (fun x a b d e k vs N y i back out=>gA_eq x a b d e k vs N y i back out) (fun x a b d e ob N y i back out=>gAe_eq x a b d e ob N y i back out)
abbrev LXB:LSp:=LSx 6 3 1 fun x v a b c d=>c5 x a v b c d
theorem lqB:LoopOk Try.prog 100 [1,3] (sLpSp 2 LXB):=lpSp (n:=1) (P:=PB) (v:=[.int .i64 (-7)]) rfl rfl (fun x a b d e k vs N y i back out=>gB_eq x a b d e k vs N y i back out) (fun x a b d e ob N y i back out=>gBe_eq x a b d e ob N y i back out)
abbrev LXC:LSp:=LSx 10 23 1 fun x v a b c d=>c5 x a b v c d
theorem lqC:LoopOk Try.prog 100 [1,4] (sLpSp 4 LXC):=lpSp (n:=1) (P:=PC) (v:=[.int .u64 99]) rfl rfl (fun x a b d e k vs N y i back out=>gC_eq x a b d e k vs N y i back out) (fun x a b d e ob N y i back out=>gCe_eq x a b d e ob N y i back out)
abbrev LXD:LSp:=LSx 14 70 7 fun x v a b c d=>c5 x a b c v d
theorem lqD:LoopOk Try.prog 100 [1,5] (sLpSp 6 LXD):=lpSp (n:=7) (P:=PD) (v:=[.int .u8 99,.int .i64 0,.int .u8 0,.int .u64 0,.int .u8 0,.int .u64 0,.int .i64 0]) rfl rfl (fun x a b d e k vs N y i back out=>gD_eq x a b d e k vs N y i back out) (fun x a b d e ob N y i back out=>gDe_eq x a b d e ob N y i back out)
abbrev LXE:LSp:=LSx 18 82 2 fun x v a b c d=>c5 x a b c d v
theorem lqE:LoopOk Try.prog 100 [1,6] (sLpSp 8 LXE):=lpSp (n:=2) (P:=PE) (v:=[.int .u64 0,.int .i64 (-7)]) rfl rfl (fun x a b d e k vs N y i back out=>gE_eq x a b d e k vs N y i back out) (fun x a b d e ob N y i back out=>gEe_eq x a b d e ob N y i back out)
abbrev L5r:LS5:=⟨LXA,LXB,LXC,LXD,LXE⟩
theorem c5_self(x:OMsg):vMsg x = .agg ⟨c5 x (dsl (rowsOf cArm x.n.arms)) (dsl (rowsOf cInt x.t.keys)) (dsl (rowsOf cNat x.e.args)) (dsl (rowsOf cInstr x.b.code)) (dsl (rowsOf cBucket x.g.bks))⟩:=rfl
theorem c5_zf(x:OMsg)(h:x.a10=[]):zfreeL (c5 x nD0 nD0 nD0 nD0 nD0)=true:=by
 rcases x with⟨a0,a1,a2,a3,a4,a5,a6,a7,a8,a9,a10,n,f,t,e,b,g,m,r⟩
 dsimp only at h
 subst h
 rfl
theorem rows_ne{α:Type}{c:α->List Value}{l:List α}(h:l≠[]):rowsOf c l≠[]:=fun e=>h (by
 have:=congrArg List.length e
 rw[rowsOf_len]at this
 exact List.length_eq_zero_iff.1 this)
theorem thawM{α:Type}{c:α->List Value}{l:List α}{size:Nat}{elem:TypeId}{pre post:List Value}{e:Int}{s:ByteArray}{n:Nat}(hS:∀B H,CallH Try.prog 100 B 25 [.string s,.int .i64 (n:Int)] H (.returned (.tuple ⟨[.agg ⟨pre++dsl (rowsOf c l)::post⟩,.int .i64 e]⟩)) H)
  (h1:zfreeL pre=true) (h2:zfreeL post=true) (hc:∀x,(c x).length=size) (hz:∀x m,zfreeL m=true->zfreeL (c x++m)=true) (hne:l≠[]) (B:Base) (H:Heap):
  CallH Try.prog 100 B 25 [.string s,.int .i64 (n:Int)] H (.returned (.tuple ⟨[.agg ⟨pre++sO H.next l.length::post⟩,.int .i64 e]⟩)) (H.push (.cells (l.flatMap c) elem 0 true true)):=by
 have h:=thaw (elem:=elem) (p:=fun a => .tuple ⟨[]++(Value.agg ⟨pre++a::post⟩)::[.int .i64 e]⟩) (hole_tup (hole_agg hole_id h1 h2) rfl rfl) (rows:=rowsOf c l) hS rfl (flat_of hc l) (rows_ne hne) (zfree_of hz l) B H
 rw[rowsOf_len]at h
 exact h
def MTr:MTh:=fun s k A0 AA AB AC AD AE=>∃n:Nat,k=n/\
 (lst5 (decB n s.data.toList).2 0->lst5 (decB n s.data.toList).2 1->lst5 (decB n s.data.toList).2 2->lst5 (decB n s.data.toList).2 3->lst5 (decB n s.data.toList).2 4->A0 (decB n s.data.toList).2 ((decB n s.data.toList).1:Int))/\
 (¬lst5 (decB n s.data.toList).2 0->AA (decB n s.data.toList).2 (decB n s.data.toList).2.n.arms.length ((decB n s.data.toList).2.n.arms.flatMap cArm) ((decB n s.data.toList).1:Int))/\
 (¬lst5 (decB n s.data.toList).2 1->AB (decB n s.data.toList).2 (decB n s.data.toList).2.t.keys.length ((decB n s.data.toList).2.t.keys.flatMap cInt) ((decB n s.data.toList).1:Int))/\
 (¬lst5 (decB n s.data.toList).2 2->AC (decB n s.data.toList).2 (decB n s.data.toList).2.e.args.length ((decB n s.data.toList).2.e.args.flatMap cNat) ((decB n s.data.toList).1:Int))/\
 (¬lst5 (decB n s.data.toList).2 3->AD (decB n s.data.toList).2 (decB n s.data.toList).2.b.code.length ((decB n s.data.toList).2.b.code.flatMap cInstr) ((decB n s.data.toList).1:Int))/\
 (¬lst5 (decB n s.data.toList).2 4->AE (decB n s.data.toList).2 (decB n s.data.toList).2.g.bks.length ((decB n s.data.toList).2.g.bks.flatMap cBucket) ((decB n s.data.toList).1:Int))
end
end Go.Proofs.Ytblbaohcelldpaa.Ob
namespace Go.Proofs.Ytblbaohcelldpaa.Ob
open Go Go.Abs Go.Tlv
set_option maxRecDepth 100000
noncomputable section
theorem okTh:SumOk Try.prog 100 25 (sTh MTr):=by
 intro args H K h
 unfold sTh at h
 split at h<;>try exact h.elim
 rename_i s k
 obtain⟨n,rfl,k0,kA,kB,kC,kD,kE⟩:=h
 have hd:=dec25 n s
 have hl:=lists_of n s.data.toList
 have hz:=c5_zf _ (decB_w n s.data.toList)
 generalize decB n s.data.toList=q at hd hl hz k0 kA kB kC kD kE
 obtain⟨e,x⟩:=q
 dsimp only at k0 kA kB kC kD kE hl hz
 unfold rvB at hd
 dsimp only at hd
 rw[c5_self]at hd
 by_cases h0:lst5 x 0
 ·by_cases h1:lst5 x 1
  ·by_cases h2:lst5 x 2
   ·by_cases h3:lst5 x 3
    ·by_cases h4:lst5 x 4
     ·have hh:=k0 h0 h1 h2 h3 h4
      unfold lst5 at h0 h1 h2 h3 h4
      rw[h0,h1,h2,h3,h4]at hd
      exact⟨_,_,fun B=>skip_call (hd B H),hh⟩
     ·have g:=hl 4 (by decide) h4
      have e0:x.n.arms=[]:=g 0 (by decide) (by decide)
      have e1:x.t.keys=[]:=g 1 (by decide) (by decide)
      have e2:x.e.args=[]:=g 2 (by decide) (by decide)
      have e3:x.b.code=[]:=g 3 (by decide) (by decide)
      rw[e0,e1,e2,e3]at hd
      exact⟨_,_,fun B=>thawM (pre:=(c5 x nD0 nD0 nD0 nD0 nD0).take 46) (post:=(c5 x nD0 nD0 nD0 nD0 nD0).drop 47) hd (zfreeL_take _ _ hz) (zfreeL_drop _ _ hz) (size:=2) (fun _=>rfl) (fun _ _ h=>h) h4 B H,kE h4⟩
    ·have g:=hl 3 (by decide) h3
     have e0:x.n.arms=[]:=g 0 (by decide) (by decide)
     have e1:x.t.keys=[]:=g 1 (by decide) (by decide)
     have e2:x.e.args=[]:=g 2 (by decide) (by decide)
     have e4:x.g.bks=[]:=g 4 (by decide) (by decide)
     rw[e0,e1,e2,e4]at hd
     exact⟨_,_,fun B=>thawM (pre:=(c5 x nD0 nD0 nD0 nD0 nD0).take 42) (post:=(c5 x nD0 nD0 nD0 nD0 nD0).drop 43) hd (zfreeL_take _ _ hz) (zfreeL_drop _ _ hz) (size:=7) (fun _=>rfl) (fun _ _ h=>h) h3 B H,kD h3⟩
   ·have g:=hl 2 (by decide) h2
    have e0:x.n.arms=[]:=g 0 (by decide) (by decide)
    have e1:x.t.keys=[]:=g 1 (by decide) (by decide)
    have e3:x.b.code=[]:=g 3 (by decide) (by decide)
    have e4:x.g.bks=[]:=g 4 (by decide) (by decide)
    rw[e0,e1,e3,e4]at hd
    exact⟨_,_,fun B=>thawM (pre:=(c5 x nD0 nD0 nD0 nD0 nD0).take 36) (post:=(c5 x nD0 nD0 nD0 nD0 nD0).drop 37) hd (zfreeL_take _ _ hz) (zfreeL_drop _ _ hz) (size:=1) (fun _=>rfl) (fun _ _ h=>h) h2 B H,kC h2⟩
  ·have g:=hl 1 (by decide) h1
   have e0:x.n.arms=[]:=g 0 (by decide) (by decide)
   have e2:x.e.args=[]:=g 2 (by decide) (by decide)
   have e3:x.b.code=[]:=g 3 (by decide) (by decide)
   have e4:x.g.bks=[]:=g 4 (by decide) (by decide)
   rw[e0,e2,e3,e4]at hd
   exact⟨_,_,fun B=>thawM (pre:=(c5 x nD0 nD0 nD0 nD0 nD0).take 27) (post:=(c5 x nD0 nD0 nD0 nD0 nD0).drop 28) hd (zfreeL_take _ _ hz) (zfreeL_drop _ _ hz) (size:=1) (fun _=>rfl) (fun _ _ h=>h) h1 B H,kB h1⟩
 ·have g:=hl 0 (by decide) h0
  have e1:x.t.keys=[]:=g 1 (by decide) (by decide)
  have e2:x.e.args=[]:=g 2 (by decide) (by decide)
  have e3:x.b.code=[]:=g 3 (by decide) (by decide)
  have e4:x.g.bks=[]:=g 4 (by decide) (by decide)
  rw[e1,e2,e3,e4]at hd
  exact⟨_,_,fun B=>thawM (pre:=(c5 x nD0 nD0 nD0 nD0 nD0).take 18) (post:=(c5 x nD0 nD0 nD0 nD0 nD0).drop 19) hd (zfreeL_take _ _ hz) (zfreeL_drop _ _ hz) (size:=2) (fun _=>rfl) (fun _ _ h=>h) h0 B H,kA h0⟩
def MS2r:MS2:=fun v1 v2 objs A E=>∃b:Bool,(∀B H,objsOf 100 H=objs->CallH Try.prog 100 B 26 [v1,v2] H (.returned (.bool b)) H)/\(b=true->A)/\(b=false->E)
theorem okS2:SumOk Try.prog 100 26 (sS2 MS2r):=by
 intro args H K h
 unfold sS2 at h
 split at h<;>try exact h.elim
 obtain⟨b,h1,h2,h3⟩:=h
 refine⟨.bool b,H,fun B=>h1 B H rfl,?_⟩
 cases b with
 |true=>exact h2 rfl
 |false=>exact h3 rfl
theorem get_of{H:Heap}{objs:List (Option AObj)}{i:Nat}{o:AObj}(h:objsOf 100 H=objs)(hi:objs[i]?=some (some o)):H.get (100+i)=some o:=by
 rw[←h,objsOf_get]at hi
 split at hi
 ·simpa using hi
 ·cases hi
theorem lendM{α:Type}{c:α->List Value}{l:List α}{size:Nat}{elem:TypeId}{pre post:List Value}{z:OMsg}(hS:∀B H,CallH Try.prog 100 B 26 [.agg ⟨pre++dsl (rowsOf c l)::post⟩,vMsg z] H (.returned (.bool true)) H)
  (h1:belowL 0 pre=true) (h2:belowL 0 post=true) (hc:∀x,(c x).length=size) (hs:0<size) (hb:∀x m,belowL 0 m=true->belowL 0 (c x++m)=true) (B:Base) {H:Heap} {objs:List (Option AObj)} (ho:objsOf 100 H=objs) (hi:objs[1]?=some (some (.cells (l.flatMap c) elem 0 true true))):
  CallH Try.prog 100 B 26 [.agg ⟨pre++sO 101 l.length::post⟩,vMsg z] H (.returned (.bool true)) H:=
 lend (pre:=[]) (post:=[vMsg z]) (p:=fun a => .agg ⟨pre++a::post⟩) (holeB_agg holeB_id h1 h2) (rows:=rowsOf c l) hS (get_of ho hi) (flat_of hc l) (below_of hb l) hs (rowsOf_len _ _).symm (Nat.le_refl _) rfl rfl rfl B
theorem aftC{L:LS5}{s:ByteArray}{y:OMsg}{k f i:Nat}{back:List Value->List (Option AObj)->Prop}{out:Exit->List Value->Prop}{cs:List Value}{ob:Option AObj}(hi:i<2)
  (hS:∀B H,objsOf 100 H=[some (cM y),ob,mO cs]->CallH Try.prog 100 B 26 [.agg ⟨cs⟩,vMsg y] H (.returned (.bool true)) H)
  (h1:∀F:Option AObj->Prop,(∀o,F o)->inn 2 L.a y cs (inn 6 L.b y cs (inn 10 L.c y cs (inn 14 L.d y cs (inn 18 L.e y cs F)))) ob)
  (hb:back [.string s,.int .i64 (k:Int),pA 100,.int .i64 (f:Int),.int .i64 ((i+1:Nat):Int)] [some (cM y)]):aft (real Try.prog) MS2r L s y (k:Int) (f:Int) (i:Int) back out cs ob (f:Int):=
 n_neN (fun h=>absurd rfl h) (fun _=>⟨true,hS,fun _=>h1 _ fun _=>n_inc (by omega) ⟨rfl,hb⟩,fun h=>by cases h⟩)
theorem knRd:KnOk Try.prog 100 (wRd MTr MS2r L5r):=kn_ok (fun x hx=>by
 simp only[List.mem_cons,List.not_mem_nil,or_false]at hx
 rcases hx with rfl|rfl
 ·exact okTh
 ·exact okS2) (fun x hx=>by cases hx)
theorem lpRd:LpOk Try.prog 100 (wRd MTr MS2r L5r):=lp_ok (fun x hx=>by
 simp only[List.mem_cons,List.not_mem_nil,or_false]at hx
 rcases hx with rfl|rfl|rfl|rfl|rfl
 ·exact lqA
 ·exact lqB
 ·exact lqC
 ·exact lqD
 ·exact lqE)
def LR2r:LSp:=fun c n vals obs A E=>∃(s:ByteArray) (k:Nat),c=loopIn Try.prog 4 8/\n=45/\vals=[.string s,.int .i64 (k:Int),pA 100,.int .i64 ((decB k s.data.toList).1:Int),.int .i64 0]/\obs=[some (cM (decB k s.data.toList).2)]/\A
theorem lpR2:LoopOk Try.prog 100 [0,3,4,5,6] (sLpR2 LR2r):=by
 show LoopOk Try.prog 100 [0,3,4,5,6] (lpS [0,2,3] _)
 refine lp_mkK okp (W:=wRd MTr MS2r L5r) knRd lpRd ?_
 intro c n vals obs K h
 split at h<;>try exact h.elim
 obtain⟨s,k,hc,hn,hv,ho,hA⟩:=h
 subst hc;subst hn;subst ho
 simp only[List.cons.injEq,and_true]at hv
 obtain⟨rfl,rfl,rfl,rfl,rfl⟩:=hv
 have hx:=okB_dec k s.data.toList
 have hl:=lists_of k s.data.toList
 generalize hq:decB k s.data.toList=q at hx hl hA ⊢
 obtain⟨e,x⟩:=q
 dsimp only at hx hl hA ⊢
 refine⟨{i:Nat // i<=2},300,fun i=>2-i.1,fun i=>([.string s,.int .i64 (k:Int),pA 100,.int .i64 (e:Int),.int .i64 (i.1:Int)],[some (cM x)]),fun _ ex v=>ex = .exit 2/\v=[.string s,top,.int .i64 (k:Int)],⟨0,by omega⟩,Wk.refl _ _ _ _,fun ex v h=>?_,fun i=>⟨?_⟩⟩
 ·obtain⟨rfl,rfl⟩:=h;exact hA
 obtain⟨i,hi⟩:=i
 show gRo (real Try.prog) MTr MS2r L5r s x (k:Int) (e:Int) (i:Int) _ _
 rw[gRo_eq]
 have hS:=same_self hx
 rw[show vMsg x = .agg ⟨c5 x (dsl (rowsOf cArm x.n.arms)) (dsl (rowsOf cInt x.t.keys)) (dsl (rowsOf cNat x.e.args)) (dsl (rowsOf cInstr x.b.code)) (dsl (rowsOf cBucket x.g.bks))⟩from rfl]at hS
 refine n_ltN (d:=2) (fun hlt=>?_) (fun hge=>⟨rfl,rfl,rfl⟩)
 have em:∀ {key:Nat} {ty:TypeId} {n:Nat} {C:OMsg->Value->Value->Value->Value->Value->List Value} {F:Option AObj->Prop} (a b d e:Value) (ob:Option AObj),F ob->inn key (LSx key ty n C) x (C x nD0 a b d e) F ob:=fun a b d e ob hA=>⟨x,x,a,b,d,e,rfl,rfl,rfl,.inl ⟨ob,rfl,hA⟩⟩
 have ow:∀ {key:Nat} {ty:TypeId} {n m:Nat} {vs:List Value} {C:OMsg->Value->Value->Value->Value->Value->List Value} {F:Option AObj->Prop} (a b d e:Value),vs.length=m*n->m<1000000000->F none->inn key (LSx key ty n C) x (C x (sO 101 m) a b d e) F (some (.cells vs ty 0 true true)):=fun a b d e h1 h2 hA=>⟨x,x,a,b,d,e,rfl,rfl,rfl,.inr ⟨_,_,h1,h2,rfl,hA⟩⟩
 have eA:∀ {F:Option AObj->Prop} (a b c d:Value) (ob:Option AObj),F ob->inn 2 LXA x (c5 x nD0 a b c d) F ob:=fun a b c d ob h=>em (C:=fun x v a b c d=>c5 x v a b c d) a b c d ob h
 have oA:∀ {F:Option AObj->Prop} {m:Nat} {vs:List Value} (a b c d:Value),vs.length=m*2->m<1000000000->F none->inn 2 LXA x (c5 x (sO 101 m) a b c d) F (some (.cells vs 76 0 true true)):=fun a b c d h1 h2 h=>ow (C:=fun x v a b c d=>c5 x v a b c d) a b c d h1 h2 h
 have eB:∀ {F:Option AObj->Prop} (a b c d:Value) (ob:Option AObj),F ob->inn 6 LXB x (c5 x a nD0 b c d) F ob:=fun a b c d ob h=>em (C:=fun x v a b c d=>c5 x a v b c d) a b c d ob h
 have oB:∀ {F:Option AObj->Prop} {m:Nat} {vs:List Value} (a b c d:Value),vs.length=m*1->m<1000000000->F none->inn 6 LXB x (c5 x a (sO 101 m) b c d) F (some (.cells vs 3 0 true true)):=fun a b c d h1 h2 h=>ow (C:=fun x v a b c d=>c5 x a v b c d) a b c d h1 h2 h
 have eC:∀ {F:Option AObj->Prop} (a b c d:Value) (ob:Option AObj),F ob->inn 10 LXC x (c5 x a b nD0 c d) F ob:=fun a b c d ob h=>em (C:=fun x v a b c d=>c5 x a b v c d) a b c d ob h
 have oC:∀ {F:Option AObj->Prop} {m:Nat} {vs:List Value} (a b c d:Value),vs.length=m*1->m<1000000000->F none->inn 10 LXC x (c5 x a b (sO 101 m) c d) F (some (.cells vs 23 0 true true)):=fun a b c d h1 h2 h=>ow (C:=fun x v a b c d=>c5 x a b v c d) a b c d h1 h2 h
 have eD:∀ {F:Option AObj->Prop} (a b c d:Value) (ob:Option AObj),F ob->inn 14 LXD x (c5 x a b c nD0 d) F ob:=fun a b c d ob h=>em (C:=fun x v a b c d=>c5 x a b c v d) a b c d ob h
 have oD:∀ {F:Option AObj->Prop} {m:Nat} {vs:List Value} (a b c d:Value),vs.length=m*7->m<1000000000->F none->inn 14 LXD x (c5 x a b c (sO 101 m) d) F (some (.cells vs 70 0 true true)):=fun a b c d h1 h2 h=>ow (C:=fun x v a b c d=>c5 x a b c v d) a b c d h1 h2 h
 have eE:∀ {F:Option AObj->Prop} (a b c d:Value) (ob:Option AObj),F ob->inn 18 LXE x (c5 x a b c d nD0) F ob:=fun a b c d ob h=>em (C:=fun x v a b c d=>c5 x a b c d v) a b c d ob h
 have oE:∀ {F:Option AObj->Prop} {m:Nat} {vs:List Value} (a b c d:Value),vs.length=m*2->m<1000000000->F none->inn 18 LXE x (c5 x a b c d (sO 101 m)) F (some (.cells vs 82 0 true true)):=fun a b c d h1 h2 h=>ow (C:=fun x v a b c d=>c5 x a b c d v) a b c d h1 h2 h
 have hbk:∃a':{i:Nat // i<=2},2-a'.1<2-i/\[.string s,.int .i64 (k:Int),pA 100,.int .i64 (e:Int),.int .i64 ((i+1:Nat):Int)]=[.string s,.int .i64 (k:Int),pA 100,.int .i64 (e:Int),.int .i64 (a'.1:Int)]/\[some (cM x)]=[some (cM x)]/\∀ex (v:List Value),(ex=Exit.exit 2/\v=[.string s,top,.int .i64 (k:Int)])->(ex = .exit 2/\v=[.string s,top,.int .i64 (k:Int)]):=⟨⟨i+1,hlt⟩,by show 2-(i+1)<2-i;omega,rfl,rfl,fun _ _ h=>h⟩
 refine⟨k,rfl,?_⟩
 rw[hq]
 dsimp only
 refine⟨fun h0 h1 h2 h3 h4=>?_,fun hh=>?_,fun hh=>?_,fun hh=>?_,fun hh=>?_,fun hh=>?_⟩
 ·refine aftC hlt (fun B H _=>?_) (fun F hF=>eA nD0 nD0 nD0 nD0 _ (eB nD0 nD0 nD0 nD0 _ (eC nD0 nD0 nD0 nD0 _ (eD nD0 nD0 nD0 nD0 _ (eE nD0 nD0 nD0 nD0 _ (hF _)))))) hbk
  unfold lst5 at h0 h1 h2 h3 h4
  rw[h0,h1,h2,h3,h4]at hS;rw[c5_self,h0,h1,h2,h3,h4];exact hS B H
 ·have g:=hl 0 (by decide) hh
  have e1:x.t.keys=[]:=g 1 (by decide) (by decide)
  have e2:x.e.args=[]:=g 2 (by decide) (by decide)
  have e3:x.b.code=[]:=g 3 (by decide) (by decide)
  have e4:x.g.bks=[]:=g 4 (by decide) (by decide)
  refine aftC hlt (fun B H ho=>?_) (fun F hF=>oA nD0 nD0 nD0 nD0 (by rw[flat_len (c:=cArm) (n:=2) (fun _=>rfl)]) hx.n (eB (sO 101 _) nD0 nD0 nD0 _ (eC (sO 101 _) nD0 nD0 nD0 _ (eD (sO 101 _) nD0 nD0 nD0 _ (eE (sO 101 _) nD0 nD0 nD0 _ (hF _)))))) hbk
  rw[e1,e2,e3,e4]at hS
  exact lendM (c:=cArm) (size:=2) (pre:=(c5 x nD0 nD0 nD0 nD0 nD0).take 18) (post:=(c5 x nD0 nD0 nD0 nD0 nD0).drop 19) (fun B H=>by rw[c5_self x,e1,e2,e3,e4];exact hS B H) rfl rfl (fun _=>rfl) (by decide) (fun _ _ h=>h) B ho rfl
 ·have g:=hl 1 (by decide) hh
  have e0:x.n.arms=[]:=g 0 (by decide) (by decide)
  have e2:x.e.args=[]:=g 2 (by decide) (by decide)
  have e3:x.b.code=[]:=g 3 (by decide) (by decide)
  have e4:x.g.bks=[]:=g 4 (by decide) (by decide)
  refine aftC hlt (fun B H ho=>?_) (fun F hF=>eA (sO 101 _) nD0 nD0 nD0 _ (oB nD0 nD0 nD0 nD0 (by rw[flat_len (c:=cInt) (n:=1) (fun _=>rfl)]) hx.t (eC nD0 (sO 101 _) nD0 nD0 _ (eD nD0 (sO 101 _) nD0 nD0 _ (eE nD0 (sO 101 _) nD0 nD0 _ (hF _)))))) hbk
  rw[e0,e2,e3,e4]at hS
  exact lendM (c:=cInt) (size:=1) (pre:=(c5 x nD0 nD0 nD0 nD0 nD0).take 27) (post:=(c5 x nD0 nD0 nD0 nD0 nD0).drop 28) (fun B H=>by rw[c5_self x,e0,e2,e3,e4];exact hS B H) rfl rfl (fun _=>rfl) (by decide) (fun _ _ h=>h) B ho rfl
 ·have g:=hl 2 (by decide) hh
  have e0:x.n.arms=[]:=g 0 (by decide) (by decide)
  have e1:x.t.keys=[]:=g 1 (by decide) (by decide)
  have e3:x.b.code=[]:=g 3 (by decide) (by decide)
  have e4:x.g.bks=[]:=g 4 (by decide) (by decide)
  refine aftC hlt (fun B H ho=>?_) (fun F hF=>eA nD0 (sO 101 _) nD0 nD0 _ (eB nD0 (sO 101 _) nD0 nD0 _ (oC nD0 nD0 nD0 nD0 (by rw[flat_len (c:=cNat) (n:=1) (fun _=>rfl)]) hx.e (eD nD0 nD0 (sO 101 _) nD0 _ (eE nD0 nD0 (sO 101 _) nD0 _ (hF _)))))) hbk
  rw[e0,e1,e3,e4]at hS
  exact lendM (c:=cNat) (size:=1) (pre:=(c5 x nD0 nD0 nD0 nD0 nD0).take 36) (post:=(c5 x nD0 nD0 nD0 nD0 nD0).drop 37) (fun B H=>by rw[c5_self x,e0,e1,e3,e4];exact hS B H) rfl rfl (fun _=>rfl) (by decide) (fun _ _ h=>h) B ho rfl
 ·have g:=hl 3 (by decide) hh
  have e0:x.n.arms=[]:=g 0 (by decide) (by decide)
  have e1:x.t.keys=[]:=g 1 (by decide) (by decide)
  have e2:x.e.args=[]:=g 2 (by decide) (by decide)
  have e4:x.g.bks=[]:=g 4 (by decide) (by decide)
  refine aftC hlt (fun B H ho=>?_) (fun F hF=>eA nD0 nD0 (sO 101 _) nD0 _ (eB nD0 nD0 (sO 101 _) nD0 _ (eC nD0 nD0 (sO 101 _) nD0 _ (oD nD0 nD0 nD0 nD0 (by rw[flat_len (c:=cInstr) (n:=7) (fun _=>rfl)]) hx.b (eE nD0 nD0 nD0 (sO 101 _) _ (hF _)))))) hbk
  rw[e0,e1,e2,e4]at hS
  exact lendM (c:=cInstr) (size:=7) (pre:=(c5 x nD0 nD0 nD0 nD0 nD0).take 42) (post:=(c5 x nD0 nD0 nD0 nD0 nD0).drop 43) (fun B H=>by rw[c5_self x,e0,e1,e2,e4];exact hS B H) rfl rfl (fun _=>rfl) (by decide) (fun _ _ h=>h) B ho rfl
 ·have g:=hl 4 (by decide) hh
  have e0:x.n.arms=[]:=g 0 (by decide) (by decide)
  have e1:x.t.keys=[]:=g 1 (by decide) (by decide)
  have e2:x.e.args=[]:=g 2 (by decide) (by decide)
  have e3:x.b.code=[]:=g 3 (by decide) (by decide)
  refine aftC hlt (fun B H ho=>?_) (fun F hF=>eA nD0 nD0 nD0 (sO 101 _) _ (eB nD0 nD0 nD0 (sO 101 _) _ (eC nD0 nD0 nD0 (sO 101 _) _ (eD nD0 nD0 nD0 (sO 101 _) _ (oE nD0 nD0 nD0 nD0 (by rw[flat_len (c:=cBucket) (n:=2) (fun _=>rfl)]) hx.g (hF _)))))) hbk
  rw[e0,e1,e2,e3]at hS
  exact lendM (c:=cBucket) (size:=2) (pre:=(c5 x nD0 nD0 nD0 nD0 nD0).take 46) (post:=(c5 x nD0 nD0 nD0 nD0 nD0).drop 47) (fun B H=>by rw[c5_self x,e0,e1,e2,e3];exact hS B H) rfl rfl (fun _=>rfl) (by decide) (fun _ _ h=>h) B ho rfl
def LRxr:LSp:=fun c n vals obs A E=>∃s:ByteArray,c=loopIn Try.prog 4 4/\n=45/\vals=[.string s,.int .i64 0]/\obs=[]/\A
theorem lpRx:LoopOk Try.prog 100 [0,3] (sLpRx LRxr):=by
 show LoopOk Try.prog 100 [0,3] (lpS [2] _)
 refine lp_mkK okp (W:=howOf Z0 Zp [] [(8,(45,([0,3,4,5,6],sLpR2 LR2r)))] [(24,sR2 MRr2)] []) (kn_pu (pu_one1 puR24)) (lp_ok (fun x hx=>by simp only[List.mem_singleton]at hx;subst hx;exact lpR2)) ?_
 rintro c n vals obs K ⟨s,hc,hn,hv,ho,hA⟩
 subst hc;subst hn;subst hv;subst ho
 refine⟨{i:Nat // i<=8},300,fun i=>8-i.1,fun i=>([.string s,.int .i64 (i.1:Int)],[]),fun _ ex v=>ex = .exit 0/\v=[top],⟨0,by omega⟩,Wk.refl _ _ _ _,fun ex v h=>?_,fun i=>⟨?_⟩⟩
 ·obtain⟨rfl,rfl⟩:=h;exact hA
 obtain⟨i,hi⟩:=i
 show gRw (real Try.prog) MRr2 LR2r s (i:Int) _ _
 rw[gRw_eq]
 exact n_ltN (d:=8) (fun hlt=>⟨i,rfl,s,i,rfl,rfl,rfl,rfl,n_inc (by omega) ⟨rfl,⟨i+1,hlt⟩,by show 8-(i+1)<8-i;omega,rfl,rfl,fun _ _ h=>h⟩⟩) (fun _=>⟨rfl,rfl,rfl⟩)
theorem orC(s:ByteArray):Is (gOr (real Try.prog) LRxr s (fun v=>v = .bool true)):=by
 refine⟨?_⟩
 rw[gOr_eq]
 exact n_slen (n_gtr (fun _=>rfl) (fun _=>⟨s,rfl,rfl,rfl,rfl,rfl⟩))
theorem lawOr(s:ByteArray)(B:Base)(H:Heap):CallH Try.prog 100 B 4 [.string s] H (.returned (.bool true)) H:=
 pu_mkV okp (kn_pu (pu_one1 puAwk)) (lp_ok (fun x hx=>by simp only[List.mem_singleton]at hx;subst hx;exact lpRx)) rfl (orC s) B H
end
end Go.Proofs.Ytblbaohcelldpaa.Ob
