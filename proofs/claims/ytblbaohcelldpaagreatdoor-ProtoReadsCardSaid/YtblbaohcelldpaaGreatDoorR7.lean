/- . -/
import Derived.Test.YtblbaohcelldpaaGreatDoorR5
import Derived.Test.YtblbaohcelldpaaGreatDoorWH
import Derived.Test.YtblbaohcelldpaaGreatDoorQN
import Derived.Test.YtblbaohcelldpaaGreatDoorQ4
import Derived.Test.YtblbaohcelldpaaGreatDoorN1
import Derived.Test.YtblbaohcelldpaaGreatDoorS6
set_option linter.all false
set_option maxRecDepth 100000
namespace Go.Proofs.Ob
open Go Go.Abs Go.Tlv
noncomputable section
def AIu(H:Heap):Heap:={H with next:=H.next+1}
def c3(x:BB)(a b c:Value):List Value:=(((lM x).set 10 a).set 18 b).set 42 c
def nD0:Value:=dsl []
def sO(b k:Nat):Value := .slice (some ⟨b,0,none⟩) k k
def AIa:Sy:=fun b=>match Nat.beq b 101 with|true=>some false|false=>none
abbrev MTh:=ByteArray->(BB->Int->Prop)->(BB->Nat->List Value->Int->Prop)->(BB->Nat->List Value->Int->Prop)->(BB->Nat->List Value->Int->Prop)->Prop
def sTh(M:MTh):List Value->Heap->VK->Prop
 | [.string s],H,K=>M s (fun x e=>K (.tuple ⟨[.agg ⟨c3 x nD0 nD0 nD0⟩,.int .i64 e]⟩) (AIu H))
  (fun x k vs e=>K (.tuple ⟨[.agg ⟨c3 x (sO H.next k) nD0 nD0⟩,.int .i64 e]⟩) (H.push (.cells vs 28 0 true true)))
  (fun x k vs e=>K (.tuple ⟨[.agg ⟨c3 x nD0 (sO H.next k) nD0⟩,.int .i64 e]⟩) (H.push (.cells vs 61 0 true true)))
  (fun x k vs e=>K (.tuple ⟨[.agg ⟨c3 x nD0 nD0 (sO H.next k)⟩,.int .i64 e]⟩) (H.push (.cells vs 66 0 true true)))
 |_,_,_=>False
abbrev MS2:=Value->Value->List (Option AJ)->Prop->Prop->Prop
def sS2(M:MS2):List Value->Heap->VK->Prop
 | [v1,v2],H,K=>M v1 v2 (CY 100 H) (K (.bool true) H) (K (.bool false) H)
 |_,_,_=>False
abbrev LSp:=Code->Nat->List Value->List (Option AJ)->Prop->Prop->Prop
def eY(j:Nat)(L:LSp):LpS:=lpS [0,3,4,5,6] fun c n AB obs K=>match AB,obs with
 | [a,b,d,e,f,_],[w,o,m]=>L c n AB obs (K (.exit j) [a,b,d,e,f] [w,o,m]) (K (.exit j) [a,b,d,e,f] [w,none,m])
 |_,_=>False
def mO(cs:List Value):Option AJ:=some (.cells cs 51 52 false true)
def wRd(MT:MTh)(MS:MS2)(L1 L2 L3:LSp):How:=AU Z0 Zp [(17,sTh MT),(22,sS2 MS)] [(11,(78,([0,3,4,5,6,8],eY 2 L1))),(15,(78,([0,3,4,5,6,9],eY 4 L2))),(19,(78,([0,3,4,5,6,10],eY 6 L3)))] [] []
def AJj(N:Nd)(MT:MTh)(MS:MS2)(L1 L2 L3:LSp)(s:ByteArray)(z:BB)(e i:Int)(back:BK)(out:Exit->List Value->Prop):Prop:=
 wpe Tryz.prog N (wRd MT MS L1 L2 L3) 300 (.code false (AO Tryz.prog 4 5) (C9 100 78 [0,3,4,5] [] ([.string s,pA 100,.int .i64 e,.int .i64 i],[some (cM z)]))) (wO 1 [0,3,4,5] [2] 78 back out)
def vS(s:ByteArray)(e r i:Int):List Value:=[.string s,pA 100,.int .i64 e,.int .i64 r,pA 102,.int .i64 i]
def inn(key:Nat)(L:LSp)(s:ByteArray)(z:BB)(e i:Int)(cs:List Value)(K:Option AJ->Prop)(ob:Option AJ):Prop:=L (AO Tryz.prog 4 key) 78 (vS s e i 0) [some (cM z),ob,mO cs] (K ob) (K none)
def aft(N:Nd)(MS:MS2)(L1 L2 L3:LSp)(s:ByteArray)(z:BB)(e i:Int)(back:BK)(out:Exit->List Value->Prop)(cs:List Value)(ob:Option AJ)(f:Int):Prop:=
 N.cmp .neq .i64 f .i64 e (([]:List Deferred)=[]/\out .ret [.bool false]) (MS (.agg ⟨cs⟩) (JO z) [some (cM z),ob,mO cs]
  (inn 11 L1 s z e i cs (inn 15 L2 s z e i cs (inn 19 L3 s z e i cs fun _=>N.ari .add .i64 i .i64 1 fun j=>([]:List Deferred)=[]/\back [.string s,pA 100,.int .i64 e,.int .i64 j] [some (cM z)])) ob)
  (([]:List Deferred)=[]/\out .ret [.bool false]))
theorem AE6(N:Nd)(MT:MTh)(MS:MS2)(L1 L2 L3:LSp)(s:ByteArray)(z:BB)(e i:Int)(back:BK)(out:Ov):AJj N MT MS L1 L2 L3 s z e i back out=N.cmp .lss .i64 i .i64 2 (MT s (fun x f=>aft N MS L1 L2 L3 s z e i back out (c3 x nD0 nD0 nD0) none f) (fun x k vs f=>aft N MS L1 L2 L3 s z e i back out (c3 x (sO 101 k) nD0 nD0) (some (.cells vs 28 0 true true)) f)
 (fun x k vs f=>aft N MS L1 L2 L3 s z e i back out (c3 x nD0 (sO 101 k) nD0) (some (.cells vs 61 0 true true)) f) (fun x k vs f=>aft N MS L1 L2 L3 s z e i back out (c3 x nD0 nD0 (sO 101 k)) (some (.cells vs 66 0 true true)) f))
 (([]:List Deferred)=[]/\out (.exit 0) [top]):=by kernel_rfl
abbrev LRo:=Code->Nat->List Value->List (Option AJ)->Prop->Prop->Prop
def AGG(L:LRo):LpS:=lpS [2] fun c n AB obs K=>L c n AB obs (K (.exit 0) [top] (obs.map fun _=>none)) (K .ret [.bool false] (obs.map fun _=>none))
def gPr(N:Nd)(MD:MD1)(L:LRo)(s:ByteArray)(K:Value->Prop):Prop:=wpe Tryz.prog N (AU Z0 Zp [] [(5,(78,([0,3,4,5],AGG L)))] [(21,sD1 MD),(11,sAw)] []) 300 (.call 4 [(.string s)] h0) (II K)
theorem AHm(N:Nd)(MD:MD1)(L:LRo)(s:ByteArray)(K:Value->Prop):gPr N MD L s K=N.slen s fun n=>N.cmp .gtr .i64 n .i64 20000 (K (.bool true)) (MD s fun z e=>L (AO Tryz.prog 4 5) 78 [.string s,pA 100,.int .i64 e,.int .i64 0] [some (cM z)] (K (.bool true)) (K (.bool false))):=by kernel_rfl
def gS(key ix:Nat)(cs:List Value)(ob:Option AJ)(N:Nd)(s:ByteArray)(z:BB)(e r i:Int)(back:BK)(out:OT):Prop:=
 wpe Tryz.prog N (AU AIa Zp [] [] [] []) 300 (.code false (AO Tryz.prog 4 key) (C9 100 78 [0,3,4,5,6,ix] [] (vS s e r i,[some (cM z),ob,mO cs]))) (BM 100 [0,3,4,5,6,ix] [0,3,4,5,6] 78 [] back out)
def ouS(cs:List Value)(ob:Option AJ)(j:Nat)(s:ByteArray)(z:BB)(e r:Int)(out:OT):Prop:=([]:List Deferred)=[]/\out (.exit j) [.string s,pA 100,.int .i64 e,.int .i64 r,pA 102] [some (cM z),ob,mO cs]
def bO(cs:List Value)(ty:TypeId)(j n d:Nat)(v:Value)(k:Nat)(vs:List Value)(N:Nd)(s:ByteArray)(z:BB)(e r i:Int)(back:BK)(out:OT):Prop:=
 N.cmp .lss .i64 i .i64 (k:Int) (N.idx k 0 n i fun o=>N.wr vs (o+d) 1 [v] fun vs'=>N.ari .add .i64 i .i64 1 fun i'=>([]:List Deferred)=[]/\back (vS s e r i') [some (cM z),some (.cells vs' ty 0 true true),mO cs]) (ouS cs (some (.cells vs ty 0 true true)) j s z e r out)
def bE(cs:List Value)(ob:Option AJ)(j:Nat)(P:Nd->Int->Prop)(N:Nd)(s:ByteArray)(z:BB)(e r i:Int)(out:OT):Prop:=N.dlen [] fun n=>N.cmp .lss .i64 i .i64 (n:Int) (P N i) (ouS cs ob j s z e r out)
theorem AG2(N:Nd)(s:ByteArray)(z:BB)(e r:Int)(x:BB)(a b:Value)(k:Nat)(vs:List Value)(i:Int)(back:BK)(out:OT):gS 11 8 (c3 x (sO 101 k) a b) (some (.cells vs 28 0 true true)) N s z e r i back out=bO (c3 x (sO 101 k) a b) 28 2 1 0 (.int .u64 7) k vs N s z e r i back out:=by kernel_rfl
theorem AG3(N:Nd)(s:ByteArray)(z:BB)(e r:Int)(x:BB)(a b:Value)(k:Nat)(vs:List Value)(i:Int)(back:BK)(out:OT):gS 15 9 (c3 x a b (sO 101 k)) (some (.cells vs 66 0 true true)) N s z e r i back out=bO (c3 x a b (sO 101 k)) 66 4 7 0 (.int .u8 99) k vs N s z e r i back out:=by kernel_rfl
theorem AG4(N:Nd)(s:ByteArray)(z:BB)(e r:Int)(x:BB)(a b:Value)(k:Nat)(vs:List Value)(i:Int)(back:BK)(out:OT):gS 19 10 (c3 x a (sO 101 k) b) (some (.cells vs 61 0 true true)) N s z e r i back out=bO (c3 x a (sO 101 k) b) 61 6 2 1 (.int .i64 99) k vs N s z e r i back out:=by kernel_rfl
def P11(N:Nd)(i:Int):Prop:=N.dget [] i 1 fun l=>N.rdI .u64 l 0 fun _=>False
def P15(N:Nd)(i:Int):Prop:=N.dget [] i 7 fun l=>N.rdI .u8 l 0 fun _=>N.rdI .i64 l 1 fun _=>N.rdI .u8 l 2 fun _=>N.rdI .u64 l 3 fun _=>N.rdI .u8 l 4 fun _=>N.rdI .u64 l 5 fun _=>N.rdI .i64 l 6 fun _=>False
def P19(N:Nd)(i:Int):Prop:=N.dget [] i 2 fun l=>N.rdI .u32 l 0 fun _=>N.rdI .i64 l 1 fun _=>False
theorem AEE(N:Nd)(s:ByteArray)(z:BB)(e r:Int)(x:BB)(a b:Value)(ob:Option AJ)(i:Int)(back:BK)(out:OT):gS 11 8 (c3 x nD0 a b) ob N s z e r i back out=bE (c3 x nD0 a b) ob 2 P11 N s z e r i out:=by kernel_rfl
theorem AEF(N:Nd)(s:ByteArray)(z:BB)(e r:Int)(x:BB)(a b:Value)(ob:Option AJ)(i:Int)(back:BK)(out:OT):gS 15 9 (c3 x a b nD0) ob N s z e r i back out=bE (c3 x a b nD0) ob 4 P15 N s z e r i out:=by kernel_rfl
theorem AEG(N:Nd)(s:ByteArray)(z:BB)(e r:Int)(x:BB)(a b:Value)(ob:Option AJ)(i:Int)(back:BK)(out:OT):gS 19 10 (c3 x a nD0 b) ob N s z e r i back out=bE (c3 x a nD0 b) ob 6 P19 N s z e r i out:=by kernel_rfl
end
end Go.Proofs.Ob
namespace Go.Tlv
open Go Go.Abs
def AFq(x:BB):Nat->Prop
 | 9=>x.a10=[]
 | 10=>x.n.arms=[]
 | 12=>x.t.keys=[]
 | 13=>x.e.args=[]
 | 14=>x.b.code=[]
 | 15=>x.g.bks=[]
 |_=>True
end Go.Tlv
namespace Go.Proofs.Ob
open Go Go.Abs Go.Tlv
theorem ACZ{kd xid:Nat}{x:BB}(h:jF kd xid x){t:Nat}(hb:hasB kd t=false):AFq x t:=by
 have hz:jF kd xid (G5 kd xid):=(AFZ kd xid).z
 have hp:=h.no t hb
 have hp0:=hz.no t hb
 have hc:∀ {β:Type} {get:List UInt8->Option β} {put:β->List UInt8} {good:β->Prop} (C:Cd get put good) {a b:β},good a->good b->put a=[]->put b=[]->a=b:=fun C a b ha hb h1 h2=>C.inj ha hb (by rw[h1,h2])
 unfold AFq
 split
 ·exact hc cdW h.f.a10 hz.f.a10 hp hp0
 ·exact congrArg DX.arms (hc lN h.f.n hz.f.n hp hp0)
 ·exact congrArg DC.keys (hc aZ h.f.t hz.f.t hp hp0)
 ·exact congrArg CJ.args (hc aX h.f.e hz.f.e hp hp0)
 ·exact congrArg D6.code (hc aW h.f.b hz.f.b hp hp0)
 ·exact congrArg DL.bks (hc aY h.f.g hz.f.g hp hp0)
 ·trivial
theorem one_has(k:Nat):∀a∈[9,10,12,13,14,15],∀b∈[9,10,12,13,14,15],a≠b->hasB k a=true->hasB k b=false:=by
 by_cases hk:k<47
 ·have h:∀k:Fin 47,∀a∈[9,10,12,13,14,15],∀b∈[9,10,12,13,14,15],a≠b->hasB k.val a=true->hasB k.val b=false:=by decide +kernel
  exact h ⟨k,hk⟩
 ·intro a _ b _ _ h
  unfold hasB at h
  rw[decide_eq_false hk]at h;cases h
theorem ACH(s:List UInt8):∀a∈[9,10,12,13,14,15],¬AFq (ES s).2 a->∀b∈[9,10,12,13,14,15],a≠b->AFq (ES s).2 b:=by
 intro a ha hn b hb hne
 by_cases h0:(ES s).1=0
 ·obtain⟨_,_,_,_,hg,_⟩:=ACb (s:=s) (z:=(ES s).2) (Prod.ext h0 rfl)
  cases h:hasB (kdB s) a with
  |true=>exact ACZ hg (one_has _ a ha b hb hne h)
  |false=>exact absurd (ACZ hg h) hn
 ·rw[yN h0]
  simp only[List.mem_cons,List.not_mem_nil,or_false]at hb
  rcases hb with rfl|rfl|rfl|rfl|rfl|rfl<;>rfl
noncomputable section
abbrev AIF(live live2:List Nat)(c:Code)(n:Nat)(AB:List Value)(obs:List (Option AJ))(K:LK):Prop:=
 ∃(α:Type) (k0 fuel:Nat) (m:α->Nat) (I:α->List Value×List (Option AJ)) (R:α->LK) (a:α),obs.length=k0/\Wk 100 (100+k0) AB obs (I a).1 (I a).2/\(∀e v o,R a e v o->K e v o)/\
  ∀a,Is (wpe Tryz.prog (real Tryz.prog) (AU AIa Zp [] [] [] []) fuel (.code false c (C9 100 n live [] (I a))) (BM 100 live live2 n []
  (fun AB AL=>∃a',m a' < m a/\Wk 100 (100+k0) AB AL (I a').1 (I a').2/\∀e v o,R a' e v o->R a e v o)
  (fun e AB AL=>∃v o,Wk 100 (100+k0) AB AL v o/\R a e v o)))
theorem AJN{key ix j n d:Nat}{ty:TypeId}{v:Value}(hv:isCell v=true)(hd:∀i k,i<k->0+i*n+d<k*n){cs:List Value}{k:Nat}{vs:List Value}(hlen:vs.length=k*n)(hk:k<1000000000)
  (heq:∀vs N s z e r i back out,gS key ix cs (some (.cells vs ty 0 true true)) N s z e r i back out=bO cs ty j n d v k vs N s z e r i back out) {s:ByteArray} {z:BB} {e r:Int} {K:LK}
  (hK:K (.exit j) [.string s,pA 100,.int .i64 e,.int .i64 r,pA 102] [some (cM z),none,mO cs]):AIF [0,3,4,5,6,ix] [0,3,4,5,6] (AO Tryz.prog 4 key) 78 (vS s e r 0) [some (cM z),some (.cells vs ty 0 true true),mO cs] K:=by
 let I:{p:List Value×Nat // p.1.length=k*n/\p.2<=k}->List Value×List (Option AJ):=fun p=>(vS s e r (p.1.2:Int),[some (cM z),some (.cells p.1.1 ty 0 true true),mO cs])
 let R:LK:=fun ex v o=>ex = .exit j/\v=[.string s,pA 100,.int .i64 e,.int .i64 r,pA 102]/\o=[some (cM z),none,mO cs]
 refine⟨_,3,300,fun p=>k-p.1.2,I,fun _=>R,⟨(vs,0),hlen,Nat.zero_le _⟩,rfl,Wk.refl _ _ _ _,fun ex v o h=>?_,fun p=>⟨?_⟩⟩
 ·obtain⟨rfl,rfl,rfl⟩:=h;exact hK
 obtain⟨⟨vs,i⟩,hl,hi⟩:=p
 show gS key ix cs (some (.cells vs ty 0 true true)) (real Tryz.prog) s z e r (i:Int) _ _
 rw[heq]
 dsimp only at hl hi
 refine DW (fun hlt=>?_) (fun hge=>⟨rfl,_,_,CQ (BR.refl _) (.cons (.refl _) (.cons (.none _) (D7.refl _))),rfl,rfl,rfl⟩)
 have h1:=hd i k hlt
 exact AGw i rfl hlt (AJB hv (by rw[hl];exact h1) (BS (by omega) ⟨rfl,⟨(vs.set (0+i*n+d) v,i+1),by rw[List.length_set];exact hl,hlt⟩,by show k-(i+1)<k-i;omega,Wk.refl _ _ _ _,fun _ _ _ h=>h⟩))
theorem AJM{key ix j:Nat}{cs:List Value}{ob:Option AJ}{P:Nd->Int->Prop}(heq:∀N s z e r i back out,gS key ix cs ob N s z e r i back out=bE cs ob j P N s z e r i out){s:ByteArray}{z:BB}{e r:Int}{K:LK}
  (hK:K (.exit j) [.string s,pA 100,.int .i64 e,.int .i64 r,pA 102] [some (cM z),ob,mO cs]):AIF [0,3,4,5,6,ix] [0,3,4,5,6] (AO Tryz.prog 4 key) 78 (vS s e r 0) [some (cM z),ob,mO cs] K:=by
 let R:LK:=fun ex v o=>ex = .exit j/\v=[.string s,pA 100,.int .i64 e,.int .i64 r,pA 102]/\o=[some (cM z),ob,mO cs]
 refine⟨Unit,3,300,fun _=>0,fun _=>(vS s e r 0,[some (cM z),ob,mO cs]),fun _=>R,(),rfl,Wk.refl _ _ _ _,fun ex v o h=>?_,fun p=>⟨?_⟩⟩
 ·obtain⟨rfl,rfl,rfl⟩:=h;exact hK
 show gS key ix cs ob (real Tryz.prog) s z e r 0 _ _
 rw[heq]
 exact CL 0 rfl (DW (m:=0) (fun h=>absurd h (by omega)) (fun _=>⟨rfl,_,_,Wk.refl _ _ _ _,rfl,rfl,rfl⟩))
def LSx(key:Nat)(ty:TypeId)(n:Nat)(C:BB->Value->Value->Value->List Value):LSp:=fun c fr AB obs A E=>∃(s:ByteArray) (z:BB) (e r:Int) (x:BB) (a b:Value),c=AO Tryz.prog 4 key/\fr=78/\AB=vS s e r 0/\
 ((∃ob,obs=[some (cM z),ob,mO (C x nD0 a b)]/\A)∨∃(k:Nat) (vs:List Value),vs.length=k*n/\k<1000000000/\obs=[some (cM z),some (.cells vs ty 0 true true),mO (C x (sO 101 k) a b)]/\E)
theorem AHG{key ix j n d:Nat}{ty:TypeId}{v:Value}{P:Nd->Int->Prop}{C:BB->Value->Value->Value->List Value}(hv:isCell v=true)(hd:∀i k,i<k->0+i*n+d<k*n)
  (heqO:∀x a b k vs N s z e r i back out,gS key ix (C x (sO 101 k) a b) (some (.cells vs ty 0 true true)) N s z e r i back out=bO (C x (sO 101 k) a b) ty j n d v k vs N s z e r i back out)
  (heqE:∀x a b ob N s z e r i back out,gS key ix (C x nD0 a b) ob N s z e r i back out=bE (C x nD0 a b) ob j P N s z e r i out):BH Tryz.prog 100 [0,3,4,5,6,ix] (eY j (LSx key ty n C)):=by
 show BH Tryz.prog 100 [0,3,4,5,6,ix] (lpS [0,3,4,5,6] _)
 refine FW okp (W:=AU AIa Zp [] [] [] []) DR BN ?_
 intro c fr AB obs K h
 split at h<;>try exact h.elim
 obtain⟨s,z,e,r,x,a,b,hc,hf,hv2,ho⟩:=h
 subst hc;subst hf
 simp only[vS,List.cons.injEq,and_true]at hv2
 obtain⟨rfl,rfl,rfl,rfl,rfl,rfl⟩:=hv2
 rcases ho with⟨ob,ho,hA⟩ | ⟨k,vs,hl,hk,ho,hA⟩
 ·simp only[List.cons.injEq,and_true]at ho
  obtain⟨rfl,rfl,rfl⟩:=ho
  exact AJM (heqE x a b _) hA
 ·simp only[List.cons.injEq,and_true]at ho
  obtain⟨rfl,rfl,rfl⟩:=ho
  exact AJN hv hd hl hk (fun vs=>heqO x a b k vs) hA
abbrev L11:LSp:=LSx 11 28 1 fun x v a b=>c3 x v a b
abbrev L15:LSp:=LSx 15 66 7 fun x v a b=>c3 x a b v
abbrev L19:LSp:=LSx 19 61 2 fun x v a b=>c3 x a v b
theorem AKJ:BH Tryz.prog 100 [0,3,4,5,6,8] (eY 2 L11):=AHG (n:=1) (d:=0) (P:=P11) (v := .int .u64 7) rfl (fun i k h=>by omega) (fun x a b k vs N s z e r i back out=>AG2 N s z e r x a b k vs i back out) (fun x a b ob N s z e r i back out=>AEE N s z e r x a b ob i back out)
theorem AKK:BH Tryz.prog 100 [0,3,4,5,6,9] (eY 4 L15):=AHG (n:=7) (d:=0) (P:=P15) (v := .int .u8 99) rfl (fun i k h=>by omega) (fun x a b k vs N s z e r i back out=>AG3 N s z e r x a b k vs i back out) (fun x a b ob N s z e r i back out=>AEF N s z e r x a b ob i back out)
theorem AKL:BH Tryz.prog 100 [0,3,4,5,6,10] (eY 6 L19):=AHG (n:=2) (d:=1) (P:=P19) (v := .int .i64 99) rfl (fun i k h=>by omega) (fun x a b k vs N s z e r i back out=>AG4 N s z e r x a b k vs i back out) (fun x a b ob N s z e r i back out=>AEG N s z e r x a b ob i back out)
end
end Go.Proofs.Ob
namespace Go.Abs
open Go
theorem O9:∀(l:List Value) (n:Nat),zfreeL l=true->zfreeL (l.take n)=true
 | [],n,_=>by simp;rfl
 |v::l,0,_=>rfl
 |v::l,n+1,h=>by
  simp only[zfreeL,Bool.and_eq_true,List.take_succ_cons]at h ⊢
  exact⟨h.1,O9 l n h.2⟩
theorem O8:∀(l:List Value) (n:Nat),zfreeL l=true->zfreeL (l.drop n)=true
 | [],n,_=>by simp;rfl
 |v::l,0,h=>h
 |v::l,n+1,h=>by
  simp only[zfreeL,Bool.and_eq_true]at h
  exact O8 l n h.2
theorem AEd{α:Type}{c:α->List Value}(hc:∀x m,zfreeL m=true->zfreeL (c x++m)=true)(l:List α):zfreeL (l.flatMap c)=true:=by
 induction l with
 |nil=>rfl
 |cons a l ih=>rw[List.flatMap_cons];exact hc a _ ih
theorem ABt{P:Program}{G:Nat}{B:Base}{f:FuncId}{args:List Value}{H H1:Heap}{e:Ending}(h:BP P G B f args H e H1):BP P G B f args H e {H1 with next:=H1.next+1}:=
 fun F w x R ha=>(h F w x R ha).mono fun _ _ ⟨F',h1,h2,R'⟩=>⟨F',h1,h2,{
  obj:=R'.obj,inj:=R'.inj,fresh:=fun n hn=>R'.fresh n (Nat.le_of_succ_le hn),glob:=R'.glob,base:=R'.base,frame:=R'.frame,froz:=R'.froz,zprot:=R'.zprot,os:=R'.os,out:=R'.out,tape:=R'.tape}⟩
end Go.Abs
namespace Go.Proofs.Ob
open Go Go.Abs Go.Tlv
noncomputable section
theorem WZ(x:BB):JO x = .agg ⟨c3 x (dsl (rowsOf CS x.a10)) (dsl (rowsOf FV x.n.arms)) (dsl (rowsOf CO x.b.code))⟩:=rfl
theorem AB3(x:BB)(h12:x.t.keys=[])(h13:x.e.args=[])(h15:x.g.bks=[]):zfreeL (c3 x nD0 nD0 nD0)=true:=by
 rcases x with⟨a0,a1,a2,a3,a4,a5,a6,a7,a8,a9,a10,n,f,⟨t1,t2,t3,t4,t5⟩,⟨e1,e2,e3,e4,e5,e6,e7,e8,e9,e10,e11⟩,b,⟨g1,g2,g3,g4⟩,m,r⟩
 dsimp only at h12 h13 h15
 subst h12;subst h13;subst h15
 rfl
def MTr:MTh:=fun s A0 AW AA AC=>((ES s.data.toList).2.a10=[]->(ES s.data.toList).2.n.arms=[]->(ES s.data.toList).2.b.code=[]->A0 (ES s.data.toList).2 ((ES s.data.toList).1:Int))/\
 ((ES s.data.toList).2.a10≠[]->(ES s.data.toList).2.n.arms=[]->(ES s.data.toList).2.b.code=[]->AW (ES s.data.toList).2 (ES s.data.toList).2.a10.length ((ES s.data.toList).2.a10.flatMap CS) ((ES s.data.toList).1:Int))/\
 ((ES s.data.toList).2.n.arms≠[]->(ES s.data.toList).2.a10=[]->(ES s.data.toList).2.b.code=[]->AA (ES s.data.toList).2 (ES s.data.toList).2.n.arms.length ((ES s.data.toList).2.n.arms.flatMap FV) ((ES s.data.toList).1:Int))/\
 ((ES s.data.toList).2.b.code≠[]->(ES s.data.toList).2.a10=[]->(ES s.data.toList).2.n.arms=[]->AC (ES s.data.toList).2 (ES s.data.toList).2.b.code.length ((ES s.data.toList).2.b.code.flatMap CO) ((ES s.data.toList).1:Int))
theorem AFV{α:Type}{c:α->List Value}{l:List α}(h:l≠[]):rowsOf c l≠[]:=fun e=>h (by
 have:=congrArg List.length e
 rw[BJ]at this
 exact List.length_eq_zero_iff.1 this)
theorem ADW{α:Type}{c:α->List Value}{l:List α}{size:Nat}{elem:TypeId}{pre post:List Value}{e:Int}{s:ByteArray}(hS:∀B H,BP Tryz.prog 100 B 17 [.string s] H (.returned (.tuple ⟨[.agg ⟨pre++dsl (rowsOf c l)::post⟩,.int .i64 e]⟩)) H)
  (h1:zfreeL pre=true) (h2:zfreeL post=true) (hc:∀x,(c x).length=size) (hz:∀x m,zfreeL m=true->zfreeL (c x++m)=true) (hne:l≠[]) (B:Base) (H:Heap):
  BP Tryz.prog 100 B 17 [.string s] H (.returned (.tuple ⟨[.agg ⟨pre++sO H.next l.length::post⟩,.int .i64 e]⟩)) (H.push (.cells (l.flatMap c) elem 0 true true)):=by
 have h:=thaw (elem:=elem) (p:=fun a => .tuple ⟨[]++(Value.agg ⟨pre++a::post⟩)::[.int .i64 e]⟩) (ACB (ACA AFi h1 h2) rfl rfl) (A7:=rowsOf c l) hS rfl (LV hc l) (AFV hne) (AEd hz l) B H
 rw[BJ]at h
 exact h
theorem ALa:OV Tryz.prog 100 17 (sTh MTr):=by
 intro args H K h
 unfold sTh at h
 split at h<;>try exact h.elim
 rename_i s
 obtain⟨k0,k1,k2,k3⟩:=h
 have hd:=AKC s
 have hl:=ACH s.data.toList
 generalize ES s.data.toList=q at hd hl k0 k1 k2 k3
 obtain⟨e,x⟩:=q
 dsimp only at k0 k1 k2 k3 hl
 unfold rvM at hd
 dsimp only at hd
 rw[WZ]at hd
 by_cases h9:x.a10=[]
 ·by_cases h10:x.n.arms=[]
  ·by_cases h14:x.b.code=[]
   ·rw[h9,h10,h14]at hd
    exact⟨_,_,fun B=>ABt (hd B H),k0 h9 h10 h14⟩
   ·have g:=hl 14 (by decide) h14
    rw[h9,h10]at hd
    have hz:=AB3 x (g 12 (by decide) (by decide)) (g 13 (by decide) (by decide)) (g 15 (by decide) (by decide))
    exact⟨_,_,fun B=>ADW (pre:=(c3 x nD0 nD0 nD0).take 42) (post:=(c3 x nD0 nD0 nD0).drop 43) hd (O9 _ _ hz) (O8 _ _ hz) (size:=7) (fun _=>rfl) (fun _ _ h=>h) h14 B H,k3 h14 h9 h10⟩
  ·have g:=hl 10 (by decide) h10
   have h14:x.b.code=[]:=g 14 (by decide) (by decide)
   rw[h9,h14]at hd
   have hz:=AB3 x (g 12 (by decide) (by decide)) (g 13 (by decide) (by decide)) (g 15 (by decide) (by decide))
   exact⟨_,_,fun B=>ADW (pre:=(c3 x nD0 nD0 nD0).take 18) (post:=(c3 x nD0 nD0 nD0).drop 19) hd (O9 _ _ hz) (O8 _ _ hz) (size:=2) (fun _=>rfl) (fun _ _ h=>h) h10 B H,k2 h10 h9 h14⟩
 ·have g:=hl 9 (by decide) h9
  have h14:x.b.code=[]:=g 14 (by decide) (by decide)
  have h10:x.n.arms=[]:=g 10 (by decide) (by decide)
  rw[h10,h14]at hd
  have hz:=AB3 x (g 12 (by decide) (by decide)) (g 13 (by decide) (by decide)) (g 15 (by decide) (by decide))
  exact⟨_,_,fun B=>ADW (pre:=(c3 x nD0 nD0 nD0).take 10) (post:=(c3 x nD0 nD0 nD0).drop 11) hd (O9 _ _ hz) (O8 _ _ hz) (fun _=>rfl) (fun _ _ h=>h) h9 B H,k1 h9 h10 h14⟩
def AAj:MS2:=fun v1 v2 AL A E=>∃b:Bool,(∀B H,CY 100 H=AL->BP Tryz.prog 100 B 22 [v1,v2] H (.returned (.bool b)) H)/\(b=true->A)/\(b=false->E)
theorem AK9:OV Tryz.prog 100 22 (sS2 AAj):=by
 intro args H K h
 unfold sS2 at h
 split at h<;>try exact h.elim
 obtain⟨b,h1,h2,h3⟩:=h
 refine⟨.bool b,H,fun B=>h1 B H rfl,?_⟩
 cases b with
 |true=>exact h2 rfl
 |false=>exact h3 rfl
theorem AHy{H:Heap}{AL:List (Option AJ)}{i:Nat}{o:AJ}(h:CY 100 H=AL)(hi:AL[i]?=some (some o)):H.get (100+i)=some o:=by
 rw[←h,K6]at hi
 split at hi
 ·simpa using hi
 ·cases hi
theorem ABr{x:BB}(hx:okP x)(B:Base)(H:Heap):BP Tryz.prog 100 B 22 [JO x,JO x] H (.returned (.bool true)) H:=by
 obtain⟨b,hb,hC⟩:=AH0 x x hx
 rw[hb.2 rfl]at hC
 exact hC B H
theorem ACG{α:Type}{c:α->List Value}{l:List α}{size:Nat}{elem:TypeId}{pre post:List Value}{x z:BB}(hS:∀B H,BP Tryz.prog 100 B 22 [.agg ⟨pre++dsl (rowsOf c l)::post⟩,JO z] H (.returned (.bool true)) H)
  (h1:A8 0 pre=true) (h2:A8 0 post=true) (hc:∀x,(c x).length=size) (hs:0<size) (hb:∀x m,A8 0 m=true->A8 0 (c x++m)=true) (B:Base) {H:Heap} {AL:List (Option AJ)} (ho:CY 100 H=AL) (hi:AL[1]?=some (some (.cells (l.flatMap c) elem 0 true true))):
  BP Tryz.prog 100 B 22 [.agg ⟨pre++sO 101 l.length::post⟩,JO z] H (.returned (.bool true)) H:=
 AKI (pre:=[]) (post:=[JO z]) (p:=fun a => .agg ⟨pre++a::post⟩) (AAW ACz h1 h2) (A7:=rowsOf c l) hS (AHy ho hi) (LV hc l) (MG hb l) hs (BJ _ _).symm (Nat.le_refl _) rfl rfl rfl B
theorem AEr{L1 L2 L3:LSp}{s:ByteArray}{z:BB}{e i:Nat}{back:BK}{out:Exit->List Value->Prop}{cs:List Value}{ob:Option AJ}(hi:i<2)
  (hS:∀B H,CY 100 H=[some (cM z),ob,mO cs]->BP Tryz.prog 100 B 22 [.agg ⟨cs⟩,JO z] H (.returned (.bool true)) H)
  (h1:∀F,back [.string s,pA 100,.int .i64 (e:Int),.int .i64 ((i+1:Nat):Int)] [some (cM z)]->F=(fun _:Option AJ=>(real Tryz.prog).ari .add .i64 (i:Int) .i64 1 fun j=>([]:List Deferred)=[]/\back [.string s,pA 100,.int .i64 (e:Int),.int .i64 j] [some (cM z)])->
   (∀o,F o)->inn 11 L1 s z (e:Int) (i:Int) cs (inn 15 L2 s z (e:Int) (i:Int) cs (inn 19 L3 s z (e:Int) (i:Int) cs F)) ob)
  (hb:back [.string s,pA 100,.int .i64 (e:Int),.int .i64 ((i+1:Nat):Int)] [some (cM z)]):aft (real Tryz.prog) AAj L1 L2 L3 s z (e:Int) (i:Int) back out cs ob (e:Int):=
 N9 (fun h=>absurd rfl h) (fun _=>⟨true,hS,fun _=>h1 _ hb rfl fun _=>BS (by omega) ⟨rfl,hb⟩,fun h=>by cases h⟩)
def AIC:LRo:=fun c n AB obs A E=>∃s:ByteArray,c=AO Tryz.prog 4 5/\n=78/\AB=[.string s,pA 100,.int .i64 ((ES s.data.toList).1:Int),.int .i64 0]/\obs=[some (cM (ES s.data.toList).2)]/\A
theorem zK(s:List UInt8):okP (ES s).2:=by
 by_cases h0:(ES s).1=0
 ·exact(ACb (s:=s) (z:=(ES s).2) (Prod.ext h0 rfl)).2.2.2.1
 ·rw[yN h0];exact AJI
theorem AEw(s:List UInt8):(ES s).2.a10.length<1000000000/\(ES s).2.n.arms.length<1000000000/\(ES s).2.b.code.length<1000000000:=by
 have h:=zK s
 exact⟨by have:=h.w;omega,h.n.1,h.b.1⟩
theorem AKG:QP Tryz.prog 100 (wRd MTr AAj L11 L15 L19):=O1 (fun x hx=>by
 simp only[List.mem_cons,List.not_mem_nil,or_false]at hx
 rcases hx with rfl|rfl
 ·exact ALa
 ·exact AK9) (fun x hx=>by cases hx)
theorem AKY:QQ Tryz.prog 100 (wRd MTr AAj L11 L15 L19):=E9 (fun x hx=>by
 simp only[List.mem_cons,List.not_mem_nil,or_false]at hx
 rcases hx with rfl|rfl|rfl
 ·exact AKJ
 ·exact AKK
 ·exact AKL)
theorem AKZ:BH Tryz.prog 100 [0,3,4,5] (AGG AIC):=by
 show BH Tryz.prog 100 [0,3,4,5] (lpS [2] _)
 refine AHL okp (W:=wRd MTr AAj L11 L15 L19) AKG AKY ?_
 rintro c n AB obs K ⟨s,hc,hn,hv,ho,hA⟩
 subst hc;subst hn;subst hv;subst ho
 have hx:=zK s.data.toList
 have hbig:=AEw s.data.toList
 generalize hq:ES s.data.toList=q at hx hbig hA ⊢
 obtain⟨e,x⟩:=q
 dsimp only at hx hbig hA ⊢
 refine⟨{i:Nat // i<=2},300,fun i=>2-i.1,fun i=>([.string s,pA 100,.int .i64 (e:Int),.int .i64 (i.1:Int)],[some (cM x)]),fun _ ex v=>ex = .exit 0/\v=[top],⟨0,by omega⟩,Wk.refl _ _ _ _,fun ex v h=>?_,fun i=>⟨?_⟩⟩
 ·obtain⟨rfl,rfl⟩:=h;exact hA
 obtain⟨i,hi⟩:=i
 show AJj (real Tryz.prog) MTr AAj L11 L15 L19 s x (e:Int) (i:Int) _ _
 rw[AE6]
 have hS:=ABr hx
 rw[show JO x = .agg ⟨c3 x (dsl (rowsOf CS x.a10)) (dsl (rowsOf FV x.n.arms)) (dsl (rowsOf CO x.b.code))⟩from rfl]at hS
 refine DW (d:=2) (fun hlt=>?_) (fun hge=>⟨rfl,rfl,rfl⟩)
 have em:∀ {key:Nat} {ty:TypeId} {n:Nat} {C:BB->Value->Value->Value->List Value} {F:Option AJ->Prop} (a b:Value) (ob:Option AJ),F ob->inn key (LSx key ty n C) s x (e:Int) (i:Int) (C x nD0 a b) F ob:=fun a b ob hA=>⟨s,x,_,_,x,a,b,rfl,rfl,rfl,.inl ⟨ob,rfl,hA⟩⟩
 have ow:∀ {key:Nat} {ty:TypeId} {n k:Nat} {vs:List Value} {C:BB->Value->Value->Value->List Value} {F:Option AJ->Prop} (a b:Value),vs.length=k*n->k<1000000000->F none->inn key (LSx key ty n C) s x (e:Int) (i:Int) (C x (sO 101 k) a b) F (some (.cells vs ty 0 true true)):=fun a b h1 h2 hA=>⟨s,x,_,_,x,a,b,rfl,rfl,rfl,.inr ⟨_,_,h1,h2,rfl,hA⟩⟩
 unfold MTr
 rw[hq]
 have hbk:∃a':{i:Nat // i<=2},2-a'.1<2-i/\[.string s,pA 100,.int .i64 (e:Int),.int .i64 ((i+1:Nat):Int)]=[.string s,pA 100,.int .i64 (e:Int),.int .i64 (a'.1:Int)]/\[some (cM x)]=[some (cM x)]/\∀ex (v:List Value),(ex=Exit.exit 0/\v=[top])->(ex = .exit 0/\v=[top]):=⟨⟨i+1,hlt⟩,by show 2-(i+1)<2-i;omega,rfl,rfl,fun _ _ h=>h⟩
 refine⟨fun h9 h10 h14=>?_,fun h9 h10 h14=>?_,fun h10 h9 h14=>?_,fun h14 h9 h10=>?_⟩
 ·dsimp only at h9 h10 h14
  refine AEr hlt (fun B H _=>?_) (fun F _ _ hF=>em nD0 nD0 _ (em nD0 nD0 _ (em nD0 nD0 _ (hF _)))) hbk
  rw[h9,h10,h14]at hS;rw[WZ,h9,h10,h14];exact hS B H
 ·dsimp only at h9 h10 h14
  refine AEr hlt (fun B H ho=>?_) (fun F _ _ hF=>ow nD0 nD0 (by rw[F8 (c:=CS) (fun _=>rfl)]) hbig.1 (em (sO 101 _) nD0 _ (em (sO 101 _) nD0 _ (hF _)))) hbk
  rw[h10,h14]at hS
  exact ACG (c:=CS) (size:=1) (pre:=(c3 x nD0 nD0 nD0).take 10) (post:=(c3 x nD0 nD0 nD0).drop 11) (x:=x) (fun B H=>by rw[WZ x,h10,h14];exact hS B H) rfl rfl (fun _=>rfl) (by decide) (fun _ _ h=>h) B ho rfl
 ·dsimp only at h9 h10 h14
  refine AEr hlt (fun B H ho=>?_) (fun F _ _ hF=>em (sO 101 _) nD0 _ (em nD0 (sO 101 _) _ (ow nD0 nD0 (by rw[F8 (c:=FV) (n:=2) (fun _=>rfl)]) hbig.2.1 (hF _)))) hbk
  rw[h9,h14]at hS
  exact ACG (c:=FV) (size:=2) (pre:=(c3 x nD0 nD0 nD0).take 18) (post:=(c3 x nD0 nD0 nD0).drop 19) (x:=x) (fun B H=>by rw[WZ x,h9,h14];exact hS B H) rfl rfl (fun _=>rfl) (by decide) (fun _ _ h=>h) B ho rfl
 ·dsimp only at h9 h10 h14
  refine AEr hlt (fun B H ho=>?_) (fun F _ _ hF=>em nD0 (sO 101 _) _ (ow nD0 nD0 (by rw[F8 (c:=CO) (n:=7) (fun _=>rfl)]) hbig.2.2 (em nD0 (sO 101 _) _ (hF _)))) hbk
  rw[h9,h10]at hS
  exact ACG (c:=CO) (size:=7) (pre:=(c3 x nD0 nD0 nD0).take 42) (post:=(c3 x nD0 nD0 nD0).drop 43) (x:=x) (fun B H=>by rw[WZ x,h9,h10];exact hS B H) rfl rfl (fun _=>rfl) (by decide) (fun _ _ h=>h) B ho rfl
theorem prC(s:ByteArray):Is (gPr (real Tryz.prog) AIG AIC s (fun v=>v = .bool true)):=by
 refine⟨?_⟩
 rw[AHm]
 exact FQ (zG (fun _=>rfl) (fun _=>⟨s,rfl,rfl,rfl,rfl,rfl⟩))
theorem AJr(s:ByteArray)(B:Base)(H:Heap):BP Tryz.prog 100 B 4 [.string s] H (.returned (.bool true)) H:=
 PS okp (DI (all_cons (P:=fun x:FuncId×(List Value->(Value->Prop)->Prop)=>EW Tryz.prog 100 x.1 x.2) ALw (all_cons ALp all_nil))) (E9 (fun x hx=>by simp only[List.mem_singleton]at hx;subst hx;exact AKZ)) rfl (prC s) B H
end
end Go.Proofs.Ob
namespace Go.Proofs.Ob
open Go Go.Abs Go.Tlv
section
variable {H:Type} {enc:TypeId×Value->H} {W:World} {r:List Value}
end
theorem ACF{P:Program}{w:World}{name:String}{g:Nat}{t e:TypeId}{n:Nat}{k:IntKind}(l:List Int)(hg:P.globalNamed name=some g)(ht:(P.globals[g]?).map (·.type)=some t)
  (hu:P.underlying t=some (.array n e)) (he:P.underlying e=some (.int k)) (hc:P.cellsOf e=1) (hn:n=l.length) (hct:P.cellsOf t=n) {r:List (String×DataW Unit)}
  (h:laidMet P ((name,.agg (l.map fun v => .lit (.int k v)))::r) w):∃t fz,w.heap[g]?=some (.cells (l.map (Value.int k)).toArray t fz):=by
 obtain⟨ps,⟨g0,t0,cs0,f0,p0,q0,hg0,ht0,hv0,hd0,_,_⟩,_,_⟩:=h
 obtain rfl:=Option.some.inj (hg.symm.trans hg0)
 obtain rfl:=Option.some.inj (ht.symm.trans ht0)
 have hcs:=mW hu he hc hn hct hd0
 simp only[World.var?,hg,Option.bind_some]at hv0
 split at hv0
 ·rename_i c t' fz hb
  simp only[Option.some.injEq]at hv0;subst hv0
  exact⟨t',fz,by rw[hb,←hcs]⟩
 ·cases hv0
end Go.Proofs.Ob
