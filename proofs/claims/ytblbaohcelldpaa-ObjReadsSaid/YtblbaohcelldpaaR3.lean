/- A list among the attributes that the reference reads, for any kind; texts; what is 1 or is not. -/
import Derived.Test.YtblbaohcelldpaaQZ
set_option linter.all false
namespace Go.Proofs.Ytblbaohcelldpaa.Ob
open Go Go.Abs Go.Tlv
set_option maxRecDepth 100000
noncomputable section
variable {α β:Type} {κ:RK1 α} {step:α->At->Option α}
theorem askS_ok{lt t j:Nat}(set:α->ByteArray->α)(hc:∀x w s,(κ.cw x w).set j (.string s)=κ.cw (set x s) w)(hr:∀x s,κ.rws (set x s)=κ.rws x)
  (hs:∀x a,a.t=t->step x a=(getS 32 a.v.data.toList).map (set x)):AskOk κ step lt (t:Int) (askS j):=by
 intro l hen x w i a ha ht hw nx no h1 h2
 have hst:=hs x a (by omega)
 refine atR_ok ha (atR_ok ha (n_slen (n_leN (d:=32) (fun h=>?_) (fun h=>?_))))
 ·rw[hc]
  exact h1 _ w _ (by rw[hst];unfold getS;rw[if_pos h,bytes_eta];rfl) (hw.up (hr x _))
 ·exact h2 (by rw[hst];unfold getS;rw[if_neg (by omega)];rfl) _ _
theorem askB_ok{lt t j:Nat}(set:α->Bool->α)(hc:∀x w s,(κ.cw x w).set j (.bool s)=κ.cw (set x s) w)(hr:∀x s,κ.rws (set x s)=κ.rws x)
  (hs:∀x a,a.t=t->step x a=(getB a.v.data.toList).map (set x)):AskOk κ step lt (t:Int) (askB MRN j):=by
 intro l hen x w i a ha ht hw nx no h1 h2
 have hst:=hs x a (by omega)
 refine atR_ok ha ⟨1,rfl,fun n hn=>n_eqN (d:=1) (fun h=>?_) (fun h=>?_),fun hn=>n_eqN (m:=0) (d:=1) (fun h=>absurd h (by decide)) (fun _=>?_)⟩
 ·rw[hc];exact h1 _ w _ (by rw[hst];unfold getB;rw[hn,h];rfl) (hw.up (hr x _))
 ·rw[hc];exact h1 _ w _ (by rw[hst];unfold getB;rw[hn];show some (set x (n==1))=_;rw[beq_false_of_ne h]) (hw.up (hr x _))
 ·exact h2 (by rw[hst];unfold getB;rw[hn];rfl) _ _
structure LkOk(κ:RK1 α)(step:α->At->Option α)(y:LK1)(lt p t:Nat)(c1:β->List Value)(rd:List UInt8->Option β)(el:El)(pa pr:α->List Value)(setl:α->List β->α):Prop where
 sp:∀x w,κ.cw x w=pa x++w::pr x
 ba:∀x,belowL 102 (pa x)=true
 br:∀x,belowL 102 (pr x)=true
 set:∀x w v,(κ.cw x w).set p v=κ.cw x v
 sl:∀x l w,κ.cw (setl x l) w=κ.cw x w
 rwk:∀x l,κ.rws (setl x l)=rowsOf c1 l
 len:∀b,(c1 b).length=y.sz
 cell:∀b,(c1 b).all isCell=true
 bel:∀x m,belowL 0 m=true->belowL 0 (c1 x++m)=true
 sz:0<y.sz
 by_:y.by_<=1000
 el:∀(s:ByteArray) (K:List Value->Bool->Prop),(∀b,rd s.data.toList=some b->K (c1 b) true)->(rd s.data.toList=none->∀b:β,K (c1 b) false)->el (real Try.prog) s K
 top:t<=32
 step:∀x a,a.t=lt->step x a=(getL rd t a.v.data.toList).map (setl x)
section
variable {y:LK1} {lt p t:Nat} {fs:List (Int×Ask)} {c1:β->List Value} {rd:List UInt8->Option β} {el:El} {pa pr:α->List Value} {setl:α->List β->α}
def IJ(κ:RK1 α)(y:LK1)(c1:β->List Value)(x:α)(l:List At)(i:Nat)(b0:Bool)(l2:List ByteArray)(q:StY rd b0 l2):List Value×List (Option AObj):=
 ([pA 100,pA 101,dsl (rowsT l),.int .i64 (i:Int),.bool (!q.1.1),dsl (rowsOf cSt l2),.int .i64 (q.1.2.2:Int)],[κ.o κ.zs,κ.o (κ.cw x (mkS 102 q.1.2.1.length)),mo (q.1.2.1.flatMap c1) y.ty y.sz])
def RJ(κ:RK1 α)(c1:β->List Value)(rd:List UInt8->Option β)(x:α)(l:List At)(i:Nat)(b0:Bool)(l2:List ByteArray)(e:Exit)(v:List Value)(o:List (Option AObj)):Prop:=
 (∃acc,b0=false/\mapO (fun s:ByteArray=>rd s.data.toList) l2=some acc/\e = .exit 3/\v=[pA 100,pA 101,dsl (rowsT l),.int .i64 (i:Int),.bool true]/\o=[κ.o κ.zs,κ.o (κ.cw x (dsl (rowsOf c1 acc)))])∨
 ((b0=true∨mapO (fun s:ByteArray=>rd s.data.toList) l2=none)/\e = .exit 3/\v=[pA 100,pA 101,dsl (rowsT l),.int .i64 (i:Int),.bool false]/\o=[κ.o κ.zs,none])
theorem wkJz(hk:RkOk κ step lt fs){vals:List Value}(hv:belowL 102 vals=true){a b:Option AObj}:Wk 100 (100+2) vals [κ.o κ.zs,a,b] vals [κ.o κ.zs,none]:=
 (wk_weak (WeakL.refl _) (.cons (.refl _) (.cons (.none _) (.cons (.none _) .nil)))).trans (wk_drop (k0:=2) (pre:=[κ.o κ.zs,none]) (extra:=[none]) rfl hv fun j o hj=>by
  rcases j with _|_|j
  ·simp only[List.getElem?_cons_zero,Option.some.injEq,RK1.o]at hj;subst hj
   exact hk.bO κ.z (w:=nilV) rfl
  ·simp at hj
  ·simp at hj)
theorem wkJt(hk:RkOk κ step lt fs)(hj:LkOk κ step y lt p t c1 rd el pa pr setl){vals:List Value}(hv:belowL 102 vals=true)(x:α)(acc:List β):
  Wk 100 (100+2) vals [κ.o κ.zs,κ.o (κ.cw x (mkS 102 acc.length)),mo (acc.flatMap c1) y.ty y.sz] vals [κ.o κ.zs,κ.o (κ.cw x (dsl (rowsOf c1 acc)))]:=by
 have h1:=wk_frzP (vals:=vals) (a:=pa x) (r:=pr x) (e1:=κ.ty) (z1:=κ.zs.length) (lo1:=false) (ow1:=true) (zo := .cells κ.zs κ.ty κ.zs.length false true) (e:=y.ty) (flat_of hj.len acc) (below_of hj.bel acc) hj.sz (rowsOf_len (c:=c1) acc).symm
 rw[←hj.sp,←hj.sp]at h1
 refine h1.trans (wk_drop (k0:=2) (pre:=[κ.o κ.zs,κ.o (κ.cw x (dsl (rowsOf c1 acc)))]) (extra:=[none]) rfl hv fun j o hi=>?_)
 rcases j with _|_|j
 ·simp only[List.getElem?_cons_zero,Option.some.injEq,RK1.o]at hi;subst hi
  exact hk.bO κ.z (w:=nilV) rfl
 ·simp only[List.getElem?_cons_succ,List.getElem?_cons_zero,Option.some.injEq,RK1.o]at hi;subst hi
  exact hk.bO x (w:=dsl _) rfl
 ·simp at hi
theorem rndJ(hk:RkOk κ step lt fs)(hj:LkOk κ step y lt p t c1 rd el pa pr setl){W:How}(heq:∀N x rs i b rs2 k ob j back out,gJ κ y W N x rs i b rs2 k ob j back out=bJ κ y el N x rs i b rs2 k ob j back out)
  (x:α) (l:List At) (i:Nat) (b0:Bool) (l2:List ByteArray) (hl:l2.length<=32) (q:StY rd b0 l2):
  Is (wpe Try.prog (real Try.prog) W 300 (.code false (loopIn Try.prog κ.f y.key) (stOf 100 κ.n [2,4,5,7,9,10,12] [] (IJ κ y c1 x l i b0 l2 q))) (roundQ 100 [2,4,5,7,9,10,12] [2,4,5,7,9] κ.n []
   (fun vals objs=>∃a':StY rd b0 l2,l2.length-a'.1.2.2<l2.length-q.1.2.2/\Wk 100 (100+2) vals objs (IJ κ y c1 x l i b0 l2 a').1 (IJ κ y c1 x l i b0 l2 a').2/\∀e v o,RJ κ c1 rd x l i b0 l2 e v o->RJ κ c1 rd x l i b0 l2 e v o)
   (fun e vals objs=>∃v o,Wk 100 (100+2) vals objs v o/\RJ κ c1 rd x l i b0 l2 e v o))):=by
 refine⟨?_⟩
 obtain⟨⟨b,acc,j⟩,inv⟩:=q
 have hle:j<=l2.length:=inv.le
 have hlen:acc.length=j:=inv.len
 have hT:tops=140737488355328:=rfl
 show gJ κ y W (real Try.prog) x (rowsT l) (i:Int) (!b) (rowsOf cSt l2) acc.length (mo (acc.flatMap c1) y.ty y.sz) (j:Int) _ _
 rw[heq]
 have hby:=hj.by_
 refine n_dlen _ (rowsOf_len _ _) (n_ltN (fun hlt=>?_) (fun hge=>?_))
 ·cases b with
  |true=>exact⟨rfl,_,_,wkJz hk rfl,.inr ⟨inv.bad rfl,rfl,rfl,rfl⟩⟩
  |false=>
   have hy:l2[j]?=some l2[j]:=List.getElem?_eq_getElem hlt
   generalize l2[j]=s at hy
   have hms:l2.length-(j+1)<l2.length-j:=by omega
   have hwk:∀(b':Bool) (v:β) (ex:List (Option AObj)),ex.length=y.d->Wk 100 (100+2) [pA 100,pA 101,dsl (rowsT l),.int .i64 (i:Int),.bool (!b'),dsl (rowsOf cSt l2),.int .i64 ((j+1:Nat):Int)]
     (κ.o κ.zs::κ.o (κ.cw x (.slice (some ⟨103+y.d,0,none⟩) (acc.length+1) (acc.length+1)))::none::(ex++[some (.cells (acc.flatMap c1++c1 v) y.ty y.sz true true)]))
     [pA 100,pA 101,dsl (rowsT l),.int .i64 (i:Int),.bool (!b'),dsl (rowsOf cSt l2),.int .i64 ((j+1:Nat):Int)] [κ.o κ.zs,κ.o (κ.cw x (mkS 102 (acc++[v]).length)),mo ((acc++[v]).flatMap c1) y.ty y.sz]:=by
    intro b' v ex hex
    have hcell:acc.flatMap c1++c1 v=(acc++[v]).flatMap c1:=by simp
    have hacc:(acc++[v]).length=acc.length+1:=by simp
    have hne:(acc++[v]).flatMap c1≠[]:=by
     rw[←hcell]
     intro h
     have:=congrArg List.length h
     rw[List.length_append,hj.len v]at this
     simp only[List.length_nil]at this
     have:=hj.sz;omega
    rw[hcell,mo_ne hne,hacc,hj.sp,hj.sp]
    refine wk_outP (j:=3+y.d) (zo := .cells κ.zs κ.ty κ.zs.length false true) (by omega) rfl (hk.bO κ.z (w:=nilV) rfl) ?_ ?_ (below_of hj.bel _) (hj.ba x) (hj.br x) rfl (by omega)
    ·show some (κ.o _)=_
     unfold RK1.o;rw[show 103+y.d=100+(3+y.d)by omega]
    ·show(κ.o κ.zs::κ.o _::none::(ex++[_]))[3+y.d]?=_
     rw[show 3+y.d=y.d+1+1+1 by omega,List.getElem?_cons_succ,List.getElem?_cons_succ,List.getElem?_cons_succ,List.getElem?_append_right (by omega),hex,Nat.sub_self];rfl
   have hgo:∀(b':Bool) (v:β),Got rd b0 l2 b' (acc++[v]) (j+1)->(real Try.prog).base true acc.length acc.length (mo (acc.flatMap c1) y.ty y.sz) y.ty y.sz fun vs=>(real Try.prog).appX acc.length vs 1 (c1 v) y.sz y.by_ fun vs' k'=>(real Try.prog).ari .add .i64 (j:Int) .i64 1 fun j'=>
     ([]:List Deferred)=[]/\(fun vals objs=>∃a':StY rd b0 l2,l2.length-a'.1.2.2<l2.length-j/\Wk 100 (100+2) vals objs (IJ κ y c1 x l i b0 l2 a').1 (IJ κ y c1 x l i b0 l2 a').2/\∀e v o,RJ κ c1 rd x l i b0 l2 e v o->RJ κ c1 rd x l i b0 l2 e v o)
      [pA 100,pA 101,dsl (rowsT l),.int .i64 (i:Int),.bool (!b'),dsl (rowsOf cSt l2),.int .i64 j'] (κ.o κ.zs::κ.o (κ.cw x (.slice (some ⟨103+y.d,0,none⟩) k' k'))::none::(List.replicate y.d (some (.cells (c1 v) y.ty y.sz false true))++[some (.cells vs' y.ty y.sz true true)])):=fun b' v hg=>
    n_base_mo (flat_len hj.len acc) (by have:=hj.sz;omega) (n_appX (by omega) (by rw[hj.len,Nat.one_mul]) (hj.cell v)
     (Nat.le_trans (Nat.mul_le_mul (show 2*(acc.length+1)+192<=1000 by omega) hby) (by rw[hT];omega)) (by omega) (n_inc (by omega) ⟨rfl,⟨(b',acc++[v],j+1),hg⟩,hms,hwk b' v _ (List.length_replicate ..),fun _ _ _ h=>h⟩))
   refine n_dget j rfl (strRow_get hy) rfl (n_rdS (z:=s) rfl (hj.el s _ (fun v hv=>?_) (fun hv v=>?_)))
   ·exact hgo false v (inv.next hy hv)
   ·exact hgo true v (inv.fail hy hv)
 ·have e:j=l2.length:=by omega
  subst e
  cases b with
  |true=>exact⟨rfl,_,_,wkJz hk rfl,.inr ⟨inv.bad rfl,rfl,rfl,rfl⟩⟩
  |false=>
   have:=inv.well rfl
   rw[List.take_length]at this
   exact⟨rfl,_,_,wkJt hk hj rfl x acc,.inl ⟨acc,this.1,this.2,rfl,rfl,rfl⟩⟩
def LJr(κ:RK1 α)(y:LK1)(c1:β->List Value)(rd:List UInt8->Option β):LJ:=fun c n vals obs A E=>∃(x:α) (l:List At) (i:Nat) (b0:Bool) (l2:List ByteArray),l2.length<=32/\c=loopIn Try.prog κ.f y.key/\n=κ.n/\
 vals=[pA 100,pA 101,dsl (rowsT l),.int .i64 (i:Int),.bool (!b0),dsl (rowsOf cSt l2),.int .i64 (0:Int)]/\obs=[κ.o κ.zs,κ.o (κ.cw x nilV)]/\
 (∀acc,b0=false->mapO (fun s:ByteArray=>rd s.data.toList) l2=some acc->A (dsl (rowsOf c1 acc)))/\((b0=true∨mapO (fun s:ByteArray=>rd s.data.toList) l2=none)->E)
theorem lpJ(hk:RkOk κ step lt fs)(hj:LkOk κ step y lt p t c1 rd el pa pr setl){W:How}(hkn:KnOk Try.prog 100 W)(hlp:LpOk Try.prog 100 W)(heq:∀N x rs i b rs2 k ob j back out,gJ κ y W N x rs i b rs2 k ob j back out=bJ κ y el N x rs i b rs2 k ob j back out):
  LoopOk Try.prog 100 [2,4,5,7,9,10,12] (sLpJ p (LJr κ y c1 rd)):=by
 show LoopOk Try.prog 100 [2,4,5,7,9,10,12] (lpS [2,4,5,7,9] _)
 refine lp_mk okp (W:=W) hkn hlp ?_
 intro c n vals obs K h
 split at h<;>try exact h.elim
 obtain⟨x,l,i,b0,l2,hl,hc,hn,hv,ho,hA,hE⟩:=h
 subst hc;subst hn
 simp only[RK1.o,List.cons.injEq,Option.some.injEq,AObj.cells.injEq,and_true]at hv ho
 obtain⟨rfl,rfl,rfl,rfl,rfl,rfl,rfl⟩:=hv
 obtain⟨rfl,rfl,rfl,rfl,rfl,rfl⟩:=ho
 refine⟨StY rd b0 l2,2,300,fun q=>l2.length-q.1.2.2,IJ κ y c1 x l i b0 l2,fun _ e v o=>RJ κ c1 rd x l i b0 l2 e v o,⟨(b0,[],0),⟨Nat.zero_le _,rfl,fun h=>⟨h,rfl⟩,fun h => .inl h⟩⟩,rfl,?_,?_,rndJ hk hj heq x l i b0 l2 hl⟩
 ·exact(wk_weak (WeakL.refl _) (.cons (.refl _) (.cons (.cells (hk.weak x _ _ .nilM)) .nil))).trans wk_pad
 intro e v o hR
 rcases hR with⟨acc,h1,h2,rfl,rfl,rfl⟩ | ⟨h1,rfl,rfl,rfl⟩
 ·have:=hA acc h1 h2
  dsimp only at this
  rw[hj.set]at this;exact this
 ·exact hE h1
theorem askL_ok(hj:LkOk κ step y lt p t c1 rd el pa pr setl):AskOk κ step lt (lt:Int) (askL κ.f κ.n y.key p (κ.o κ.zs) MIb (LJr κ y c1 rd) (t:Int)):=by
 intro l hen x w i a ha ht hw nx no h1 h2
 have hat:a.t=lt:=by omega
 have hw0:w=nilV:=by
  rcases hw with h|⟨_,j,b,g1,g2,g3⟩
  ·exact h.1
  ·have:=(encE_at hen i a ha).2.2.2 j b g1 g2;omega
 subst hw0
 have ht32:=hj.top
 have hst:=hj.step x a hat
 refine atR_ok ha ⟨t,rfl,by omega,x,l,i,!decide ((lstE t 0 a.v.data.toList).1=0),_,lst_len ht32,rfl,rfl,by rw[Bool.not_not],rfl,fun acc hb hm=>?_,fun h=>h2 ?_ _ _⟩
 ·have h0:(lstE t 0 a.v.data.toList).1=0:=by
   by_cases h:(lstE t 0 a.v.data.toList).1=0
   ·exact h
   ·rw[decide_eq_false h]at hb;cases hb
  have hg:getL rd t a.v.data.toList=some acc:=by unfold getL;rw[if_pos h0];exact hm
  show nx ((κ.cw x nilV).set p (dsl (rowsOf c1 acc))) []
  rw[hj.set,←hj.sl x acc]
  exact h1 _ _ _ (by rw[hst,hg];rfl) (.inr ⟨by rw[hj.rwk],i,a,by omega,ha,hat⟩)
 ·rw[hst]
  have hg:getL rd t a.v.data.toList=none:=by
   unfold getL
   by_cases h0:(lstE t 0 a.v.data.toList).1=0
   ·rw[if_pos h0]
    rcases h with h|h
    ·rw[decide_eq_true h0]at h;cases h
    ·exact h
   ·rw[if_neg h0]
  rw[hg];rfl
end
end
end Go.Proofs.Ytblbaohcelldpaa.Ob
namespace Go.Proofs.Ytblbaohcelldpaa.Ob
open Go Go.Abs Go.Tlv
set_option maxRecDepth 100000
noncomputable section
theorem all_nil{γ:Type}{P:γ->Prop}:∀f∈([]:List γ),P f:=fun _ h=>by cases h
theorem all_cons{γ:Type}{P:γ->Prop}{a:γ}{l:List γ}(h:P a)(t:∀f∈l,P f):∀f∈a::l,P f:=fun f hf=>by
 rcases List.mem_cons.1 hf with rfl|hf
 ·exact h
 ·exact t f hf
theorem noF{fs:List (Int×Ask)}{t n:Nat}(h:∀f∈fs,f.1≠((t:Nat):Int))(e:t=n)(hm:(fs.map (·.1)).contains (n:Int)=true):False:=by
 rw[List.contains_iff_mem]at hm
 obtain⟨f,h1,h2⟩:=List.mem_map.1 hm
 exact h f h1 (by rw[h2,e])
variable {α:Type} {κ:RK1 α} {step:α->At->Option α}
theorem askI_ok{lt most t j:Nat}{k:Cv}(hk:k=cI∨k=cG)(hm:most<9223372036854775808)(set:α->Int->α)(hc:∀x w n,(κ.cw x w).set j (.int .i64 n)=κ.cw (set x n) w)(hr:∀x n,κ.rws (set x n)=κ.rws x)
  (hs:∀x a,a.t=t->step x a=(getI most a.v.data.toList).map (set x)):AskOk κ step lt (t:Int) (askN MRN (most:Int) k j):=
 askN_ok (fun x n=>set x (n:Int)) (.inr (.inr (.inr ⟨hk,hm⟩))) (fun x w n=>by rcases hk with rfl|rfl<;>exact hc x w _) (fun x n=>hr x _) (fun x a h=>by rw[hs x a h];exact opI)
theorem askU_ok{lt t j:Nat}(set:α->Nat->α)(hc:∀x w (n:Nat),(κ.cw x w).set j (.int .u64 (n:Int))=κ.cw (set x n) w)(hr:∀x n,κ.rws (set x n)=κ.rws x)
  (hs:∀x a,a.t=t->step x a=(getN 18446744073709551615 a.v.data.toList).map (set x)):AskOk κ step lt (t:Int) (askN MRN 18446744073709551615 cU j):=
 askN_ok (most:=18446744073709551615) set (.inl rfl) hc hr hs
theorem ask8_ok{lt t j:Nat}(set:α->Nat->α)(hc:∀x w (n:Nat),(κ.cw x w).set j (.int .u8 (n:Int))=κ.cw (set x n) w)(hr:∀x n,κ.rws (set x n)=κ.rws x)
  (hs:∀x a,a.t=t->step x a=(getN 255 a.v.data.toList).map (set x)):AskOk κ step lt (t:Int) (askN MRN 255 cB j):=
 askN_ok (most:=255) set (.inr (.inl ⟨rfl,by decide⟩)) hc hr hs
theorem hI:(cI:Cv)=cI∨(cI:Cv)=cG := .inl rfl
theorem hG:(cG:Cv)=cI∨(cG:Cv)=cG := .inr rfl
theorem m31:2147483647<9223372036854775808:=by decide
theorem m63:9223372036854775807<9223372036854775808:=by decide
theorem elI_ok{s:ByteArray}{K:List Value->Bool->Prop}(h1:∀b,rdInt s.data.toList=some b->K (cInt b) true)(h2:rdInt s.data.toList=none->∀b:Int,K (cInt b) false):elN MRN 2147483647 cI (real Try.prog) s K:=
 ⟨2147483647,rfl,fun n hn=>cvA_ok (most:=2147483647) (.inr (.inr (.inr ⟨.inl rfl,m31⟩))) (rnum_ok hn).2.1 (h1 _ (by unfold rdInt getI;rw[hn];rfl)),fun hn=>cvA_ok (n:=0) (most:=2147483647) (.inr (.inr (.inr ⟨.inl rfl,m31⟩))) (Nat.zero_le _) (h2 (by unfold rdInt getI;rw[hn];rfl) _)⟩
theorem elU_ok{s:ByteArray}{K:List Value->Bool->Prop}(h1:∀b,rdNat s.data.toList=some b->K (cNat b) true)(h2:rdNat s.data.toList=none->∀b:Nat,K (cNat b) false):elN MRN 18446744073709551615 cU (real Try.prog) s K:=
 ⟨18446744073709551615,rfl,fun n hn=>h1 n hn,fun hn=>h2 hn 0⟩
def MA1{β:Type}(step:β->At->Option β)(z:β):M1 β:=fun s K=>K (rdE step z s.data.toList).2 (decide ((rdE step z s.data.toList).1=0))
theorem el1_ok{β:Type}{step:β->At->Option β}{z:β}{c:β->List Value}{s:ByteArray}{K:List Value->Bool->Prop}(h1:∀b,rdO step z s.data.toList=some b->K (c b) true)(h2:rdO step z s.data.toList=none->∀b:β,K (c b) false):el1 c (MA1 step z) (real Try.prog) s K:=by
 show K (c _) (decide _)
 unfold rdO at h1 h2
 by_cases h:(rdE step z s.data.toList).1=0
 ·rw[decide_eq_true h];exact h1 _ (if_pos h)
 ·rw[decide_eq_false h];exact h2 (if_neg h) _
theorem puItm{c:α->List Value}(hc:(fun x=>κ.c x)=c)(ho:κ.ok = .bool true)(he:κ.er=erB)(h:∀(s:ByteArray) B H,CallH Try.prog 100 B κ.f [.string s] H (.returned (rvG κ (rdE step κ.z s.data.toList))) H):PuOk Try.prog 100 κ.f (s1K c (MA1 step κ.z)):=by
 subst hc
 intro args K hs
 unfold s1K at hs
 split at hs<;>try exact hs.elim
 rename_i s
 refine⟨_,h s,?_⟩
 have e:rvG κ (rdE step κ.z s.data.toList) = .tuple ⟨[.agg ⟨κ.c (rdE step κ.z s.data.toList).2⟩,.bool (decide ((rdE step κ.z s.data.toList).1=0))]⟩:=by
  unfold rvG
  by_cases h0:(rdE step κ.z s.data.toList).1=0
  ·rw[if_pos h0,decide_eq_true h0,ho]
  ·rw[if_neg h0,decide_eq_false h0,he];rfl
 rw[e];exact hs
theorem puObj{v:α->Value}(hc:(fun x=>Value.agg ⟨κ.c x⟩)=v)(ho:κ.ok = .int .i64 0)(he:κ.er=erI)(h:∀(s:ByteArray) B H,CallH Try.prog 100 B κ.f [.string s] H (.returned (rvG κ (rdE step κ.z s.data.toList))) H):PuOk Try.prog 100 κ.f (sRd v (MRq step κ.z)):=by
 subst hc
 refine puRd fun s B H=>?_
 have e:rvG κ (rdE step κ.z s.data.toList) = .tuple ⟨[.agg ⟨κ.c (rdE step κ.z s.data.toList).2⟩,.int .i64 ((rdE step κ.z s.data.toList).1:Int)]⟩:=by
  unfold rvG
  by_cases h0:(rdE step κ.z s.data.toList).1=0
  ·rw[if_pos h0,h0,ho];rfl
  ·rw[if_neg h0,he];rfl
 rw[←e];exact h s B H
theorem puRI:∀x∈[(64,sRb MRN),(65,sIb MIb)],PuOk Try.prog 100 x.1 x.2:=all_cons (P:=fun x:FuncId×(List Value->(Value->Prop)->Prop)=>PuOk Try.prog 100 x.1 x.2) puRb (all_cons puIb all_nil)
theorem okAr:RkOk kAr stepArm 0 (fAr MRN) where
 asks:=all_cons (askN_ok (t:=1) (most:=4294967295) (fun x n=>{x with v:=n}) (.inr (.inr (.inl ⟨rfl,by decide⟩))) (fun _ _ _=>rfl) (fun _ _=>rfl) (fun x a h=>by unfold stepArm;rw[h];rfl))
  (all_cons (askI_ok (t:=2) hI m31 (fun x n=>{x with nx:=n}) (fun _ _ _=>rfl) (fun _ _=>rfl) (fun x a h=>by unfold stepArm;rw[h];rfl))
  (all_nil))
 else_ x a h:=by
  unfold stepArm
  split<;>first|rfl|(rename_i e;exact(noF h e rfl).elim)
 bel _ _ _ _:=rfl
 weak _ _ _ _:=WeakL.refl _
 z:=rfl
 no:=rfl
 nn:=rfl
 er _:=rfl
 ok:=rfl
theorem pRAr:PuOk Try.prog 100 kAr.f (s1K cArm (MA1 stepArm zArm)):=puItm rfl rfl rfl (fun s B H=>rdGH okAr (kn_pu (pu1 puRb)) lp_none (gArR_eq MRN) gAr_eq s B H)
theorem okIn:RkOk kIn stepInstr 0 (fIn MRN) where
 asks:=all_cons (ask8_ok (t:=1) (fun x n=>{x with op:=n}) (fun _ _ _=>rfl) (fun _ _=>rfl) (fun x a h=>by unfold stepInstr;rw[h];rfl))
  (all_cons (askI_ok (t:=2) hI m31 (fun x n=>{x with to:=n}) (fun _ _ _=>rfl) (fun _ _=>rfl) (fun x a h=>by unfold stepInstr;rw[h];rfl))
  (all_cons (ask8_ok (t:=3) (fun x n=>{x with ak:=n}) (fun _ _ _=>rfl) (fun _ _=>rfl) (fun x a h=>by unfold stepInstr;rw[h];rfl))
  (all_cons (askU_ok (t:=4) (fun x n=>{x with an:=n}) (fun _ _ _=>rfl) (fun _ _=>rfl) (fun x a h=>by unfold stepInstr;rw[h];rfl))
  (all_cons (ask8_ok (t:=5) (fun x n=>{x with bk:=n}) (fun _ _ _=>rfl) (fun _ _=>rfl) (fun x a h=>by unfold stepInstr;rw[h];rfl))
  (all_cons (askU_ok (t:=6) (fun x n=>{x with bn:=n}) (fun _ _ _=>rfl) (fun _ _=>rfl) (fun x a h=>by unfold stepInstr;rw[h];rfl))
  (all_cons (askI_ok (t:=7) hI m31 (fun x n=>{x with n:=n}) (fun _ _ _=>rfl) (fun _ _=>rfl) (fun x a h=>by unfold stepInstr;rw[h];rfl))
  (all_nil)))))))
 else_ x a h:=by
  unfold stepInstr
  split<;>first|rfl|(rename_i e;exact(noF h e rfl).elim)
 bel _ _ _ _:=rfl
 weak _ _ _ _:=WeakL.refl _
 z:=rfl
 no:=rfl
 nn:=rfl
 er _:=rfl
 ok:=rfl
theorem pRIn:PuOk Try.prog 100 kIn.f (s1K cInstr (MA1 stepInstr zInstr)):=puItm rfl rfl rfl (fun s B H=>rdGH okIn (kn_pu (pu1 puRb)) lp_none (gInR_eq MRN) gIn_eq s B H)
theorem okBu:RkOk kBu stepBucket 0 (fBu MRN) where
 asks:=all_cons (askU_ok (t:=1) (fun x n=>{x with w:=n}) (fun _ _ _=>rfl) (fun _ _=>rfl) (fun x a h=>by unfold stepBucket;rw[h];rfl))
  (all_cons (askI_ok (t:=2) hI m31 (fun x n=>{x with b:=n}) (fun _ _ _=>rfl) (fun _ _=>rfl) (fun x a h=>by unfold stepBucket;rw[h];rfl))
  (all_nil))
 else_ x a h:=by
  unfold stepBucket
  split<;>first|rfl|(rename_i e;exact(noF h e rfl).elim)
 bel _ _ _ _:=rfl
 weak _ _ _ _:=WeakL.refl _
 z:=rfl
 no:=rfl
 nn:=rfl
 er _:=rfl
 ok:=rfl
theorem pRBu:PuOk Try.prog 100 kBu.f (s1K cBucket (MA1 stepBucket zBucket)):=puItm rfl rfl rfl (fun s B H=>rdGH okBu (kn_pu (pu1 puRb)) lp_none (gBuR_eq MRN) gBu_eq s B H)
theorem okFi:RkOk kFi stepField 0 (fFi MRN) where
 asks:=all_cons (askI_ok (t:=1) hI m31 (fun x n=>{x with id:=n}) (fun _ _ _=>rfl) (fun _ _=>rfl) (fun x a h=>by unfold stepField;rw[h];rfl))
  (all_cons (ask8_ok (t:=2) (fun x n=>{x with base:=n}) (fun _ _ _=>rfl) (fun _ _=>rfl) (fun x a h=>by unfold stepField;rw[h];rfl))
  (all_cons (askI_ok (t:=3) hI m31 (fun x n=>{x with node:=n}) (fun _ _ _=>rfl) (fun _ _=>rfl) (fun x a h=>by unfold stepField;rw[h];rfl))
  (all_cons (askI_ok (t:=4) hI m31 (fun x n=>{x with off:=n}) (fun _ _ _=>rfl) (fun _ _=>rfl) (fun x a h=>by unfold stepField;rw[h];rfl))
  (all_cons (askI_ok (t:=5) hI m31 (fun x n=>{x with wid:=n}) (fun _ _ _=>rfl) (fun _ _=>rfl) (fun x a h=>by unfold stepField;rw[h];rfl))
  (all_nil)))))
 else_ x a h:=by
  unfold stepField
  split<;>first|rfl|(rename_i e;exact(noF h e rfl).elim)
 bel _ _ _ _:=rfl
 weak _ _ _ _:=WeakL.refl _
 z:=rfl
 no:=rfl
 nn:=rfl
 er _:=rfl
 ok:=rfl
theorem pRFi:PuOk Try.prog 100 kFi.f (sRd vField (MRq stepField zField)):=puObj rfl rfl rfl (fun s B H=>rdGH okFi (kn_pu (pu1 puRb)) lp_none (gFiR_eq MRN) gFi_eq s B H)
theorem okMe:RkOk kMe stepMeter 0 (fMe MRN) where
 asks:=all_cons (askI_ok (t:=1) hI m31 (fun x n=>{x with id:=n}) (fun _ _ _=>rfl) (fun _ _=>rfl) (fun x a h=>by unfold stepMeter;rw[h];rfl))
  (all_cons (askI_ok (t:=2) hG m63 (fun x n=>{x with rate:=n}) (fun _ _ _=>rfl) (fun _ _=>rfl) (fun x a h=>by unfold stepMeter;rw[h];rfl))
  (all_cons (askI_ok (t:=3) hG m63 (fun x n=>{x with burst:=n}) (fun _ _ _=>rfl) (fun _ _=>rfl) (fun x a h=>by unfold stepMeter;rw[h];rfl))
  (all_nil)))
 else_ x a h:=by
  unfold stepMeter
  split<;>first|rfl|(rename_i e;exact(noF h e rfl).elim)
 bel _ _ _ _:=rfl
 weak _ _ _ _:=WeakL.refl _
 z:=rfl
 no:=rfl
 nn:=rfl
 er _:=rfl
 ok:=rfl
theorem pRMe:PuOk Try.prog 100 kMe.f (sRd vMeter (MRq stepMeter zMeter)):=puObj rfl rfl rfl (fun s B H=>rdGH okMe (kn_pu (pu1 puRb)) lp_none (gMeR_eq MRN) gMe_eq s B H)
theorem okRg:RkOk kRg stepRegs 0 (fRg MRN) where
 asks:=all_cons (askI_ok (t:=1) hI m31 (fun x n=>{x with id:=n}) (fun _ _ _=>rfl) (fun _ _=>rfl) (fun x a h=>by unfold stepRegs;rw[h];rfl))
  (all_cons (askI_ok (t:=2) hI m31 (fun x n=>{x with size:=n}) (fun _ _ _=>rfl) (fun _ _=>rfl) (fun x a h=>by unfold stepRegs;rw[h];rfl))
  (all_nil))
 else_ x a h:=by
  unfold stepRegs
  split<;>first|rfl|(rename_i e;exact(noF h e rfl).elim)
 bel _ _ _ _:=rfl
 weak _ _ _ _:=WeakL.refl _
 z:=rfl
 no:=rfl
 nn:=rfl
 er _:=rfl
 ok:=rfl
theorem pRRg:PuOk Try.prog 100 kRg.f (sRd vRegs (MRq stepRegs zRegs)):=puObj rfl rfl rfl (fun s B H=>rdGH okRg (kn_pu (pu1 puRb)) lp_none (gRgR_eq MRN) gRg_eq s B H)
theorem lkNo:LkOk kNo stepNode lNo 9 7 32 cArm rdArm (el1 cArm (MA1 stepArm zArm)) (fun x=>[.int .i64 x.id,.int .i64 x.size,.int .i64 x.lo,.int .i64 x.lw,.int .i64 x.lu,.int .i64 x.so,.int .i64 x.sw]) (fun x=>[.int .i64 x.ot]) (fun x l=>{x with arms:=l}) where
 sp _ _:=rfl
 ba _:=rfl
 br _:=rfl
 set _ _ _:=rfl
 sl _ _ _:=rfl
 rwk _ _:=rfl
 len _:=rfl
 cell _:=rfl
 bel _ _ h:=h
 sz:=by decide
 by_:=by decide
 el _ _:=el1_ok
 top:=by decide
 step x a h:=by unfold stepNode;rw[h];rfl
theorem okNo:RkOk kNo stepNode 9 (fNo MRN MIb (LJr kNo lNo cArm rdArm)) where
 asks:=all_cons (askI_ok (t:=1) hI m31 (fun x n=>{x with id:=n}) (fun _ _ _=>rfl) (fun _ _=>rfl) (fun x a h=>by unfold stepNode;rw[h];rfl))
  (all_cons (askI_ok (t:=2) hI m31 (fun x n=>{x with size:=n}) (fun _ _ _=>rfl) (fun _ _=>rfl) (fun x a h=>by unfold stepNode;rw[h];rfl))
  (all_cons (askI_ok (t:=3) hI m31 (fun x n=>{x with lo:=n}) (fun _ _ _=>rfl) (fun _ _=>rfl) (fun x a h=>by unfold stepNode;rw[h];rfl))
  (all_cons (askI_ok (t:=4) hI m31 (fun x n=>{x with lw:=n}) (fun _ _ _=>rfl) (fun _ _=>rfl) (fun x a h=>by unfold stepNode;rw[h];rfl))
  (all_cons (askI_ok (t:=5) hI m31 (fun x n=>{x with lu:=n}) (fun _ _ _=>rfl) (fun _ _=>rfl) (fun x a h=>by unfold stepNode;rw[h];rfl))
  (all_cons (askI_ok (t:=6) hI m31 (fun x n=>{x with so:=n}) (fun _ _ _=>rfl) (fun _ _=>rfl) (fun x a h=>by unfold stepNode;rw[h];rfl))
  (all_cons (askI_ok (t:=7) hI m31 (fun x n=>{x with sw:=n}) (fun _ _ _=>rfl) (fun _ _=>rfl) (fun x a h=>by unfold stepNode;rw[h];rfl))
  (all_cons (askI_ok (t:=8) hI m31 (fun x n=>{x with ot:=n}) (fun _ _ _=>rfl) (fun _ _=>rfl) (fun x a h=>by unfold stepNode;rw[h];rfl))
  (all_cons (askL_ok lkNo)
  (all_nil)))))))))
 else_ x a h:=by
  unfold stepNode
  split<;>first|rfl|(rename_i e;exact(noF h e rfl).elim)
 bel n x w h:=by simp only[kNo,belowL,below,h,Bool.and_true]
 weak x w w' h:=weak_app (a:=[.int .i64 x.id,.int .i64 x.size,.int .i64 x.lo,.int .i64 x.lw,.int .i64 x.lu,.int .i64 x.so,.int .i64 x.sw]) (.cons h (WeakL.refl [.int .i64 x.ot]))
 z:=rfl
 no:=rfl
 nn:=rfl
 er _:=rfl
 ok:=rfl
theorem lpNo:LoopOk Try.prog 100 [2,4,5,7,9,10,12] (sLpJ 7 (LJr kNo lNo cArm rdArm)):=lpJ okNo lkNo (kn_pu (pu1 pRAr)) lp_none (fun N x rs i b rs2 k ob j back out=>gNoJ_eq _ N x rs i b rs2 k ob j back out)
theorem pRNo:PuOk Try.prog 100 kNo.f (sRd vNode (MRq stepNode zNode)):=puObj rfl rfl rfl (fun s B H=>rdGH okNo (kn_pu puRI) (lp_ok (fun x hx=>by simp only[List.mem_singleton]at hx;subst hx;exact lpNo)) (gNoR_eq MRN MIb (LJr kNo lNo cArm rdArm)) gNo_eq s B H)
theorem lkTa:LkOk kTa stepTable lTa 3 2 4 cInt rdInt (elN MRN 2147483647 cI) (fun x=>[.int .i64 x.id,.int .u8 (x.kind:Int)]) (fun x=>[.int .i64 x.cap,.int .i64 x.miss]) (fun x l=>{x with keys:=l}) where
 sp _ _:=rfl
 ba _:=rfl
 br _:=rfl
 set _ _ _:=rfl
 sl _ _ _:=rfl
 rwk _ _:=rfl
 len _:=rfl
 cell _:=rfl
 bel _ _ h:=h
 sz:=by decide
 by_:=by decide
 el _ _:=elI_ok
 top:=by decide
 step x a h:=by unfold stepTable;rw[h];rfl
theorem okTa:RkOk kTa stepTable 3 (fTa MRN MIb (LJr kTa lTa cInt rdInt)) where
 asks:=all_cons (askI_ok (t:=1) hI m31 (fun x n=>{x with id:=n}) (fun _ _ _=>rfl) (fun _ _=>rfl) (fun x a h=>by unfold stepTable;rw[h];rfl))
  (all_cons (ask8_ok (t:=2) (fun x n=>{x with kind:=n}) (fun _ _ _=>rfl) (fun _ _=>rfl) (fun x a h=>by unfold stepTable;rw[h];rfl))
  (all_cons (askL_ok lkTa)
  (all_cons (askI_ok (t:=4) hI m31 (fun x n=>{x with cap:=n}) (fun _ _ _=>rfl) (fun _ _=>rfl) (fun x a h=>by unfold stepTable;rw[h];rfl))
  (all_cons (askI_ok (t:=5) hI m31 (fun x n=>{x with miss:=n}) (fun _ _ _=>rfl) (fun _ _=>rfl) (fun x a h=>by unfold stepTable;rw[h];rfl))
  (all_nil)))))
 else_ x a h:=by
  unfold stepTable
  split<;>first|rfl|(rename_i e;exact(noF h e rfl).elim)
 bel n x w h:=by simp only[kTa,belowL,below,h,Bool.and_true]
 weak x w w' h:=weak_app (a:=[.int .i64 x.id,.int .u8 (x.kind:Int)]) (.cons h (WeakL.refl [.int .i64 x.cap,.int .i64 x.miss]))
 z:=rfl
 no:=rfl
 nn:=rfl
 er _:=rfl
 ok:=rfl
theorem lpTa:LoopOk Try.prog 100 [2,4,5,7,9,10,12] (sLpJ 2 (LJr kTa lTa cInt rdInt)):=lpJ okTa lkTa (kn_pu (pu1 puRb)) lp_none (fun N x rs i b rs2 k ob j back out=>gTaJ_eq _ N x rs i b rs2 k ob j back out)
theorem pRTa:PuOk Try.prog 100 kTa.f (sRd vTable (MRq stepTable zTable)):=puObj rfl rfl rfl (fun s B H=>rdGH okTa (kn_pu puRI) (lp_ok (fun x hx=>by simp only[List.mem_singleton]at hx;subst hx;exact lpTa)) (gTaR_eq MRN MIb (LJr kTa lTa cInt rdInt)) gTa_eq s B H)
theorem lkEn:LkOk kEn stepEntry lEn 7 6 4 cNat rdNat (elN MRN 18446744073709551615 cU) (fun x=>[.int .i64 x.tab,.string x.key,.string x.oth,.int .i64 x.len,.int .i64 x.prio,.int .i64 x.blk]) (fun x=>[.int .i64 x.idle,.int .i64 x.hard,.int .u64 (x.cook:Int),.bool x.tell]) (fun x l=>{x with args:=l}) where
 sp _ _:=rfl
 ba _:=rfl
 br _:=rfl
 set _ _ _:=rfl
 sl _ _ _:=rfl
 rwk _ _:=rfl
 len _:=rfl
 cell _:=rfl
 bel _ _ h:=h
 sz:=by decide
 by_:=by decide
 el _ _:=elU_ok
 top:=by decide
 step x a h:=by unfold stepEntry;rw[h];rfl
theorem okEn:RkOk kEn stepEntry 7 (fEn MRN MIb (LJr kEn lEn cNat rdNat)) where
 asks:=all_cons (askI_ok (t:=1) hI m31 (fun x n=>{x with tab:=n}) (fun _ _ _=>rfl) (fun _ _=>rfl) (fun x a h=>by unfold stepEntry;rw[h];rfl))
  (all_cons (askS_ok (t:=2) (fun x n=>{x with key:=n}) (fun _ _ _=>rfl) (fun _ _=>rfl) (fun x a h=>by unfold stepEntry;rw[h];rfl))
  (all_cons (askS_ok (t:=3) (fun x n=>{x with oth:=n}) (fun _ _ _=>rfl) (fun _ _=>rfl) (fun x a h=>by unfold stepEntry;rw[h];rfl))
  (all_cons (askI_ok (t:=4) hI m31 (fun x n=>{x with len:=n}) (fun _ _ _=>rfl) (fun _ _=>rfl) (fun x a h=>by unfold stepEntry;rw[h];rfl))
  (all_cons (askI_ok (t:=5) hI m31 (fun x n=>{x with prio:=n}) (fun _ _ _=>rfl) (fun _ _=>rfl) (fun x a h=>by unfold stepEntry;rw[h];rfl))
  (all_cons (askI_ok (t:=6) hI m31 (fun x n=>{x with blk:=n}) (fun _ _ _=>rfl) (fun _ _=>rfl) (fun x a h=>by unfold stepEntry;rw[h];rfl))
  (all_cons (askL_ok lkEn)
  (all_cons (askI_ok (t:=8) hG m63 (fun x n=>{x with idle:=n}) (fun _ _ _=>rfl) (fun _ _=>rfl) (fun x a h=>by unfold stepEntry;rw[h];rfl))
  (all_cons (askI_ok (t:=9) hG m63 (fun x n=>{x with hard:=n}) (fun _ _ _=>rfl) (fun _ _=>rfl) (fun x a h=>by unfold stepEntry;rw[h];rfl))
  (all_cons (askU_ok (t:=10) (fun x n=>{x with cook:=n}) (fun _ _ _=>rfl) (fun _ _=>rfl) (fun x a h=>by unfold stepEntry;rw[h];rfl))
  (all_cons (askB_ok (t:=11) (fun x n=>{x with tell:=n}) (fun _ _ _=>rfl) (fun _ _=>rfl) (fun x a h=>by unfold stepEntry;rw[h];rfl))
  (all_nil)))))))))))
 else_ x a h:=by
  unfold stepEntry
  split<;>first|rfl|(rename_i e;exact(noF h e rfl).elim)
 bel n x w h:=by simp only[kEn,belowL,below,h,Bool.and_true]
 weak x w w' h:=weak_app (a:=[.int .i64 x.tab,.string x.key,.string x.oth,.int .i64 x.len,.int .i64 x.prio,.int .i64 x.blk]) (.cons h (WeakL.refl [.int .i64 x.idle,.int .i64 x.hard,.int .u64 (x.cook:Int),.bool x.tell]))
 z:=rfl
 no:=rfl
 nn:=rfl
 er _:=rfl
 ok:=rfl
theorem lpEn:LoopOk Try.prog 100 [2,4,5,7,9,10,12] (sLpJ 6 (LJr kEn lEn cNat rdNat)):=lpJ okEn lkEn (kn_pu (pu1 puRb)) lp_none (fun N x rs i b rs2 k ob j back out=>gEnJ_eq _ N x rs i b rs2 k ob j back out)
theorem pREn:PuOk Try.prog 100 kEn.f (sRd vEntry (MRq stepEntry zEntry)):=puObj rfl rfl rfl (fun s B H=>rdGH okEn (kn_pu puRI) (lp_ok (fun x hx=>by simp only[List.mem_singleton]at hx;subst hx;exact lpEn)) (gEnR_eq MRN MIb (LJr kEn lEn cNat rdNat)) gEn_eq s B H)
theorem lkBl:LkOk kBl stepBlock lBl 2 1 32 cInstr rdInstr (el1 cInstr (MA1 stepInstr zInstr)) (fun x=>[.int .i64 x.id]) (fun x=>[]) (fun x l=>{x with code:=l}) where
 sp _ _:=rfl
 ba _:=rfl
 br _:=rfl
 set _ _ _:=rfl
 sl _ _ _:=rfl
 rwk _ _:=rfl
 len _:=rfl
 cell _:=rfl
 bel _ _ h:=h
 sz:=by decide
 by_:=by decide
 el _ _:=el1_ok
 top:=by decide
 step x a h:=by unfold stepBlock;rw[h];rfl
theorem okBl:RkOk kBl stepBlock 2 (fBl MRN MIb (LJr kBl lBl cInstr rdInstr)) where
 asks:=all_cons (askI_ok (t:=1) hI m31 (fun x n=>{x with id:=n}) (fun _ _ _=>rfl) (fun _ _=>rfl) (fun x a h=>by unfold stepBlock;rw[h];rfl))
  (all_cons (askL_ok lkBl)
  (all_nil))
 else_ x a h:=by
  unfold stepBlock
  split<;>first|rfl|(rename_i e;exact(noF h e rfl).elim)
 bel n x w h:=by simp only[kBl,belowL,below,h,Bool.and_true]
 weak x w w' h:=weak_app (a:=[.int .i64 x.id]) (.cons h (WeakL.refl []))
 z:=rfl
 no:=rfl
 nn:=rfl
 er _:=rfl
 ok:=rfl
theorem lpBl:LoopOk Try.prog 100 [2,4,5,7,9,10,12] (sLpJ 1 (LJr kBl lBl cInstr rdInstr)):=lpJ okBl lkBl (kn_pu (pu1 pRIn)) lp_none (fun N x rs i b rs2 k ob j back out=>gBlJ_eq _ N x rs i b rs2 k ob j back out)
theorem pRBl:PuOk Try.prog 100 kBl.f (sRd vBlock (MRq stepBlock zBlock)):=puObj rfl rfl rfl (fun s B H=>rdGH okBl (kn_pu puRI) (lp_ok (fun x hx=>by simp only[List.mem_singleton]at hx;subst hx;exact lpBl)) (gBlR_eq MRN MIb (LJr kBl lBl cInstr rdInstr)) gBl_eq s B H)
theorem lkGr:LkOk kGr stepGroup lGr 4 3 16 cBucket rdBucket (el1 cBucket (MA1 stepBucket zBucket)) (fun x=>[.int .i64 x.id,.int .u8 (x.kind:Int),.int .i64 x.fld]) (fun x=>[]) (fun x l=>{x with bks:=l}) where
 sp _ _:=rfl
 ba _:=rfl
 br _:=rfl
 set _ _ _:=rfl
 sl _ _ _:=rfl
 rwk _ _:=rfl
 len _:=rfl
 cell _:=rfl
 bel _ _ h:=h
 sz:=by decide
 by_:=by decide
 el _ _:=el1_ok
 top:=by decide
 step x a h:=by unfold stepGroup;rw[h];rfl
theorem okGr:RkOk kGr stepGroup 4 (fGr MRN MIb (LJr kGr lGr cBucket rdBucket)) where
 asks:=all_cons (askI_ok (t:=1) hI m31 (fun x n=>{x with id:=n}) (fun _ _ _=>rfl) (fun _ _=>rfl) (fun x a h=>by unfold stepGroup;rw[h];rfl))
  (all_cons (ask8_ok (t:=2) (fun x n=>{x with kind:=n}) (fun _ _ _=>rfl) (fun _ _=>rfl) (fun x a h=>by unfold stepGroup;rw[h];rfl))
  (all_cons (askI_ok (t:=3) hI m31 (fun x n=>{x with fld:=n}) (fun _ _ _=>rfl) (fun _ _=>rfl) (fun x a h=>by unfold stepGroup;rw[h];rfl))
  (all_cons (askL_ok lkGr)
  (all_nil))))
 else_ x a h:=by
  unfold stepGroup
  split<;>first|rfl|(rename_i e;exact(noF h e rfl).elim)
 bel n x w h:=by simp only[kGr,belowL,below,h,Bool.and_true]
 weak x w w' h:=weak_app (a:=[.int .i64 x.id,.int .u8 (x.kind:Int),.int .i64 x.fld]) (.cons h (WeakL.refl []))
 z:=rfl
 no:=rfl
 nn:=rfl
 er _:=rfl
 ok:=rfl
theorem lpGr:LoopOk Try.prog 100 [2,4,5,7,9,10,12] (sLpJ 3 (LJr kGr lGr cBucket rdBucket)):=lpJ okGr lkGr (kn_pu (pu1 pRBu)) lp_none (fun N x rs i b rs2 k ob j back out=>gGrJ_eq _ N x rs i b rs2 k ob j back out)
theorem pRGr:PuOk Try.prog 100 kGr.f (sRd vGroup (MRq stepGroup zGroup)):=puObj rfl rfl rfl (fun s B H=>rdGH okGr (kn_pu puRI) (lp_ok (fun x hx=>by simp only[List.mem_singleton]at hx;subst hx;exact lpGr)) (gGrR_eq MRN MIb (LJr kGr lGr cBucket rdBucket)) gGr_eq s B H)
end
end Go.Proofs.Ytblbaohcelldpaa.Ob
