/- . -/
import Derived.Test.YtblbaohcelldpaaGreatDoorQZ
import Derived.Test.YtblbaohcelldpaaGreatDoorU5
set_option linter.all false
set_option maxRecDepth 100000
namespace Go.Proofs.Ob
open Go Go.Abs Go.Tlv
noncomputable section
variable {α β:Type} {κ:RK1 α} {step:α->At->Option α}
theorem yI{lt t j:Nat}(set:α->ByteArray->α)(hc:∀x w s,(κ.cw x w).set j (.string s)=κ.cw (set x s) w)(hr:∀x s,κ.rws (set x s)=κ.rws x)
  (hs:∀x a,a.t=t->step x a=(R8 32 a.v.data.toList).map (set x)):V7 κ step lt (t:Int) (AGT j):=by
 intro l hen x w i a ha ht hw nx no h1 h2
 have hst:=hs x a (by omega)
 refine QV ha (QV ha (FQ (zH (d:=32) (fun h=>?_) (fun h=>?_))))
 ·rw[hc]
  exact h1 _ w _ (by rw[hst];unfold R8;rw[if_pos h,bytes_eta];rfl) (hw.up (hr x _))
 ·exact h2 (by rw[hst];unfold R8;rw[if_neg (by omega)];rfl) _ _
theorem AEs{lt t j:Nat}(set:α->Bool->α)(hc:∀x w s,(κ.cw x w).set j (.bool s)=κ.cw (set x s) w)(hr:∀x s,κ.rws (set x s)=κ.rws x)
  (hs:∀x a,a.t=t->step x a=(ZN a.v.data.toList).map (set x)):V7 κ step lt (t:Int) (AIT MRN j):=by
 intro l hen x w i a ha ht hw nx no h1 h2
 have hst:=hs x a (by omega)
 refine QV ha ⟨1,rfl,fun n hn=>CG (d:=1) (fun h=>?_) (fun h=>?_),fun hn=>CG (m:=0) (d:=1) (fun h=>absurd h (by decide)) (fun _=>?_)⟩
 ·rw[hc];exact h1 _ w _ (by rw[hst];unfold ZN;rw[hn,h];rfl) (hw.up (hr x _))
 ·rw[hc];exact h1 _ w _ (by rw[hst];unfold ZN;rw[hn];show some (set x (n==1))=_;rw[beq_false_of_ne h]) (hw.up (hr x _))
 ·exact h2 (by rw[hst];unfold ZN;rw[hn];rfl) _ _
structure kQ(κ:RK1 α)(step:α->At->Option α)(y:LK1)(lt p t:Nat)(c1:β->List Value)(rd:List UInt8->Option β)(el:El)(pa pr:α->List Value)(setl:α->List β->α):Prop where
 sp:∀x w,κ.cw x w=pa x++w::pr x
 ba:∀x,A8 102 (pa x)=true
 br:∀x,A8 102 (pr x)=true
 set:∀x w v,(κ.cw x w).set p v=κ.cw x v
 sl:∀x l w,κ.cw (setl x l) w=κ.cw x w
 rwk:∀x l,κ.rws (setl x l)=rowsOf c1 l
 len:∀b,(c1 b).length=y.sz
 cell:∀b,(c1 b).all isCell=true
 bel:∀x m,A8 0 m=true->A8 0 (c1 x++m)=true
 sz:0<y.sz
 by_:y.by_<=1000
 el:∀(s:ByteArray) (K:List Value->Bool->Prop),(∀b,rd s.data.toList=some b->K (c1 b) true)->(rd s.data.toList=none->∀b:β,K (c1 b) false)->el (real Tryz.prog) s K
 top:t<=32
 step:∀x a,a.t=lt->step x a=(D9 rd t a.v.data.toList).map (setl x)
section
variable {y:LK1} {lt p t:Nat} {fs:List (Int×Ask)} {c1:β->List Value} {rd:List UInt8->Option β} {el:El} {pa pr:α->List Value} {setl:α->List β->α}
def IJ(κ:RK1 α)(y:LK1)(c1:β->List Value)(x:α)(l:List At)(i:Nat)(b0:Bool)(l2:List ByteArray)(q:StY rd b0 l2):List Value×List (Option AJ):=
 ([pA 100,pA 101,dsl (CZ l),.int .i64 (i:Int),.bool (!q.1.1),dsl (rowsOf cSt l2),.int .i64 (q.1.2.2:Int)],[κ.o κ.zs,κ.o (κ.cw x (mkS 102 q.1.2.1.length)),mo (q.1.2.1.flatMap c1) y.ty y.sz])
def RJ(κ:RK1 α)(c1:β->List Value)(rd:List UInt8->Option β)(x:α)(l:List At)(i:Nat)(b0:Bool)(l2:List ByteArray)(e:Exit)(v:List Value)(o:List (Option AJ)):Prop:=
 (∃acc,b0=false/\H5 (fun s:ByteArray=>rd s.data.toList) l2=some acc/\e = .exit 3/\v=[pA 100,pA 101,dsl (CZ l),.int .i64 (i:Int),.bool true]/\o=[κ.o κ.zs,κ.o (κ.cw x (dsl (rowsOf c1 acc)))])∨
 ((b0=true∨H5 (fun s:ByteArray=>rd s.data.toList) l2=none)/\e = .exit 3/\v=[pA 100,pA 101,dsl (CZ l),.int .i64 (i:Int),.bool false]/\o=[κ.o κ.zs,none])
theorem AKi(hk:NT κ step lt fs){AB:List Value}(hv:A8 102 AB=true){a b:Option AJ}:Wk 100 (100+2) AB [κ.o κ.zs,a,b] AB [κ.o κ.zs,none]:=
 (CQ (BR.refl _) (.cons (.refl _) (.cons (.none _) (.cons (.none _) .nil)))).trans (I8 (k0:=2) (pre:=[κ.o κ.zs,none]) (extra:=[none]) rfl hv fun j o hj=>by
  rcases j with _|_|j
  ·simp only[List.getElem?_cons_zero,Option.some.injEq,RK1.o]at hj;subst hj
   exact hk.bO κ.z (w:=I4) rfl
  ·simp at hj
  ·simp at hj)
theorem ALK(hk:NT κ step lt fs)(hj:kQ κ step y lt p t c1 rd el pa pr setl){AB:List Value}(hv:A8 102 AB=true)(x:α)(acc:List β):
  Wk 100 (100+2) AB [κ.o κ.zs,κ.o (κ.cw x (mkS 102 acc.length)),mo (acc.flatMap c1) y.ty y.sz] AB [κ.o κ.zs,κ.o (κ.cw x (dsl (rowsOf c1 acc)))]:=by
 have h1:=AGf (AB:=AB) (a:=pa x) (r:=pr x) (e1:=κ.ty) (z1:=κ.zs.length) (lo1:=false) (ow1:=true) (zo := .cells κ.zs κ.ty κ.zs.length false true) (e:=y.ty) (LV hj.len acc) (MG hj.bel acc) hj.sz (BJ (c:=c1) acc).symm
 rw[←hj.sp,←hj.sp]at h1
 refine h1.trans (I8 (k0:=2) (pre:=[κ.o κ.zs,κ.o (κ.cw x (dsl (rowsOf c1 acc)))]) (extra:=[none]) rfl hv fun j o hi=>?_)
 rcases j with _|_|j
 ·simp only[List.getElem?_cons_zero,Option.some.injEq,RK1.o]at hi;subst hi
  exact hk.bO κ.z (w:=I4) rfl
 ·simp only[List.getElem?_cons_succ,List.getElem?_cons_zero,Option.some.injEq,RK1.o]at hi;subst hi
  exact hk.bO x (w:=dsl _) rfl
 ·simp at hi
theorem ALE(hk:NT κ step lt fs)(hj:kQ κ step y lt p t c1 rd el pa pr setl){W:How}(heq:∀N x rs i b rs2 k ob j back out,gJ κ y W N x rs i b rs2 k ob j back out=bJ κ y el N x rs i b rs2 k ob j back out)
  (x:α) (l:List At) (i:Nat) (b0:Bool) (l2:List ByteArray) (hl:l2.length<=32) (q:StY rd b0 l2):
  Is (wpe Tryz.prog (real Tryz.prog) W 300 (.code false (AO Tryz.prog κ.f y.key) (C9 100 κ.n [2,4,5,7,9,10,12] [] (IJ κ y c1 x l i b0 l2 q))) (BM 100 [2,4,5,7,9,10,12] [2,4,5,7,9] κ.n []
   (fun AB AL=>∃a':StY rd b0 l2,l2.length-a'.1.2.2<l2.length-q.1.2.2/\Wk 100 (100+2) AB AL (IJ κ y c1 x l i b0 l2 a').1 (IJ κ y c1 x l i b0 l2 a').2/\∀e v o,RJ κ c1 rd x l i b0 l2 e v o->RJ κ c1 rd x l i b0 l2 e v o)
   (fun e AB AL=>∃v o,Wk 100 (100+2) AB AL v o/\RJ κ c1 rd x l i b0 l2 e v o))):=by
 refine⟨?_⟩
 obtain⟨⟨b,acc,j⟩,inv⟩:=q
 have hle:j<=l2.length:=inv.le
 have hlen:acc.length=j:=inv.len
 have hT:JU=140737488355328:=rfl
 show gJ κ y W (real Tryz.prog) x (CZ l) (i:Int) (!b) (rowsOf cSt l2) acc.length (mo (acc.flatMap c1) y.ty y.sz) (j:Int) _ _
 rw[heq]
 have hby:=hj.by_
 refine CL _ (BJ _ _) (DW (fun hlt=>?_) (fun hge=>?_))
 ·cases b with
  |true=>exact⟨rfl,_,_,AKi hk rfl,.inr ⟨inv.bad rfl,rfl,rfl,rfl⟩⟩
  |false=>
   have hy:l2[j]?=some l2[j]:=List.getElem?_eq_getElem hlt
   generalize l2[j]=s at hy
   have hms:l2.length-(j+1)<l2.length-j:=by omega
   have hwk:∀(b':Bool) (v:β) (ex:List (Option AJ)),ex.length=y.d->Wk 100 (100+2) [pA 100,pA 101,dsl (CZ l),.int .i64 (i:Int),.bool (!b'),dsl (rowsOf cSt l2),.int .i64 ((j+1:Nat):Int)]
     (κ.o κ.zs::κ.o (κ.cw x (.slice (some ⟨103+y.d,0,none⟩) (acc.length+1) (acc.length+1)))::none::(ex++[some (.cells (acc.flatMap c1++c1 v) y.ty y.sz true true)]))
     [pA 100,pA 101,dsl (CZ l),.int .i64 (i:Int),.bool (!b'),dsl (rowsOf cSt l2),.int .i64 ((j+1:Nat):Int)] [κ.o κ.zs,κ.o (κ.cw x (mkS 102 (acc++[v]).length)),mo ((acc++[v]).flatMap c1) y.ty y.sz]:=by
    intro b' v ex hex
    have hcell:acc.flatMap c1++c1 v=(acc++[v]).flatMap c1:=by simp
    have hacc:(acc++[v]).length=acc.length+1:=by simp
    have hne:(acc++[v]).flatMap c1≠[]:=by
     rw[←hcell]
     intro h
     have:=congrArg List.length h
     rw[List.length_append,hj.len v]at this
     simp only[List.length_nil]at this
     have:=hj.sz;omega
    rw[hcell,M9 hne,hacc,hj.sp,hj.sp]
    refine AGh (j:=3+y.d) (zo := .cells κ.zs κ.ty κ.zs.length false true) (by omega) rfl (hk.bO κ.z (w:=I4) rfl) ?_ ?_ (MG hj.bel _) (hj.ba x) (hj.br x) rfl (by omega)
    ·show some (κ.o _)=_
     unfold RK1.o;rw[show 103+y.d=100+(3+y.d)by omega]
    ·show(κ.o κ.zs::κ.o _::none::(ex++[_]))[3+y.d]?=_
     rw[show 3+y.d=y.d+1+1+1 by omega,List.getElem?_cons_succ,List.getElem?_cons_succ,List.getElem?_cons_succ,List.getElem?_append_right (by omega),hex,Nat.sub_self];rfl
   have hgo:∀(b':Bool) (v:β),Got rd b0 l2 b' (acc++[v]) (j+1)->(real Tryz.prog).base true acc.length acc.length (mo (acc.flatMap c1) y.ty y.sz) y.ty y.sz fun vs=>(real Tryz.prog).appX acc.length vs 1 (c1 v) y.sz y.by_ fun vs' k'=>(real Tryz.prog).ari .add .i64 (j:Int) .i64 1 fun j'=>
     ([]:List Deferred)=[]/\(fun AB AL=>∃a':StY rd b0 l2,l2.length-a'.1.2.2<l2.length-j/\Wk 100 (100+2) AB AL (IJ κ y c1 x l i b0 l2 a').1 (IJ κ y c1 x l i b0 l2 a').2/\∀e v o,RJ κ c1 rd x l i b0 l2 e v o->RJ κ c1 rd x l i b0 l2 e v o)
      [pA 100,pA 101,dsl (CZ l),.int .i64 (i:Int),.bool (!b'),dsl (rowsOf cSt l2),.int .i64 j'] (κ.o κ.zs::κ.o (κ.cw x (.slice (some ⟨103+y.d,0,none⟩) k' k'))::none::(List.replicate y.d (some (.cells (c1 v) y.ty y.sz false true))++[some (.cells vs' y.ty y.sz true true)])):=fun b' v hg=>
    EM (F8 hj.len acc) (by have:=hj.sz;omega) (I1 (by omega) (by rw[hj.len,Nat.one_mul]) (hj.cell v)
     (Nat.le_trans (Nat.mul_le_mul (show 2*(acc.length+1)+192<=1000 by omega) hby) (by rw[hT];omega)) (by omega) (BS (by omega) ⟨rfl,⟨(b',acc++[v],j+1),hg⟩,hms,hwk b' v _ (List.length_replicate ..),fun _ _ _ h=>h⟩))
   refine EG j rfl (JE hy) rfl (JM (z:=s) rfl (hj.el s _ (fun v hv=>?_) (fun hv v=>?_)))
   ·exact hgo false v (inv.next hy hv)
   ·exact hgo true v (inv.fail hy hv)
 ·have e:j=l2.length:=by omega
  subst e
  cases b with
  |true=>exact⟨rfl,_,_,AKi hk rfl,.inr ⟨inv.bad rfl,rfl,rfl,rfl⟩⟩
  |false=>
   have:=inv.well rfl
   rw[List.take_length]at this
   exact⟨rfl,_,_,ALK hk hj rfl x acc,.inl ⟨acc,this.1,this.2,rfl,rfl,rfl⟩⟩
def LJr(κ:RK1 α)(y:LK1)(c1:β->List Value)(rd:List UInt8->Option β):LJ:=fun c n AB obs A E=>∃(x:α) (l:List At) (i:Nat) (b0:Bool) (l2:List ByteArray),l2.length<=32/\c=AO Tryz.prog κ.f y.key/\n=κ.n/\
 AB=[pA 100,pA 101,dsl (CZ l),.int .i64 (i:Int),.bool (!b0),dsl (rowsOf cSt l2),.int .i64 (0:Int)]/\obs=[κ.o κ.zs,κ.o (κ.cw x I4)]/\
 (∀acc,b0=false->H5 (fun s:ByteArray=>rd s.data.toList) l2=some acc->A (dsl (rowsOf c1 acc)))/\((b0=true∨H5 (fun s:ByteArray=>rd s.data.toList) l2=none)->E)
theorem lpJ(hk:NT κ step lt fs)(hj:kQ κ step y lt p t c1 rd el pa pr setl){W:How}(hkn:QP Tryz.prog 100 W)(hlp:QQ Tryz.prog 100 W)(heq:∀N x rs i b rs2 k ob j back out,gJ κ y W N x rs i b rs2 k ob j back out=bJ κ y el N x rs i b rs2 k ob j back out):
  BH Tryz.prog 100 [2,4,5,7,9,10,12] (wP p (LJr κ y c1 rd)):=by
 show BH Tryz.prog 100 [2,4,5,7,9,10,12] (lpS [2,4,5,7,9] _)
 refine FW okp (W:=W) hkn hlp ?_
 intro c n AB obs K h
 split at h<;>try exact h.elim
 obtain⟨x,l,i,b0,l2,hl,hc,hn,hv,ho,hA,hE⟩:=h
 subst hc;subst hn
 simp only[RK1.o,List.cons.injEq,Option.some.injEq,AJ.cells.injEq,and_true]at hv ho
 obtain⟨rfl,rfl,rfl,rfl,rfl,rfl,rfl⟩:=hv
 obtain⟨rfl,rfl,rfl,rfl,rfl,rfl⟩:=ho
 refine⟨StY rd b0 l2,2,300,fun q=>l2.length-q.1.2.2,IJ κ y c1 x l i b0 l2,fun _ e v o=>RJ κ c1 rd x l i b0 l2 e v o,⟨(b0,[],0),⟨Nat.zero_le _,rfl,fun h=>⟨h,rfl⟩,fun h => .inl h⟩⟩,rfl,?_,?_,ALE hk hj heq x l i b0 l2 hl⟩
 ·exact(CQ (BR.refl _) (.cons (.refl _) (.cons (.cells (hk.weak x _ _ .nilM)) .nil))).trans xD
 intro e v o hR
 rcases hR with⟨acc,h1,h2,rfl,rfl,rfl⟩ | ⟨h1,rfl,rfl,rfl⟩
 ·have:=hA acc h1 h2
  dsimp only at this
  rw[hj.set]at this;exact this
 ·exact hE h1
theorem WU(hj:kQ κ step y lt p t c1 rd el pa pr setl):V7 κ step lt (lt:Int) (AAw κ.f κ.n y.key p (κ.o κ.zs) MIb (LJr κ y c1 rd) (t:Int)):=by
 intro l hen x w i a ha ht hw nx no h1 h2
 have hat:a.t=lt:=by omega
 have hw0:w=I4:=by
  rcases hw with h|⟨_,j,b,g1,g2,g3⟩
  ·exact h.1
  ·have:=(bA hen i a ha).2.2.2 j b g1 g2;omega
 subst hw0
 have ht32:=hj.top
 have hst:=hj.step x a hat
 refine QV ha ⟨t,rfl,by omega,x,l,i,!decide ((DK t 0 a.v.data.toList).1=0),_,UR ht32,rfl,rfl,by rw[Bool.not_not],rfl,fun acc hb hm=>?_,fun h=>h2 ?_ _ _⟩
 ·have h0:(DK t 0 a.v.data.toList).1=0:=by
   by_cases h:(DK t 0 a.v.data.toList).1=0
   ·exact h
   ·rw[decide_eq_false h]at hb;cases hb
  have hg:D9 rd t a.v.data.toList=some acc:=by unfold D9;rw[if_pos h0];exact hm
  show nx ((κ.cw x I4).set p (dsl (rowsOf c1 acc))) []
  rw[hj.set,←hj.sl x acc]
  exact h1 _ _ _ (by rw[hst,hg];rfl) (.inr ⟨by rw[hj.rwk],i,a,by omega,ha,hat⟩)
 ·rw[hst]
  have hg:D9 rd t a.v.data.toList=none:=by
   unfold D9
   by_cases h0:(DK t 0 a.v.data.toList).1=0
   ·rw[if_pos h0]
    rcases h with h|h
    ·rw[decide_eq_true h0]at h;cases h
    ·exact h
   ·rw[if_neg h0]
  rw[hg];rfl
end
end
end Go.Proofs.Ob
namespace Go.Proofs.Ob
open Go Go.Abs Go.Tlv
noncomputable section
theorem all_nil{γ:Type}{P:γ->Prop}:∀f∈([]:List γ),P f:=fun _ h=>by cases h
theorem all_cons{γ:Type}{P:γ->Prop}{a:γ}{l:List γ}(h:P a)(t:∀f∈l,P f):∀f∈a::l,P f:=fun f hf=>by
 rcases List.mem_cons.1 hf with rfl|hf
 ·exact h
 ·exact t f hf
theorem noF{fs:List (Int×Ask)}{t n:Nat}(h:∀f∈fs,f.1≠((t:Nat):Int))(e:t=n)(hm:(fs.map (·.1)).contains (n:Int)=true):False:=by
 rw[List.contains_iff_mem]at hm
 obtain⟨f,h1,h2⟩:=List.mem_map.1 hm
 exact h f h1 (by rw[h2,e])
variable {α:Type} {κ:RK1 α} {step:α->At->Option α}
theorem DJ{lt most t j:Nat}{k:Cv}(hk:k=cI∨k=cG)(hm:most<9223372036854775808)(set:α->Int->α)(hc:∀x w n,(κ.cw x w).set j (.int .i64 n)=κ.cw (set x n) w)(hr:∀x n,κ.rws (set x n)=κ.rws x)
  (hs:∀x a,a.t=t->step x a=(AV most a.v.data.toList).map (set x)):V7 κ step lt (t:Int) (JR MRN (most:Int) k j):=
 aT (fun x n=>set x (n:Int)) (.inr (.inr (.inr ⟨hk,hm⟩))) (fun x w n=>by rcases hk with rfl|rfl<;>exact hc x w _) (fun x n=>hr x _) (fun x a h=>by rw[hs x a h];exact opI)
theorem aU{lt t j:Nat}(set:α->Nat->α)(hc:∀x w (n:Nat),(κ.cw x w).set j (.int .u64 (n:Int))=κ.cw (set x n) w)(hr:∀x n,κ.rws (set x n)=κ.rws x)
  (hs:∀x a,a.t=t->step x a=(DN 18446744073709551615 a.v.data.toList).map (set x)):V7 κ step lt (t:Int) (JR MRN 18446744073709551615 cU j):=
 aT (most:=18446744073709551615) set (.inl rfl) hc hr hs
theorem UJ{lt t j:Nat}(set:α->Nat->α)(hc:∀x w (n:Nat),(κ.cw x w).set j (.int .u8 (n:Int))=κ.cw (set x n) w)(hr:∀x n,κ.rws (set x n)=κ.rws x)
  (hs:∀x a,a.t=t->step x a=(DN 255 a.v.data.toList).map (set x)):V7 κ step lt (t:Int) (JR MRN 255 cB j):=
 aT (most:=255) set (.inr (.inl ⟨rfl,by decide⟩)) hc hr hs
theorem hI:(cI:Cv)=cI∨(cI:Cv)=cG := .inl rfl
theorem hG:(cG:Cv)=cI∨(cG:Cv)=cG := .inr rfl
theorem m31:2147483647<9223372036854775808:=by decide
theorem m63:9223372036854775807<9223372036854775808:=by decide
theorem AGY{s:ByteArray}{K:List Value->Bool->Prop}(h1:∀b,GJ s.data.toList=some b->K (G7 b) true)(h2:GJ s.data.toList=none->∀b:Int,K (G7 b) false):elN MRN 2147483647 cI (real Tryz.prog) s K:=
 ⟨2147483647,rfl,fun n hn=>lQ (most:=2147483647) (.inr (.inr (.inr ⟨.inl rfl,m31⟩))) (BV hn).2.1 (h1 _ (by unfold GJ AV;rw[hn];rfl)),fun hn=>lQ (n:=0) (most:=2147483647) (.inr (.inr (.inr ⟨.inl rfl,m31⟩))) (Nat.zero_le _) (h2 (by unfold GJ AV;rw[hn];rfl) _)⟩
theorem AGZ{s:ByteArray}{K:List Value->Bool->Prop}(h1:∀b,ET s.data.toList=some b->K (CS b) true)(h2:ET s.data.toList=none->∀b:Nat,K (CS b) false):elN MRN 18446744073709551615 cU (real Tryz.prog) s K:=
 ⟨18446744073709551615,rfl,fun n hn=>h1 n hn,fun hn=>h2 hn 0⟩
def MA1{β:Type}(step:β->At->Option β)(z:β):M1 β:=fun s K=>K (rdE step z s.data.toList).2 (decide ((rdE step z s.data.toList).1=0))
theorem uX{β:Type}{step:β->At->Option β}{z:β}{c:β->List Value}{s:ByteArray}{K:List Value->Bool->Prop}(h1:∀b,rdO step z s.data.toList=some b->K (c b) true)(h2:rdO step z s.data.toList=none->∀b:β,K (c b) false):el1 c (MA1 step z) (real Tryz.prog) s K:=by
 show K (c _) (decide _)
 unfold rdO at h1 h2
 by_cases h:(rdE step z s.data.toList).1=0
 ·rw[decide_eq_true h];exact h1 _ (if_pos h)
 ·rw[decide_eq_false h];exact h2 (if_neg h) _
theorem ADd{c:α->List Value}(hc:(fun x=>κ.c x)=c)(ho:κ.ok = .bool true)(he:κ.er=erB)(h:∀(s:ByteArray) B H,BP Tryz.prog 100 B κ.f [.string s] H (.returned (rvG κ (rdE step κ.z s.data.toList))) H):EW Tryz.prog 100 κ.f (s1K c (MA1 step κ.z)):=by
 subst hc
 intro args K hs
 unfold s1K at hs
 split at hs<;>try exact hs.elim
 rename_i s
 refine⟨_,h s,?_⟩
 have e:rvG κ (rdE step κ.z s.data.toList) = .tuple ⟨[.agg ⟨κ.c (rdE step κ.z s.data.toList).2⟩,.bool (decide ((rdE step κ.z s.data.toList).1=0))]⟩:=by
  unfold rvG
  by_cases h0:(rdE step κ.z s.data.toList).1=0
  ·rw[if_pos h0,decide_eq_true h0,ho]
  ·rw[if_neg h0,decide_eq_false h0,he];rfl
 rw[e];exact hs
theorem ZG{v:α->Value}(hc:(fun x=>Value.agg ⟨κ.c x⟩)=v)(ho:κ.ok = .int .i64 0)(he:κ.er=erI)(h:∀(s:ByteArray) B H,BP Tryz.prog 100 B κ.f [.string s] H (.returned (rvG κ (rdE step κ.z s.data.toList))) H):EW Tryz.prog 100 κ.f (sRd v (MRq step κ.z)):=by
 subst hc
 refine nP fun s B H=>?_
 have e:rvG κ (rdE step κ.z s.data.toList) = .tuple ⟨[.agg ⟨κ.c (rdE step κ.z s.data.toList).2⟩,.int .i64 ((rdE step κ.z s.data.toList).1:Int)]⟩:=by
  unfold rvG
  by_cases h0:(rdE step κ.z s.data.toList).1=0
  ·rw[if_pos h0,h0,ho];rfl
  ·rw[if_neg h0,he];rfl
 rw[←e];exact h s B H
theorem ADe:∀x∈[(239,sRb MRN),(240,sIb MIb)],EW Tryz.prog 100 x.1 x.2:=all_cons (P:=fun x:FuncId×(List Value->(Value->Prop)->Prop)=>EW Tryz.prog 100 x.1 x.2) nO (all_cons ALr all_nil)
theorem AK3:NT kAr DY 0 (fAr MRN) where
 asks:=all_cons (aT (t:=1) (most:=4294967295) (fun x n=>{x with v:=n}) (.inr (.inr (.inl ⟨rfl,by decide⟩))) (fun _ _ _=>rfl) (fun _ _=>rfl) (fun x a h=>by unfold DY;rw[h];rfl))
  (all_cons (DJ (t:=2) hI m31 (fun x n=>{x with nx:=n}) (fun _ _ _=>rfl) (fun _ _=>rfl) (fun x a h=>by unfold DY;rw[h];rfl))
  (all_nil))
 else_ x a h:=by
  unfold DY
  split<;>first|rfl|(rename_i e;exact(noF h e rfl).elim)
 bel _ _ _ _:=rfl
 weak _ _ _ _:=BR.refl _
 z:=rfl
 no:=rfl
 nn:=rfl
 er _:=rfl
 ok:=rfl
theorem ALc:EW Tryz.prog 100 kAr.f (s1K FV (MA1 DY SB)):=ADd rfl rfl rfl (fun s B H=>eP AK3 (DI (pu1 nO)) BN (AEH MRN) AG5 s B H)
theorem AK6:NT kIn A9 0 (fIn MRN) where
 asks:=all_cons (UJ (t:=1) (fun x n=>{x with op:=n}) (fun _ _ _=>rfl) (fun _ _=>rfl) (fun x a h=>by unfold A9;rw[h];rfl))
  (all_cons (DJ (t:=2) hI m31 (fun x n=>{x with to:=n}) (fun _ _ _=>rfl) (fun _ _=>rfl) (fun x a h=>by unfold A9;rw[h];rfl))
  (all_cons (UJ (t:=3) (fun x n=>{x with ak:=n}) (fun _ _ _=>rfl) (fun _ _=>rfl) (fun x a h=>by unfold A9;rw[h];rfl))
  (all_cons (aU (t:=4) (fun x n=>{x with an:=n}) (fun _ _ _=>rfl) (fun _ _=>rfl) (fun x a h=>by unfold A9;rw[h];rfl))
  (all_cons (UJ (t:=5) (fun x n=>{x with bk:=n}) (fun _ _ _=>rfl) (fun _ _=>rfl) (fun x a h=>by unfold A9;rw[h];rfl))
  (all_cons (aU (t:=6) (fun x n=>{x with bn:=n}) (fun _ _ _=>rfl) (fun _ _=>rfl) (fun x a h=>by unfold A9;rw[h];rfl))
  (all_cons (DJ (t:=7) hI m31 (fun x n=>{x with n:=n}) (fun _ _ _=>rfl) (fun _ _=>rfl) (fun x a h=>by unfold A9;rw[h];rfl))
  (all_nil)))))))
 else_ x a h:=by
  unfold A9
  split<;>first|rfl|(rename_i e;exact(noF h e rfl).elim)
 bel _ _ _ _:=rfl
 weak _ _ _ _:=BR.refl _
 z:=rfl
 no:=rfl
 nn:=rfl
 er _:=rfl
 ok:=rfl
theorem ALi:EW Tryz.prog 100 kIn.f (s1K CO (MA1 A9 I6)):=ADd rfl rfl rfl (fun s B H=>eP AK6 (DI (pu1 nO)) BN (AEU MRN) AHd s B H)
theorem AK4:NT kBu CE 0 (fBu MRN) where
 asks:=all_cons (aU (t:=1) (fun x n=>{x with w:=n}) (fun _ _ _=>rfl) (fun _ _=>rfl) (fun x a h=>by unfold CE;rw[h];rfl))
  (all_cons (DJ (t:=2) hI m31 (fun x n=>{x with b:=n}) (fun _ _ _=>rfl) (fun _ _=>rfl) (fun x a h=>by unfold CE;rw[h];rfl))
  (all_nil))
 else_ x a h:=by
  unfold CE
  split<;>first|rfl|(rename_i e;exact(noF h e rfl).elim)
 bel _ _ _ _:=rfl
 weak _ _ _ _:=BR.refl _
 z:=rfl
 no:=rfl
 nn:=rfl
 er _:=rfl
 ok:=rfl
theorem ALe:EW Tryz.prog 100 kBu.f (s1K CF (MA1 CE GN)):=ADd rfl rfl rfl (fun s B H=>eP AK4 (DI (pu1 nO)) BN (AEK MRN) AG7 s B H)
theorem AK5:NT kFi BC 0 (fFi MRN) where
 asks:=all_cons (DJ (t:=1) hI m31 (fun x n=>{x with id:=n}) (fun _ _ _=>rfl) (fun _ _=>rfl) (fun x a h=>by unfold BC;rw[h];rfl))
  (all_cons (UJ (t:=2) (fun x n=>{x with base:=n}) (fun _ _ _=>rfl) (fun _ _=>rfl) (fun x a h=>by unfold BC;rw[h];rfl))
  (all_cons (DJ (t:=3) hI m31 (fun x n=>{x with node:=n}) (fun _ _ _=>rfl) (fun _ _=>rfl) (fun x a h=>by unfold BC;rw[h];rfl))
  (all_cons (DJ (t:=4) hI m31 (fun x n=>{x with off:=n}) (fun _ _ _=>rfl) (fun _ _=>rfl) (fun x a h=>by unfold BC;rw[h];rfl))
  (all_cons (DJ (t:=5) hI m31 (fun x n=>{x with wid:=n}) (fun _ _ _=>rfl) (fun _ _=>rfl) (fun x a h=>by unfold BC;rw[h];rfl))
  (all_nil)))))
 else_ x a h:=by
  unfold BC
  split<;>first|rfl|(rename_i e;exact(noF h e rfl).elim)
 bel _ _ _ _:=rfl
 weak _ _ _ _:=BR.refl _
 z:=rfl
 no:=rfl
 nn:=rfl
 er _:=rfl
 ok:=rfl
theorem ALg:EW Tryz.prog 100 kFi.f (sRd LC (MRq BC FH)):=ZG rfl rfl rfl (fun s B H=>eP AK5 (DI (pu1 nO)) BN (AER MRN) AHa s B H)
theorem AK7:NT kMe BL 0 (fMe MRN) where
 asks:=all_cons (DJ (t:=1) hI m31 (fun x n=>{x with id:=n}) (fun _ _ _=>rfl) (fun _ _=>rfl) (fun x a h=>by unfold BL;rw[h];rfl))
  (all_cons (DJ (t:=2) hG m63 (fun x n=>{x with rate:=n}) (fun _ _ _=>rfl) (fun _ _=>rfl) (fun x a h=>by unfold BL;rw[h];rfl))
  (all_cons (DJ (t:=3) hG m63 (fun x n=>{x with burst:=n}) (fun _ _ _=>rfl) (fun _ _=>rfl) (fun x a h=>by unfold BL;rw[h];rfl))
  (all_nil)))
 else_ x a h:=by
  unfold BL
  split<;>first|rfl|(rename_i e;exact(noF h e rfl).elim)
 bel _ _ _ _:=rfl
 weak _ _ _ _:=BR.refl _
 z:=rfl
 no:=rfl
 nn:=rfl
 er _:=rfl
 ok:=rfl
theorem ALj:EW Tryz.prog 100 kMe.f (sRd LM (MRq BL FJ)):=ZG rfl rfl rfl (fun s B H=>eP AK7 (DI (pu1 nO)) BN (AEV MRN) AHf s B H)
theorem AK8:NT kRg CB 0 (fRg MRN) where
 asks:=all_cons (DJ (t:=1) hI m31 (fun x n=>{x with id:=n}) (fun _ _ _=>rfl) (fun _ _=>rfl) (fun x a h=>by unfold CB;rw[h];rfl))
  (all_cons (DJ (t:=2) hI m31 (fun x n=>{x with size:=n}) (fun _ _ _=>rfl) (fun _ _=>rfl) (fun x a h=>by unfold CB;rw[h];rfl))
  (all_nil))
 else_ x a h:=by
  unfold CB
  split<;>first|rfl|(rename_i e;exact(noF h e rfl).elim)
 bel _ _ _ _:=rfl
 weak _ _ _ _:=BR.refl _
 z:=rfl
 no:=rfl
 nn:=rfl
 er _:=rfl
 ok:=rfl
theorem ALl:EW Tryz.prog 100 kRg.f (sRd QN (MRq CB GU)):=ZG rfl rfl rfl (fun s B H=>eP AK8 (DI (pu1 nO)) BN (AE7 MRN) AHs s B H)
theorem AJv:kQ kNo AY lNo 9 7 32 FV GI (el1 FV (MA1 DY SB)) (fun x=>[.int .i64 x.id,.int .i64 x.size,.int .i64 x.lo,.int .i64 x.lw,.int .i64 x.lu,.int .i64 x.so,.int .i64 x.sw]) (fun x=>[.int .i64 x.ot]) (fun x l=>{x with arms:=l}) where
 sp _ _:=rfl
 ba _:=rfl
 br _:=rfl
 set _ _ _:=rfl
 sl _ _ _:=rfl
 rwk _ _:=rfl
 len _:=rfl
 cell _:=rfl
 bel _ _ h:=h
 sz:=by decide
 by_:=by decide
 el _ _:=uX
 top:=by decide
 step x a h:=by unfold AY;rw[h];rfl
theorem AJG:NT kNo AY 9 (fNo MRN MIb (LJr kNo lNo FV GI)) where
 asks:=all_cons (DJ (t:=1) hI m31 (fun x n=>{x with id:=n}) (fun _ _ _=>rfl) (fun _ _=>rfl) (fun x a h=>by unfold AY;rw[h];rfl))
  (all_cons (DJ (t:=2) hI m31 (fun x n=>{x with size:=n}) (fun _ _ _=>rfl) (fun _ _=>rfl) (fun x a h=>by unfold AY;rw[h];rfl))
  (all_cons (DJ (t:=3) hI m31 (fun x n=>{x with lo:=n}) (fun _ _ _=>rfl) (fun _ _=>rfl) (fun x a h=>by unfold AY;rw[h];rfl))
  (all_cons (DJ (t:=4) hI m31 (fun x n=>{x with lw:=n}) (fun _ _ _=>rfl) (fun _ _=>rfl) (fun x a h=>by unfold AY;rw[h];rfl))
  (all_cons (DJ (t:=5) hI m31 (fun x n=>{x with lu:=n}) (fun _ _ _=>rfl) (fun _ _=>rfl) (fun x a h=>by unfold AY;rw[h];rfl))
  (all_cons (DJ (t:=6) hI m31 (fun x n=>{x with so:=n}) (fun _ _ _=>rfl) (fun _ _=>rfl) (fun x a h=>by unfold AY;rw[h];rfl))
  (all_cons (DJ (t:=7) hI m31 (fun x n=>{x with sw:=n}) (fun _ _ _=>rfl) (fun _ _=>rfl) (fun x a h=>by unfold AY;rw[h];rfl))
  (all_cons (DJ (t:=8) hI m31 (fun x n=>{x with ot:=n}) (fun _ _ _=>rfl) (fun _ _=>rfl) (fun x a h=>by unfold AY;rw[h];rfl))
  (all_cons (WU AJv)
  (all_nil)))))))))
 else_ x a h:=by
  unfold AY
  split<;>first|rfl|(rename_i e;exact(noF h e rfl).elim)
 bel n x w h:=by simp only[kNo,A8,below,h,Bool.and_true]
 weak x w w' h:=JG (a:=[.int .i64 x.id,.int .i64 x.size,.int .i64 x.lo,.int .i64 x.lw,.int .i64 x.lu,.int .i64 x.so,.int .i64 x.sw]) (.cons h (BR.refl [.int .i64 x.ot]))
 z:=rfl
 no:=rfl
 nn:=rfl
 er _:=rfl
 ok:=rfl
theorem AKT:BH Tryz.prog 100 [2,4,5,7,9,10,12] (wP 7 (LJr kNo lNo FV GI)):=lpJ AJG AJv (DI (pu1 ALc)) BN (fun N x rs i b rs2 k ob j back out=>AEX _ N x rs i b rs2 k ob j back out)
theorem ALk:EW Tryz.prog 100 kNo.f (sRd QM (MRq AY HZ)):=ZG rfl rfl rfl (fun s B H=>eP AJG (DI ADe) (E9 (fun x hx=>by simp only[List.mem_singleton]at hx;subst hx;exact AKT)) (AEY MRN MIb (LJr kNo lNo FV GI)) AHh s B H)
theorem AJw:kQ kTa BA lTa 3 2 4 G7 GJ (elN MRN 2147483647 cI) (fun x=>[.int .i64 x.id,.int .u8 (x.kind:Int)]) (fun x=>[.int .i64 x.cap,.int .i64 x.miss]) (fun x l=>{x with keys:=l}) where
 sp _ _:=rfl
 ba _:=rfl
 br _:=rfl
 set _ _ _:=rfl
 sl _ _ _:=rfl
 rwk _ _:=rfl
 len _:=rfl
 cell _:=rfl
 bel _ _ h:=h
 sz:=by decide
 by_:=by decide
 el _ _:=AGY
 top:=by decide
 step x a h:=by unfold BA;rw[h];rfl
theorem AJJ:NT kTa BA 3 (fTa MRN MIb (LJr kTa lTa G7 GJ)) where
 asks:=all_cons (DJ (t:=1) hI m31 (fun x n=>{x with id:=n}) (fun _ _ _=>rfl) (fun _ _=>rfl) (fun x a h=>by unfold BA;rw[h];rfl))
  (all_cons (UJ (t:=2) (fun x n=>{x with kind:=n}) (fun _ _ _=>rfl) (fun _ _=>rfl) (fun x a h=>by unfold BA;rw[h];rfl))
  (all_cons (WU AJw)
  (all_cons (DJ (t:=4) hI m31 (fun x n=>{x with cap:=n}) (fun _ _ _=>rfl) (fun _ _=>rfl) (fun x a h=>by unfold BA;rw[h];rfl))
  (all_cons (DJ (t:=5) hI m31 (fun x n=>{x with miss:=n}) (fun _ _ _=>rfl) (fun _ _=>rfl) (fun x a h=>by unfold BA;rw[h];rfl))
  (all_nil)))))
 else_ x a h:=by
  unfold BA
  split<;>first|rfl|(rename_i e;exact(noF h e rfl).elim)
 bel n x w h:=by simp only[kTa,A8,below,h,Bool.and_true]
 weak x w w' h:=JG (a:=[.int .i64 x.id,.int .u8 (x.kind:Int)]) (.cons h (BR.refl [.int .i64 x.cap,.int .i64 x.miss]))
 z:=rfl
 no:=rfl
 nn:=rfl
 er _:=rfl
 ok:=rfl
theorem AK0:BH Tryz.prog 100 [2,4,5,7,9,10,12] (wP 2 (LJr kTa lTa G7 GJ)):=lpJ AJJ AJw (DI (pu1 nO)) BN (fun N x rs i b rs2 k ob j back out=>AE8 _ N x rs i b rs2 k ob j back out)
theorem ALm:EW Tryz.prog 100 kTa.f (sRd LP (MRq BA FK)):=ZG rfl rfl rfl (fun s B H=>eP AJJ (DI ADe) (E9 (fun x hx=>by simp only[List.mem_singleton]at hx;subst hx;exact AK0)) (AE9 MRN MIb (LJr kTa lTa G7 GJ)) AHt s B H)
theorem AJt:kQ kEn AP lEn 7 6 4 CS ET (elN MRN 18446744073709551615 cU) (fun x=>[.int .i64 x.tab,.string x.key,.string x.oth,.int .i64 x.len,.int .i64 x.prio,.int .i64 x.blk]) (fun x=>[.int .i64 x.idle,.int .i64 x.hard,.int .u64 (x.cook:Int),.bool x.tell]) (fun x l=>{x with args:=l}) where
 sp _ _:=rfl
 ba _:=rfl
 br _:=rfl
 set _ _ _:=rfl
 sl _ _ _:=rfl
 rwk _ _:=rfl
 len _:=rfl
 cell _:=rfl
 bel _ _ h:=h
 sz:=by decide
 by_:=by decide
 el _ _:=AGZ
 top:=by decide
 step x a h:=by unfold AP;rw[h];rfl
theorem AJE:NT kEn AP 7 (fEn MRN MIb (LJr kEn lEn CS ET)) where
 asks:=all_cons (DJ (t:=1) hI m31 (fun x n=>{x with tab:=n}) (fun _ _ _=>rfl) (fun _ _=>rfl) (fun x a h=>by unfold AP;rw[h];rfl))
  (all_cons (yI (t:=2) (fun x n=>{x with key:=n}) (fun _ _ _=>rfl) (fun _ _=>rfl) (fun x a h=>by unfold AP;rw[h];rfl))
  (all_cons (yI (t:=3) (fun x n=>{x with oth:=n}) (fun _ _ _=>rfl) (fun _ _=>rfl) (fun x a h=>by unfold AP;rw[h];rfl))
  (all_cons (DJ (t:=4) hI m31 (fun x n=>{x with len:=n}) (fun _ _ _=>rfl) (fun _ _=>rfl) (fun x a h=>by unfold AP;rw[h];rfl))
  (all_cons (DJ (t:=5) hI m31 (fun x n=>{x with prio:=n}) (fun _ _ _=>rfl) (fun _ _=>rfl) (fun x a h=>by unfold AP;rw[h];rfl))
  (all_cons (DJ (t:=6) hI m31 (fun x n=>{x with blk:=n}) (fun _ _ _=>rfl) (fun _ _=>rfl) (fun x a h=>by unfold AP;rw[h];rfl))
  (all_cons (WU AJt)
  (all_cons (DJ (t:=8) hG m63 (fun x n=>{x with idle:=n}) (fun _ _ _=>rfl) (fun _ _=>rfl) (fun x a h=>by unfold AP;rw[h];rfl))
  (all_cons (DJ (t:=9) hG m63 (fun x n=>{x with hard:=n}) (fun _ _ _=>rfl) (fun _ _=>rfl) (fun x a h=>by unfold AP;rw[h];rfl))
  (all_cons (aU (t:=10) (fun x n=>{x with cook:=n}) (fun _ _ _=>rfl) (fun _ _=>rfl) (fun x a h=>by unfold AP;rw[h];rfl))
  (all_cons (AEs (t:=11) (fun x n=>{x with tell:=n}) (fun _ _ _=>rfl) (fun _ _=>rfl) (fun x a h=>by unfold AP;rw[h];rfl))
  (all_nil)))))))))))
 else_ x a h:=by
  unfold AP
  split<;>first|rfl|(rename_i e;exact(noF h e rfl).elim)
 bel n x w h:=by simp only[kEn,A8,below,h,Bool.and_true]
 weak x w w' h:=JG (a:=[.int .i64 x.tab,.string x.key,.string x.oth,.int .i64 x.len,.int .i64 x.prio,.int .i64 x.blk]) (.cons h (BR.refl [.int .i64 x.idle,.int .i64 x.hard,.int .u64 (x.cook:Int),.bool x.tell]))
 z:=rfl
 no:=rfl
 nn:=rfl
 er _:=rfl
 ok:=rfl
theorem AKP:BH Tryz.prog 100 [2,4,5,7,9,10,12] (wP 6 (LJr kEn lEn CS ET)):=lpJ AJE AJt (DI (pu1 nO)) BN (fun N x rs i b rs2 k ob j back out=>AEP _ N x rs i b rs2 k ob j back out)
theorem ALf:EW Tryz.prog 100 kEn.f (sRd LB (MRq AP FE)):=ZG rfl rfl rfl (fun s B H=>eP AJE (DI ADe) (E9 (fun x hx=>by simp only[List.mem_singleton]at hx;subst hx;exact AKP)) (AEQ MRN MIb (LJr kEn lEn CS ET)) AG9 s B H)
theorem AJs:kQ kBl stepBlock lBl 2 1 32 CO DV (el1 CO (MA1 A9 I6)) (fun x=>[.int .i64 x.id]) (fun x=>[]) (fun x l=>{x with code:=l}) where
 sp _ _:=rfl
 ba _:=rfl
 br _:=rfl
 set _ _ _:=rfl
 sl _ _ _:=rfl
 rwk _ _:=rfl
 len _:=rfl
 cell _:=rfl
 bel _ _ h:=h
 sz:=by decide
 by_:=by decide
 el _ _:=uX
 top:=by decide
 step x a h:=by unfold stepBlock;rw[h];rfl
theorem AJD:NT kBl stepBlock 2 (fBl MRN MIb (LJr kBl lBl CO DV)) where
 asks:=all_cons (DJ (t:=1) hI m31 (fun x n=>{x with id:=n}) (fun _ _ _=>rfl) (fun _ _=>rfl) (fun x a h=>by unfold stepBlock;rw[h];rfl))
  (all_cons (WU AJs)
  (all_nil))
 else_ x a h:=by
  unfold stepBlock
  split<;>first|rfl|(rename_i e;exact(noF h e rfl).elim)
 bel n x w h:=by simp only[kBl,A8,below,h,Bool.and_true]
 weak x w w' h:=JG (a:=[.int .i64 x.id]) (.cons h (BR.refl []))
 z:=rfl
 no:=rfl
 nn:=rfl
 er _:=rfl
 ok:=rfl
theorem AKM:BH Tryz.prog 100 [2,4,5,7,9,10,12] (wP 1 (LJr kBl lBl CO DV)):=lpJ AJD AJs (DI (pu1 ALi)) BN (fun N x rs i b rs2 k ob j back out=>AEI _ N x rs i b rs2 k ob j back out)
theorem ALd:EW Tryz.prog 100 kBl.f (sRd LA (MRq stepBlock FD)):=ZG rfl rfl rfl (fun s B H=>eP AJD (DI ADe) (E9 (fun x hx=>by simp only[List.mem_singleton]at hx;subst hx;exact AKM)) (AEJ MRN MIb (LJr kBl lBl CO DV)) AG6 s B H)
theorem AJu:kQ kGr BF lGr 4 3 16 CF CX (el1 CF (MA1 CE GN)) (fun x=>[.int .i64 x.id,.int .u8 (x.kind:Int),.int .i64 x.fld]) (fun x=>[]) (fun x l=>{x with bks:=l}) where
 sp _ _:=rfl
 ba _:=rfl
 br _:=rfl
 set _ _ _:=rfl
 sl _ _ _:=rfl
 rwk _ _:=rfl
 len _:=rfl
 cell _:=rfl
 bel _ _ h:=h
 sz:=by decide
 by_:=by decide
 el _ _:=uX
 top:=by decide
 step x a h:=by unfold BF;rw[h];rfl
theorem AJF:NT kGr BF 4 (fGr MRN MIb (LJr kGr lGr CF CX)) where
 asks:=all_cons (DJ (t:=1) hI m31 (fun x n=>{x with id:=n}) (fun _ _ _=>rfl) (fun _ _=>rfl) (fun x a h=>by unfold BF;rw[h];rfl))
  (all_cons (UJ (t:=2) (fun x n=>{x with kind:=n}) (fun _ _ _=>rfl) (fun _ _=>rfl) (fun x a h=>by unfold BF;rw[h];rfl))
  (all_cons (DJ (t:=3) hI m31 (fun x n=>{x with fld:=n}) (fun _ _ _=>rfl) (fun _ _=>rfl) (fun x a h=>by unfold BF;rw[h];rfl))
  (all_cons (WU AJu)
  (all_nil))))
 else_ x a h:=by
  unfold BF
  split<;>first|rfl|(rename_i e;exact(noF h e rfl).elim)
 bel n x w h:=by simp only[kGr,A8,below,h,Bool.and_true]
 weak x w w' h:=JG (a:=[.int .i64 x.id,.int .u8 (x.kind:Int),.int .i64 x.fld]) (.cons h (BR.refl []))
 z:=rfl
 no:=rfl
 nn:=rfl
 er _:=rfl
 ok:=rfl
theorem AKQ:BH Tryz.prog 100 [2,4,5,7,9,10,12] (wP 3 (LJr kGr lGr CF CX)):=lpJ AJF AJu (DI (pu1 ALe)) BN (fun N x rs i b rs2 k ob j back out=>AES _ N x rs i b rs2 k ob j back out)
theorem ALh:EW Tryz.prog 100 kGr.f (sRd LH (MRq BF FI)):=ZG rfl rfl rfl (fun s B H=>eP AJF (DI ADe) (E9 (fun x hx=>by simp only[List.mem_singleton]at hx;subst hx;exact AKQ)) (AET MRN MIb (LJr kGr lGr CF CX)) AHb s B H)
end
end Go.Proofs.Ob
