/- . -/
import Derived.Test.YtblbaohcelldpaaGreatDoorU4
set_option linter.all false
set_option maxRecDepth 100000
namespace Go.Tlv
open Go Go.Abs
theorem kI{α β:Type}{f:α->Option β}:∀ {l:List α} {i:Nat} {y:α},l[i]?=some y->f y=none->M7 f l=none
 | [],i,y,h,_=>by simp at h
 |a::l,0,y,h,hf=>by
  simp only[List.getElem?_cons_zero,Option.some.injEq]at h;subst h
  simp only[M7,hf]
 |a::l,i+1,y,h,hf=>by
  have:=kI (l:=l) (i:=i) (by simpa using h) hf
  simp only[M7,this]
  cases f a<;>rfl
theorem qK{α β:Type}{f:α->Option β}{l:List α}{i:Nat}{y:α}{acc:List β}{x:β}(h:l[i]?=some y)(h1:M7 f (l.take i)=some acc)(h2:f y=some x):M7 f (l.take (i+1))=some (acc++[x]):=by
 rw[List.take_add_one,h,zQ,h1]
 simp[M7,h2]
structure Got{α:Type}(rd:List UInt8->Option α)(b0:Bool)(l:List ByteArray)(b:Bool)(acc:List α)(i:Nat):Prop where
 le:i<=l.length
 len:acc.length=i
 well:b=false->b0=false/\M7 (fun s=>rd s.data.toList) (l.take i)=some acc
 bad:b=true->b0=true∨M7 (fun s=>rd s.data.toList) l=none
abbrev StY{α:Type}(rd:List UInt8->Option α)(b0:Bool)(l:List ByteArray):={p:Bool×List α×Nat // Got rd b0 l p.1 p.2.1 p.2.2}
theorem Got.next{α:Type}{rd:List UInt8->Option α}{b0 b:Bool}{l:List ByteArray}{acc:List α}{i:Nat}(h:Got rd b0 l b acc i){y:ByteArray}{x:α}(hy:l[i]?=some y)(hx:rd y.data.toList=some x):Got rd b0 l b (acc++[x]) (i+1):=
 ⟨(List.getElem?_eq_some_iff.1 hy).1,by simp[h.len],fun hb=>⟨(h.well hb).1,qK hy (h.well hb).2 hx⟩,h.bad⟩
theorem Got.fail{α:Type}{rd:List UInt8->Option α}{b0 b:Bool}{l:List ByteArray}{acc:List α}{i:Nat}(h:Got rd b0 l b acc i){y:ByteArray}{x:α}(hy:l[i]?=some y)(hx:rd y.data.toList=none):Got rd b0 l true (acc++[x]) (i+1):=
 ⟨(List.getElem?_eq_some_iff.1 hy).1,by simp[h.len],fun hb=>(by cases hb),fun _ => .inr (kI (f:=fun s:ByteArray=>rd s.data.toList) hy hx)⟩
end Go.Tlv
namespace Go.Proofs.Ob
open Go Go.Abs Go.Tlv
noncomputable section
def SQ{α:Type}(rd:List UInt8->Option α)(c:α->Lv):MIt:=fun s m A E=>∃t:Nat,m=t/\t<=32/\(∀l,F9 rd t s.data.toList=some l->A (rowsOf c l))/\(F9 rd t s.data.toList=none->∀l:List α,E (rowsOf c l))
theorem LP{α:Type}{c:α->Lv}{n:Nat}(hc:∀x,(c x).length=n)(l:List α):(l.flatMap c).length=l.length*n:=by
 induction l with
 |nil=>simp
 |cons a l ih=>rw[List.flatMap_cons,List.length_append,ih,hc a,List.length_cons,Nat.succ_mul];omega
theorem mU{a:AA}(ha:EC 101 (some a)=true){AC:Lo}(h0:AC[0]?=some (some a)):
  ∀(i:Nat) o,([some a]:Lo)[i]?=some (some o)->AC[i]?=some (some o)/\EC (100+1) (some o)=true:=by
 intro i o h
 cases i with
 |zero=>simp only[List.getElem?_cons_zero,Option.some.injEq]at h;subst h;exact⟨h0,ha⟩
 |succ i=>simp at h
theorem O1{l:List ByteArray}{i:Nat}{y:ByteArray}(h:l[i]?=some y):(rowsOf cSt l)[i]?=some (.agg ⟨[.string y]⟩):=CL (c:=cSt) h
theorem bB{t:Nat}{s:List UInt8}(h:t<=32):(HY t 0 s).2.length<=32:=by
 by_cases h0:(HY t 0 s).1=0
 ·obtain⟨_,h2,_⟩:=bA s.length s t 0 (HY t 0 s).2 (Nat.le_refl _) (Prod.ext h0 rfl)
  rcases h2 with h2|h2
  ·omega
  ·rw[h2];simp
 ·rw[TE _ _ _ h0];simp
def ACx(s:ByteArray)(b0:Bool)(l:List ByteArray)(p:StY KH b0 l):Lv×Lo:=
 ([pA 100,.func (.func 162) ⟨[]⟩ ⟨[]⟩,mkS 101 p.1.2.1.length,dsl (rowsOf cSt l),.int .i64 (l.length:Int),.int .i64 (p.1.2.2:Int)],[some (rdC s p.1.1),mo (p.1.2.1.flatMap D7) 61 2])
def ACM(s:ByteArray)(b0:Bool)(l:List ByteArray)(e:Exit)(v:Lv)(o:Lo):Prop:=
 ∃b acc,Got KH b0 l b acc l.length/\e = .exit 0/\v=[pA 100,.func (.func 162) ⟨[]⟩ ⟨[]⟩,mkS 101 acc.length]/\o=[some (rdC s b),mo (acc.flatMap D7) 61 2]
theorem AGw(l:List Arm):BL 0 (l.flatMap D7)=true:=V3 (c:=D7) (fun _ _ h=>h) l
theorem AKN(s:ByteArray)(b0:Bool)(l:List ByteArray)(hl:l.length<=32)(p:StY KH b0 l):
  Is (wpe Tryz.prog (real Tryz.prog) (AP (syB 101) Zp [(162,bN rO)] [] [] []) 300 (.code false (AJ Tryz.prog 161 5) (CX 100 59 [0,2,9,33,34,35] [] (ACx s b0 l p))) (A7 100 [0,2,9,33,34,35] [0,2,9] 59 []
   (fun AB AC=>∃a':StY KH b0 l,l.length-a'.1.2.2<l.length-p.1.2.2/\Wk 100 (100+1) AB AC (ACx s b0 l a').1 (ACx s b0 l a').2/\∀e v o,ACM s b0 l e v o->ACM s b0 l e v o)
   (fun e AB AC=>∃v o,Wk 100 (100+1) AB AC v o/\ACM s b0 l e v o))):=by
 refine⟨?_⟩
 obtain⟨⟨b,acc,i⟩,inv⟩:=p
 have hle:i<=l.length:=inv.le
 have hlen:acc.length=i:=inv.len
 have hT:J3=140737488355328:=rfl
 show AC2 (real Tryz.prog) rO s b acc.length (mo (acc.flatMap D7) 61 2) (rowsOf cSt l) (l.length:Int) (i:Int) _ _
 rw[ABp]
 refine EL (fun hlt=>?_) (fun hge=>?_)
 ·have hy:l[i]?=some l[i]:=List.getElem?_eq_getElem hlt
  generalize l[i]=y at hy
  have hms:l.length-(i+1)<l.length-i:=by omega
  have hwk:∀(b':Bool) (x:Arm) (o1 o2 o3:Option AA),Wk 100 (100+1) [pA 100,.func (.func 162) ⟨[]⟩ ⟨[]⟩,.slice (some ⟨100+4,0,none⟩) (acc.length+1) (acc.length+1),dsl (rowsOf cSt l),.int .i64 (l.length:Int),.int .i64 ((i+1:Nat):Int)] [some (rdC s b'),o1,o2,o3,some (.cells (acc.flatMap D7++D7 x) 61 2 true true)]
    [pA 100,.func (.func 162) ⟨[]⟩ ⟨[]⟩,mkS 101 (acc++[x]).length,dsl (rowsOf cSt l),.int .i64 (l.length:Int),.int .i64 ((i+1:Nat):Int)] [some (rdC s b'),mo ((acc++[x]).flatMap D7) 61 2]:=by
   intro b' x o1 o2 o3
   have hcell:acc.flatMap D7++D7 x=(acc++[x]).flatMap D7:=by simp
   have hacc:(acc++[x]).length=acc.length+1:=by simp
   show Wk 100 (100+1) _ _ ([pA 100,.func (.func 162) ⟨[]⟩ ⟨[]⟩]++mkS (100+1) (acc++[x]).length::[dsl (rowsOf cSt l),.int .i64 (l.length:Int),.int .i64 ((i+1:Nat):Int)]) ([some (rdC s b')]++[mo ((acc++[x]).flatMap D7) 61 2])
   rw[←hcell,J4 (by simp[D7]),hacc]
   exact IU (k0:=1) (j:=4) (va:=[pA 100,.func (.func 162) ⟨[]⟩ ⟨[]⟩]) (by omega) rfl (by rw[hcell];exact AGw _) rfl rfl (by omega) rfl (mU rfl rfl)
  refine DK i rfl (O1 hy) rfl (KL (z:=y) rfl ⟨fun x hx=>?_,fun hx x=>?_⟩)
  ·refine D6 (LP (c:=D7) (fun _=>rfl) acc) (by omega) (FV (by omega) rfl rfl (by omega) (by omega) ?_)
   cases b with
   |true=>exact BZ (by omega) ⟨rfl,⟨(true,acc++[x],i+1),inv.next hy hx⟩,hms,hwk true x _ _ _,fun _ _ _ h=>h⟩
   |false=>exact BZ (by omega) ⟨rfl,⟨(false,acc++[x],i+1),inv.next hy hx⟩,hms,hwk false x _ _ _,fun _ _ _ h=>h⟩
  ·refine D6 (LP (c:=D7) (fun _=>rfl) acc) (by omega) (FV (by omega) rfl rfl (by omega) (by omega) ?_)
   cases b with
   |true=>exact BZ (by omega) ⟨rfl,⟨(true,acc++[x],i+1),inv.fail hy hx⟩,hms,hwk true x _ _ _,fun _ _ _ h=>h⟩
   |false=>exact BZ (by omega) ⟨rfl,⟨(true,acc++[x],i+1),inv.fail hy hx⟩,hms,hwk true x _ _ _,fun _ _ _ h=>h⟩
 ·have e:i=l.length:=by omega
  subst e
  exact⟨rfl,_,_,Wk.refl _ _ _ _,b,acc,inv,rfl,rfl,rfl⟩
def AGa(s:ByteArray):ACD:=fun c n AB obs A=>∃(b0:Bool) (l:List ByteArray),l.length<=32/\c=AJ Tryz.prog 161 5/\n=59/\AB=[pA 100,.func (.func 162) ⟨[]⟩ ⟨[]⟩,.slice none 0 0,dsl (rowsOf cSt l),.int .i64 (Int.ofNat l.length),.int .i64 (0:Int)]/\obs=[some (rdC s b0)]/\
 ∀b acc,Got KH b0 l b acc l.length->A b acc.length (mo (acc.flatMap D7) 61 2)
theorem AMC(s:ByteArray):BH Tryz.prog 100 [0,2,9,33,34,35] (AII (AGa s)):=by
 show BH Tryz.prog 100 [0,2,9,33,34,35] (lpS [0,2,9] _)
 refine FQ okp (W:=AP (syB 101) Zp [(162,bN rO)] [] [] []) (M3 (fun x hx=>by simp only[List.mem_singleton]at hx;subst hx;exact AHU) (fun x hx=>by cases hx)) AZ ?_
 intro c n AB obs K h
 split at h<;>try exact h.elim
 obtain⟨b0,l,hl,hc,hn,hv,ho,hA⟩:=h
 subst hc;subst hn
 simp only[rdC,List.cons.injEq,Option.some.injEq,AA.cells.injEq]at hv ho
 obtain⟨rfl,rfl,rfl⟩:=hv
 obtain⟨⟨⟨rfl,rfl,_⟩,rfl,rfl,rfl,rfl⟩,rfl⟩:=ho
 refine⟨StY KH b0 l,1,300,fun p=>l.length-p.1.2.2,ACx s b0 l,fun _ e v o=>ACM s b0 l e v o,⟨(b0,[],0),⟨Nat.zero_le _,rfl,fun h=>⟨h,rfl⟩,fun h => .inl h⟩⟩,rfl,?_,?_,AKN s b0 l hl⟩
 ·exact IP (va:=[pA 100,.func (.func 162) ⟨[]⟩ ⟨[]⟩])
 intro e v o hR
 obtain⟨b,acc,h1,rfl,rfl,rfl⟩:=hR
 exact hA b acc h1
def AOe(s:ByteArray)(t:Nat):RK:=fun v AC=>∃(l:List Arm) (b:Bool),((b=false/\F9 KH t s.data.toList=some l)∨(b=true/\F9 KH t s.data.toList=none))/\Wk 100 (100+1) [v] AC [dsl (rowsOf D7 l)] [some (rdC s b)]
theorem ACo{s:ByteArray}{b:Bool}{l:List Arm}:Wk 100 (100+1) [mkS 101 l.length] [some (rdC s b),mo (l.flatMap D7) 61 2] [dsl (rowsOf D7 l)] [some (rdC s b)]:=
 (JY 0 1 (AC:=[some (rdC s b),mo (l.flatMap D7) 61 2]) rfl rfl (XX (c:=D7) (n:=2) (fun _=>rfl) l) (AGw l) (by omega) (AQ _ _).symm).trans (I1 (k0:=1) (pre:=[some (rdC s b)]) (extra:=[none]) rfl rfl (fun i o h=>(mU (a:=rdC s b) rfl (AC:=[some (rdC s b)]) rfl i o h).2))
theorem AMo(s:ByteArray)(t:Nat)(ht:t<=32):Is (AGT (real Tryz.prog) MRL (AGa s) s (t:Int) (AOe s t)):=by
 refine⟨?_⟩
 rw[AEB]
 refine⟨t,rfl,by omega,fun h0=>BI _ (AQ _ _) ⟨false,_,bB ht,rfl,rfl,rfl,rfl,fun b acc hg=>⟨acc,b,?_,ACo⟩⟩,fun h3=>BI 0 rfl ⟨true,[],by simp,rfl,rfl,rfl,rfl,fun b acc hg=>⟨acc,b,.inr ?_,ACo⟩⟩,fun h4=>BI 0 rfl ⟨true,[],by simp,rfl,rfl,rfl,rfl,fun b acc hg=>⟨acc,b,.inr ?_,ACo⟩⟩⟩
 ·unfold F9;rw[if_pos h0]
  cases b with
  |false=>
   have:=(hg.well rfl).2
   rw[List.take_length]at this
   exact .inl ⟨rfl,this⟩
  |true=>exact .inr ⟨rfl,(hg.bad rfl).resolve_left (by simp)⟩
 ·unfold F9;rw[if_neg (by omega)]
  cases b with
  |false=>exact absurd (hg.well rfl).1 (by simp)
  |true=>exact⟨rfl,rfl⟩
 ·unfold F9;rw[if_neg (by omega)]
  cases b with
  |false=>exact absurd (hg.well rfl).1 (by simp)
  |true=>exact⟨rfl,rfl⟩
theorem AKw:JU Tryz.prog 100 161 (IX 162 (SQ KH D7)):=by
 intro args H K h
 unfold IX at h
 split at h<;>try exact h.elim
 rename_i p m g
 split at h<;>try exact h.elim
 rename_i s e sz lo ow hg
 split at h<;>try exact h.elim
 rename_i hc
 simp only[Bool.and_eq_true]at hc
 obtain⟨⟨hc1,hc2⟩,hc3⟩:=hc
 rw[O5 hc1]at hg
 obtain rfl:=Nat.eq_of_beq_eq_true hc3
 obtain⟨t,rfl,ht,hA,hE⟩:=h
 obtain⟨v,AC,⟨l,b,hb,hw⟩,hC⟩:=LM (EY (F6 AFm)) (GH (fun x hx=>by simp only[List.mem_singleton]at hx;subst hx;exact AMC s)) (AMo s t ht)
 have hC2:∀B,BM Tryz.prog 100 B 161 (pA 100::[.int .i64 (t:Int),.func (.func 162) ⟨[]⟩ ⟨[]⟩]) (hR s) (.returned (dsl (rowsOf D7 l))) (hOf 100 [] [some (rdC s b)]):=fun B=>IM (hC B) hw
 rcases hb with⟨rfl,hx⟩ | ⟨rfl,hx⟩
 ·exact⟨_,_,fun B=>KI rfl rfl hC2 hg hc2 B,hA l hx⟩
 ·exact⟨_,_,fun B=>KI rfl rfl hC2 hg hc2 B,hE hx l⟩
def ACy(s:ByteArray)(b0:Bool)(l:List ByteArray)(p:StY LW b0 l):Lv×Lo:=
 ([pA 100,.func (.func 160) ⟨[]⟩ ⟨[]⟩,mkS 101 p.1.2.1.length,dsl (rowsOf cSt l),.int .i64 (l.length:Int),.int .i64 (p.1.2.2:Int)],[some (rdC s p.1.1),mo (p.1.2.1.flatMap EM) 3 1])
def ACN(s:ByteArray)(b0:Bool)(l:List ByteArray)(e:Exit)(v:Lv)(o:Lo):Prop:=
 ∃b acc,Got LW b0 l b acc l.length/\e = .exit 0/\v=[pA 100,.func (.func 160) ⟨[]⟩ ⟨[]⟩,mkS 101 acc.length]/\o=[some (rdC s b),mo (acc.flatMap EM) 3 1]
theorem AGx(l:List Int):BL 0 (l.flatMap EM)=true:=V3 (c:=EM) (fun _ _ h=>h) l
theorem AKO(s:ByteArray)(b0:Bool)(l:List ByteArray)(hl:l.length<=32)(p:StY LW b0 l):
  Is (wpe Tryz.prog (real Tryz.prog) (AP (syB 101) Zp [(160,bO rP)] [] [] []) 300 (.code false (AJ Tryz.prog 174 5) (CX 100 59 [0,2,9,33,34,35] [] (ACy s b0 l p))) (A7 100 [0,2,9,33,34,35] [0,2,9] 59 []
   (fun AB AC=>∃a':StY LW b0 l,l.length-a'.1.2.2<l.length-p.1.2.2/\Wk 100 (100+1) AB AC (ACy s b0 l a').1 (ACy s b0 l a').2/\∀e v o,ACN s b0 l e v o->ACN s b0 l e v o)
   (fun e AB AC=>∃v o,Wk 100 (100+1) AB AC v o/\ACN s b0 l e v o))):=by
 refine⟨?_⟩
 obtain⟨⟨b,acc,i⟩,inv⟩:=p
 have hle:i<=l.length:=inv.le
 have hlen:acc.length=i:=inv.len
 have hT:J3=140737488355328:=rfl
 show AC3 (real Tryz.prog) rP s b acc.length (mo (acc.flatMap EM) 3 1) (rowsOf cSt l) (l.length:Int) (i:Int) _ _
 rw[ABq]
 refine EL (fun hlt=>?_) (fun hge=>?_)
 ·have hy:l[i]?=some l[i]:=List.getElem?_eq_getElem hlt
  generalize l[i]=y at hy
  have hms:l.length-(i+1)<l.length-i:=by omega
  have hwk:∀(b':Bool) (x:Int) (o1 o2 o3:Option AA),Wk 100 (100+1) [pA 100,.func (.func 160) ⟨[]⟩ ⟨[]⟩,.slice (some ⟨100+4,0,none⟩) (acc.length+1) (acc.length+1),dsl (rowsOf cSt l),.int .i64 (l.length:Int),.int .i64 ((i+1:Nat):Int)] [some (rdC s b'),o1,o2,o3,some (.cells (acc.flatMap EM++EM x) 3 1 true true)]
    [pA 100,.func (.func 160) ⟨[]⟩ ⟨[]⟩,mkS 101 (acc++[x]).length,dsl (rowsOf cSt l),.int .i64 (l.length:Int),.int .i64 ((i+1:Nat):Int)] [some (rdC s b'),mo ((acc++[x]).flatMap EM) 3 1]:=by
   intro b' x o1 o2 o3
   have hcell:acc.flatMap EM++EM x=(acc++[x]).flatMap EM:=by simp
   have hacc:(acc++[x]).length=acc.length+1:=by simp
   show Wk 100 (100+1) _ _ ([pA 100,.func (.func 160) ⟨[]⟩ ⟨[]⟩]++mkS (100+1) (acc++[x]).length::[dsl (rowsOf cSt l),.int .i64 (l.length:Int),.int .i64 ((i+1:Nat):Int)]) ([some (rdC s b')]++[mo ((acc++[x]).flatMap EM) 3 1])
   rw[←hcell,J4 (by simp[EM]),hacc]
   exact IU (k0:=1) (j:=4) (va:=[pA 100,.func (.func 160) ⟨[]⟩ ⟨[]⟩]) (by omega) rfl (by rw[hcell];exact AGx _) rfl rfl (by omega) rfl (mU rfl rfl)
  refine DK i rfl (O1 hy) rfl (KL (z:=y) rfl ⟨fun x hx=>?_,fun hx x=>?_⟩)
  ·refine D6 (LP (c:=EM) (fun _=>rfl) acc) (by omega) (FV (by omega) rfl rfl (by omega) (by omega) ?_)
   cases b with
   |true=>exact BZ (by omega) ⟨rfl,⟨(true,acc++[x],i+1),inv.next hy hx⟩,hms,hwk true x _ _ _,fun _ _ _ h=>h⟩
   |false=>exact BZ (by omega) ⟨rfl,⟨(false,acc++[x],i+1),inv.next hy hx⟩,hms,hwk false x _ _ _,fun _ _ _ h=>h⟩
  ·refine D6 (LP (c:=EM) (fun _=>rfl) acc) (by omega) (FV (by omega) rfl rfl (by omega) (by omega) ?_)
   cases b with
   |true=>exact BZ (by omega) ⟨rfl,⟨(true,acc++[x],i+1),inv.fail hy hx⟩,hms,hwk true x _ _ _,fun _ _ _ h=>h⟩
   |false=>exact BZ (by omega) ⟨rfl,⟨(true,acc++[x],i+1),inv.fail hy hx⟩,hms,hwk true x _ _ _,fun _ _ _ h=>h⟩
 ·have e:i=l.length:=by omega
  subst e
  exact⟨rfl,_,_,Wk.refl _ _ _ _,b,acc,inv,rfl,rfl,rfl⟩
def AGb(s:ByteArray):ACE:=fun c n AB obs A=>∃(b0:Bool) (l:List ByteArray),l.length<=32/\c=AJ Tryz.prog 174 5/\n=59/\AB=[pA 100,.func (.func 160) ⟨[]⟩ ⟨[]⟩,.slice none 0 0,dsl (rowsOf cSt l),.int .i64 (Int.ofNat l.length),.int .i64 (0:Int)]/\obs=[some (rdC s b0)]/\
 ∀b acc,Got LW b0 l b acc l.length->A b acc.length (mo (acc.flatMap EM) 3 1)
theorem AMD(s:ByteArray):BH Tryz.prog 100 [0,2,9,33,34,35] (AIJ (AGb s)):=by
 show BH Tryz.prog 100 [0,2,9,33,34,35] (lpS [0,2,9] _)
 refine FQ okp (W:=AP (syB 101) Zp [(160,bO rP)] [] [] []) (M3 (fun x hx=>by simp only[List.mem_singleton]at hx;subst hx;exact AHV) (fun x hx=>by cases hx)) AZ ?_
 intro c n AB obs K h
 split at h<;>try exact h.elim
 obtain⟨b0,l,hl,hc,hn,hv,ho,hA⟩:=h
 subst hc;subst hn
 simp only[rdC,List.cons.injEq,Option.some.injEq,AA.cells.injEq]at hv ho
 obtain⟨rfl,rfl,rfl⟩:=hv
 obtain⟨⟨⟨rfl,rfl,_⟩,rfl,rfl,rfl,rfl⟩,rfl⟩:=ho
 refine⟨StY LW b0 l,1,300,fun p=>l.length-p.1.2.2,ACy s b0 l,fun _ e v o=>ACN s b0 l e v o,⟨(b0,[],0),⟨Nat.zero_le _,rfl,fun h=>⟨h,rfl⟩,fun h => .inl h⟩⟩,rfl,?_,?_,AKO s b0 l hl⟩
 ·exact IP (va:=[pA 100,.func (.func 160) ⟨[]⟩ ⟨[]⟩])
 intro e v o hR
 obtain⟨b,acc,h1,rfl,rfl,rfl⟩:=hR
 exact hA b acc h1
def AOf(s:ByteArray)(t:Nat):RK:=fun v AC=>∃(l:List Int) (b:Bool),((b=false/\F9 LW t s.data.toList=some l)∨(b=true/\F9 LW t s.data.toList=none))/\Wk 100 (100+1) [v] AC [dsl (rowsOf EM l)] [some (rdC s b)]
theorem ACp{s:ByteArray}{b:Bool}{l:List Int}:Wk 100 (100+1) [mkS 101 l.length] [some (rdC s b),mo (l.flatMap EM) 3 1] [dsl (rowsOf EM l)] [some (rdC s b)]:=
 (JY 0 1 (AC:=[some (rdC s b),mo (l.flatMap EM) 3 1]) rfl rfl (XX (c:=EM) (n:=1) (fun _=>rfl) l) (AGx l) (by omega) (AQ _ _).symm).trans (I1 (k0:=1) (pre:=[some (rdC s b)]) (extra:=[none]) rfl rfl (fun i o h=>(mU (a:=rdC s b) rfl (AC:=[some (rdC s b)]) rfl i o h).2))
theorem AMp(s:ByteArray)(t:Nat)(ht:t<=32):Is (AGU (real Tryz.prog) MRL (AGb s) s (t:Int) (AOf s t)):=by
 refine⟨?_⟩
 rw[AEC]
 refine⟨t,rfl,by omega,fun h0=>BI _ (AQ _ _) ⟨false,_,bB ht,rfl,rfl,rfl,rfl,fun b acc hg=>⟨acc,b,?_,ACp⟩⟩,fun h3=>BI 0 rfl ⟨true,[],by simp,rfl,rfl,rfl,rfl,fun b acc hg=>⟨acc,b,.inr ?_,ACp⟩⟩,fun h4=>BI 0 rfl ⟨true,[],by simp,rfl,rfl,rfl,rfl,fun b acc hg=>⟨acc,b,.inr ?_,ACp⟩⟩⟩
 ·unfold F9;rw[if_pos h0]
  cases b with
  |false=>
   have:=(hg.well rfl).2
   rw[List.take_length]at this
   exact .inl ⟨rfl,this⟩
  |true=>exact .inr ⟨rfl,(hg.bad rfl).resolve_left (by simp)⟩
 ·unfold F9;rw[if_neg (by omega)]
  cases b with
  |false=>exact absurd (hg.well rfl).1 (by simp)
  |true=>exact⟨rfl,rfl⟩
 ·unfold F9;rw[if_neg (by omega)]
  cases b with
  |false=>exact absurd (hg.well rfl).1 (by simp)
  |true=>exact⟨rfl,rfl⟩
theorem AKx:JU Tryz.prog 100 174 (IX 160 (SQ LW EM)):=by
 intro args H K h
 unfold IX at h
 split at h<;>try exact h.elim
 rename_i p m g
 split at h<;>try exact h.elim
 rename_i s e sz lo ow hg
 split at h<;>try exact h.elim
 rename_i hc
 simp only[Bool.and_eq_true]at hc
 obtain⟨⟨hc1,hc2⟩,hc3⟩:=hc
 rw[O5 hc1]at hg
 obtain rfl:=Nat.eq_of_beq_eq_true hc3
 obtain⟨t,rfl,ht,hA,hE⟩:=h
 obtain⟨v,AC,⟨l,b,hb,hw⟩,hC⟩:=LM (EY (F6 AFm)) (GH (fun x hx=>by simp only[List.mem_singleton]at hx;subst hx;exact AMD s)) (AMp s t ht)
 have hC2:∀B,BM Tryz.prog 100 B 174 (pA 100::[.int .i64 (t:Int),.func (.func 160) ⟨[]⟩ ⟨[]⟩]) (hR s) (.returned (dsl (rowsOf EM l))) (hOf 100 [] [some (rdC s b)]):=fun B=>IM (hC B) hw
 rcases hb with⟨rfl,hx⟩ | ⟨rfl,hx⟩
 ·exact⟨_,_,fun B=>KI rfl rfl hC2 hg hc2 B,hA l hx⟩
 ·exact⟨_,_,fun B=>KI rfl rfl hC2 hg hc2 B,hE hx l⟩
def ACz(s:ByteArray)(b0:Bool)(l:List ByteArray)(p:StY JQ b0 l):Lv×Lo:=
 ([pA 100,.func (.func 183) ⟨[]⟩ ⟨[]⟩,mkS 101 p.1.2.1.length,dsl (rowsOf cSt l),.int .i64 (l.length:Int),.int .i64 (p.1.2.2:Int)],[some (rdC s p.1.1),mo (p.1.2.1.flatMap DJ) 28 1])
def ACO(s:ByteArray)(b0:Bool)(l:List ByteArray)(e:Exit)(v:Lv)(o:Lo):Prop:=
 ∃b acc,Got JQ b0 l b acc l.length/\e = .exit 0/\v=[pA 100,.func (.func 183) ⟨[]⟩ ⟨[]⟩,mkS 101 acc.length]/\o=[some (rdC s b),mo (acc.flatMap DJ) 28 1]
theorem sN(l:List Nat):BL 0 (l.flatMap DJ)=true:=V3 (c:=DJ) (fun _ _ h=>h) l
theorem AKP(s:ByteArray)(b0:Bool)(l:List ByteArray)(hl:l.length<=32)(p:StY JQ b0 l):
  Is (wpe Tryz.prog (real Tryz.prog) (AP (syB 101) Zp [(183,bP rQ)] [] [] []) 300 (.code false (AJ Tryz.prog 182 5) (CX 100 59 [0,2,9,33,34,35] [] (ACz s b0 l p))) (A7 100 [0,2,9,33,34,35] [0,2,9] 59 []
   (fun AB AC=>∃a':StY JQ b0 l,l.length-a'.1.2.2<l.length-p.1.2.2/\Wk 100 (100+1) AB AC (ACz s b0 l a').1 (ACz s b0 l a').2/\∀e v o,ACO s b0 l e v o->ACO s b0 l e v o)
   (fun e AB AC=>∃v o,Wk 100 (100+1) AB AC v o/\ACO s b0 l e v o))):=by
 refine⟨?_⟩
 obtain⟨⟨b,acc,i⟩,inv⟩:=p
 have hle:i<=l.length:=inv.le
 have hlen:acc.length=i:=inv.len
 have hT:J3=140737488355328:=rfl
 show AC4 (real Tryz.prog) rQ s b acc.length (mo (acc.flatMap DJ) 28 1) (rowsOf cSt l) (l.length:Int) (i:Int) _ _
 rw[ABr]
 refine EL (fun hlt=>?_) (fun hge=>?_)
 ·have hy:l[i]?=some l[i]:=List.getElem?_eq_getElem hlt
  generalize l[i]=y at hy
  have hms:l.length-(i+1)<l.length-i:=by omega
  have hwk:∀(b':Bool) (x:Nat) (o1 o2 o3:Option AA),Wk 100 (100+1) [pA 100,.func (.func 183) ⟨[]⟩ ⟨[]⟩,.slice (some ⟨100+4,0,none⟩) (acc.length+1) (acc.length+1),dsl (rowsOf cSt l),.int .i64 (l.length:Int),.int .i64 ((i+1:Nat):Int)] [some (rdC s b'),o1,o2,o3,some (.cells (acc.flatMap DJ++DJ x) 28 1 true true)]
    [pA 100,.func (.func 183) ⟨[]⟩ ⟨[]⟩,mkS 101 (acc++[x]).length,dsl (rowsOf cSt l),.int .i64 (l.length:Int),.int .i64 ((i+1:Nat):Int)] [some (rdC s b'),mo ((acc++[x]).flatMap DJ) 28 1]:=by
   intro b' x o1 o2 o3
   have hcell:acc.flatMap DJ++DJ x=(acc++[x]).flatMap DJ:=by simp
   have hacc:(acc++[x]).length=acc.length+1:=by simp
   show Wk 100 (100+1) _ _ ([pA 100,.func (.func 183) ⟨[]⟩ ⟨[]⟩]++mkS (100+1) (acc++[x]).length::[dsl (rowsOf cSt l),.int .i64 (l.length:Int),.int .i64 ((i+1:Nat):Int)]) ([some (rdC s b')]++[mo ((acc++[x]).flatMap DJ) 28 1])
   rw[←hcell,J4 (by simp[DJ]),hacc]
   exact IU (k0:=1) (j:=4) (va:=[pA 100,.func (.func 183) ⟨[]⟩ ⟨[]⟩]) (by omega) rfl (by rw[hcell];exact sN _) rfl rfl (by omega) rfl (mU rfl rfl)
  refine DK i rfl (O1 hy) rfl (KL (z:=y) rfl ⟨fun x hx=>?_,fun hx x=>?_⟩)
  ·refine D6 (LP (c:=DJ) (fun _=>rfl) acc) (by omega) (FV (by omega) rfl rfl (by omega) (by omega) ?_)
   cases b with
   |true=>exact BZ (by omega) ⟨rfl,⟨(true,acc++[x],i+1),inv.next hy hx⟩,hms,hwk true x _ _ _,fun _ _ _ h=>h⟩
   |false=>exact BZ (by omega) ⟨rfl,⟨(false,acc++[x],i+1),inv.next hy hx⟩,hms,hwk false x _ _ _,fun _ _ _ h=>h⟩
  ·refine D6 (LP (c:=DJ) (fun _=>rfl) acc) (by omega) (FV (by omega) rfl rfl (by omega) (by omega) ?_)
   cases b with
   |true=>exact BZ (by omega) ⟨rfl,⟨(true,acc++[x],i+1),inv.fail hy hx⟩,hms,hwk true x _ _ _,fun _ _ _ h=>h⟩
   |false=>exact BZ (by omega) ⟨rfl,⟨(true,acc++[x],i+1),inv.fail hy hx⟩,hms,hwk true x _ _ _,fun _ _ _ h=>h⟩
 ·have e:i=l.length:=by omega
  subst e
  exact⟨rfl,_,_,Wk.refl _ _ _ _,b,acc,inv,rfl,rfl,rfl⟩
def AGc(s:ByteArray):ACF:=fun c n AB obs A=>∃(b0:Bool) (l:List ByteArray),l.length<=32/\c=AJ Tryz.prog 182 5/\n=59/\AB=[pA 100,.func (.func 183) ⟨[]⟩ ⟨[]⟩,.slice none 0 0,dsl (rowsOf cSt l),.int .i64 (Int.ofNat l.length),.int .i64 (0:Int)]/\obs=[some (rdC s b0)]/\
 ∀b acc,Got JQ b0 l b acc l.length->A b acc.length (mo (acc.flatMap DJ) 28 1)
theorem AME(s:ByteArray):BH Tryz.prog 100 [0,2,9,33,34,35] (AIK (AGc s)):=by
 show BH Tryz.prog 100 [0,2,9,33,34,35] (lpS [0,2,9] _)
 refine FQ okp (W:=AP (syB 101) Zp [(183,bP rQ)] [] [] []) (M3 (fun x hx=>by simp only[List.mem_singleton]at hx;subst hx;exact AHW) (fun x hx=>by cases hx)) AZ ?_
 intro c n AB obs K h
 split at h<;>try exact h.elim
 obtain⟨b0,l,hl,hc,hn,hv,ho,hA⟩:=h
 subst hc;subst hn
 simp only[rdC,List.cons.injEq,Option.some.injEq,AA.cells.injEq]at hv ho
 obtain⟨rfl,rfl,rfl⟩:=hv
 obtain⟨⟨⟨rfl,rfl,_⟩,rfl,rfl,rfl,rfl⟩,rfl⟩:=ho
 refine⟨StY JQ b0 l,1,300,fun p=>l.length-p.1.2.2,ACz s b0 l,fun _ e v o=>ACO s b0 l e v o,⟨(b0,[],0),⟨Nat.zero_le _,rfl,fun h=>⟨h,rfl⟩,fun h => .inl h⟩⟩,rfl,?_,?_,AKP s b0 l hl⟩
 ·exact IP (va:=[pA 100,.func (.func 183) ⟨[]⟩ ⟨[]⟩])
 intro e v o hR
 obtain⟨b,acc,h1,rfl,rfl,rfl⟩:=hR
 exact hA b acc h1
def AOg(s:ByteArray)(t:Nat):RK:=fun v AC=>∃(l:List Nat) (b:Bool),((b=false/\F9 JQ t s.data.toList=some l)∨(b=true/\F9 JQ t s.data.toList=none))/\Wk 100 (100+1) [v] AC [dsl (rowsOf DJ l)] [some (rdC s b)]
theorem ACq{s:ByteArray}{b:Bool}{l:List Nat}:Wk 100 (100+1) [mkS 101 l.length] [some (rdC s b),mo (l.flatMap DJ) 28 1] [dsl (rowsOf DJ l)] [some (rdC s b)]:=
 (JY 0 1 (AC:=[some (rdC s b),mo (l.flatMap DJ) 28 1]) rfl rfl (XX (c:=DJ) (n:=1) (fun _=>rfl) l) (sN l) (by omega) (AQ _ _).symm).trans (I1 (k0:=1) (pre:=[some (rdC s b)]) (extra:=[none]) rfl rfl (fun i o h=>(mU (a:=rdC s b) rfl (AC:=[some (rdC s b)]) rfl i o h).2))
theorem AMq(s:ByteArray)(t:Nat)(ht:t<=32):Is (AGV (real Tryz.prog) MRL (AGc s) s (t:Int) (AOg s t)):=by
 refine⟨?_⟩
 rw[AED]
 refine⟨t,rfl,by omega,fun h0=>BI _ (AQ _ _) ⟨false,_,bB ht,rfl,rfl,rfl,rfl,fun b acc hg=>⟨acc,b,?_,ACq⟩⟩,fun h3=>BI 0 rfl ⟨true,[],by simp,rfl,rfl,rfl,rfl,fun b acc hg=>⟨acc,b,.inr ?_,ACq⟩⟩,fun h4=>BI 0 rfl ⟨true,[],by simp,rfl,rfl,rfl,rfl,fun b acc hg=>⟨acc,b,.inr ?_,ACq⟩⟩⟩
 ·unfold F9;rw[if_pos h0]
  cases b with
  |false=>
   have:=(hg.well rfl).2
   rw[List.take_length]at this
   exact .inl ⟨rfl,this⟩
  |true=>exact .inr ⟨rfl,(hg.bad rfl).resolve_left (by simp)⟩
 ·unfold F9;rw[if_neg (by omega)]
  cases b with
  |false=>exact absurd (hg.well rfl).1 (by simp)
  |true=>exact⟨rfl,rfl⟩
 ·unfold F9;rw[if_neg (by omega)]
  cases b with
  |false=>exact absurd (hg.well rfl).1 (by simp)
  |true=>exact⟨rfl,rfl⟩
theorem AKy:JU Tryz.prog 100 182 (IX 183 (SQ JQ DJ)):=by
 intro args H K h
 unfold IX at h
 split at h<;>try exact h.elim
 rename_i p m g
 split at h<;>try exact h.elim
 rename_i s e sz lo ow hg
 split at h<;>try exact h.elim
 rename_i hc
 simp only[Bool.and_eq_true]at hc
 obtain⟨⟨hc1,hc2⟩,hc3⟩:=hc
 rw[O5 hc1]at hg
 obtain rfl:=Nat.eq_of_beq_eq_true hc3
 obtain⟨t,rfl,ht,hA,hE⟩:=h
 obtain⟨v,AC,⟨l,b,hb,hw⟩,hC⟩:=LM (EY (F6 AFm)) (GH (fun x hx=>by simp only[List.mem_singleton]at hx;subst hx;exact AME s)) (AMq s t ht)
 have hC2:∀B,BM Tryz.prog 100 B 182 (pA 100::[.int .i64 (t:Int),.func (.func 183) ⟨[]⟩ ⟨[]⟩]) (hR s) (.returned (dsl (rowsOf DJ l))) (hOf 100 [] [some (rdC s b)]):=fun B=>IM (hC B) hw
 rcases hb with⟨rfl,hx⟩ | ⟨rfl,hx⟩
 ·exact⟨_,_,fun B=>KI rfl rfl hC2 hg hc2 B,hA l hx⟩
 ·exact⟨_,_,fun B=>KI rfl rfl hC2 hg hc2 B,hE hx l⟩
def gG(s:ByteArray)(b0:Bool)(l:List ByteArray)(p:StY FP b0 l):Lv×Lo:=
 ([pA 100,.func (.func 193) ⟨[]⟩ ⟨[]⟩,mkS 101 p.1.2.1.length,dsl (rowsOf cSt l),.int .i64 (l.length:Int),.int .i64 (p.1.2.2:Int)],[some (rdC s p.1.1),mo (p.1.2.1.flatMap BN) 66 7])
def iA(s:ByteArray)(b0:Bool)(l:List ByteArray)(e:Exit)(v:Lv)(o:Lo):Prop:=
 ∃b acc,Got FP b0 l b acc l.length/\e = .exit 0/\v=[pA 100,.func (.func 193) ⟨[]⟩ ⟨[]⟩,mkS 101 acc.length]/\o=[some (rdC s b),mo (acc.flatMap BN) 66 7]
theorem wW(l:List Instr):BL 0 (l.flatMap BN)=true:=V3 (c:=BN) (fun _ _ h=>h) l
theorem AFQ(s:ByteArray)(b0:Bool)(l:List ByteArray)(hl:l.length<=32)(p:StY FP b0 l):
  Is (wpe Tryz.prog (real Tryz.prog) (AP (syB 101) Zp [(193,TQ ZY)] [] [] []) 300 (.code false (AJ Tryz.prog 192 5) (CX 100 59 [0,2,9,33,34,35] [] (gG s b0 l p))) (A7 100 [0,2,9,33,34,35] [0,2,9] 59 []
   (fun AB AC=>∃a':StY FP b0 l,l.length-a'.1.2.2<l.length-p.1.2.2/\Wk 100 (100+1) AB AC (gG s b0 l a').1 (gG s b0 l a').2/\∀e v o,iA s b0 l e v o->iA s b0 l e v o)
   (fun e AB AC=>∃v o,Wk 100 (100+1) AB AC v o/\iA s b0 l e v o))):=by
 refine⟨?_⟩
 obtain⟨⟨b,acc,i⟩,inv⟩:=p
 have hle:i<=l.length:=inv.le
 have hlen:acc.length=i:=inv.len
 have hT:J3=140737488355328:=rfl
 show oC (real Tryz.prog) ZY s b acc.length (mo (acc.flatMap BN) 66 7) (rowsOf cSt l) (l.length:Int) (i:Int) _ _
 rw[tT]
 refine EL (fun hlt=>?_) (fun hge=>?_)
 ·have hy:l[i]?=some l[i]:=List.getElem?_eq_getElem hlt
  generalize l[i]=y at hy
  have hms:l.length-(i+1)<l.length-i:=by omega
  have hwk:∀(b':Bool) (x:Instr) (o1 o2 o3:Option AA),Wk 100 (100+1) [pA 100,.func (.func 193) ⟨[]⟩ ⟨[]⟩,.slice (some ⟨100+4,0,none⟩) (acc.length+1) (acc.length+1),dsl (rowsOf cSt l),.int .i64 (l.length:Int),.int .i64 ((i+1:Nat):Int)] [some (rdC s b'),o1,o2,o3,some (.cells (acc.flatMap BN++BN x) 66 7 true true)]
    [pA 100,.func (.func 193) ⟨[]⟩ ⟨[]⟩,mkS 101 (acc++[x]).length,dsl (rowsOf cSt l),.int .i64 (l.length:Int),.int .i64 ((i+1:Nat):Int)] [some (rdC s b'),mo ((acc++[x]).flatMap BN) 66 7]:=by
   intro b' x o1 o2 o3
   have hcell:acc.flatMap BN++BN x=(acc++[x]).flatMap BN:=by simp
   have hacc:(acc++[x]).length=acc.length+1:=by simp
   show Wk 100 (100+1) _ _ ([pA 100,.func (.func 193) ⟨[]⟩ ⟨[]⟩]++mkS (100+1) (acc++[x]).length::[dsl (rowsOf cSt l),.int .i64 (l.length:Int),.int .i64 ((i+1:Nat):Int)]) ([some (rdC s b')]++[mo ((acc++[x]).flatMap BN) 66 7])
   rw[←hcell,J4 (by simp[BN]),hacc]
   exact IU (k0:=1) (j:=4) (va:=[pA 100,.func (.func 193) ⟨[]⟩ ⟨[]⟩]) (by omega) rfl (by rw[hcell];exact wW _) rfl rfl (by omega) rfl (mU rfl rfl)
  refine DK i rfl (O1 hy) rfl (KL (z:=y) rfl ⟨fun x hx=>?_,fun hx x=>?_⟩)
  ·refine D6 (LP (c:=BN) (fun _=>rfl) acc) (by omega) (FV (by omega) rfl rfl (by omega) (by omega) ?_)
   cases b with
   |true=>exact BZ (by omega) ⟨rfl,⟨(true,acc++[x],i+1),inv.next hy hx⟩,hms,hwk true x _ _ _,fun _ _ _ h=>h⟩
   |false=>exact BZ (by omega) ⟨rfl,⟨(false,acc++[x],i+1),inv.next hy hx⟩,hms,hwk false x _ _ _,fun _ _ _ h=>h⟩
  ·refine D6 (LP (c:=BN) (fun _=>rfl) acc) (by omega) (FV (by omega) rfl rfl (by omega) (by omega) ?_)
   cases b with
   |true=>exact BZ (by omega) ⟨rfl,⟨(true,acc++[x],i+1),inv.fail hy hx⟩,hms,hwk true x _ _ _,fun _ _ _ h=>h⟩
   |false=>exact BZ (by omega) ⟨rfl,⟨(true,acc++[x],i+1),inv.fail hy hx⟩,hms,hwk true x _ _ _,fun _ _ _ h=>h⟩
 ·have e:i=l.length:=by omega
  subst e
  exact⟨rfl,_,_,Wk.refl _ _ _ _,b,acc,inv,rfl,rfl,rfl⟩
def wN(s:ByteArray):gP:=fun c n AB obs A=>∃(b0:Bool) (l:List ByteArray),l.length<=32/\c=AJ Tryz.prog 192 5/\n=59/\AB=[pA 100,.func (.func 193) ⟨[]⟩ ⟨[]⟩,.slice none 0 0,dsl (rowsOf cSt l),.int .i64 (Int.ofNat l.length),.int .i64 (0:Int)]/\obs=[some (rdC s b0)]/\
 ∀b acc,Got FP b0 l b acc l.length->A b acc.length (mo (acc.flatMap BN) 66 7)
theorem AHF(s:ByteArray):BH Tryz.prog 100 [0,2,9,33,34,35] (AAA (wN s)):=by
 show BH Tryz.prog 100 [0,2,9,33,34,35] (lpS [0,2,9] _)
 refine FQ okp (W:=AP (syB 101) Zp [(193,TQ ZY)] [] [] []) (M3 (fun x hx=>by simp only[List.mem_singleton]at hx;subst hx;exact AB2) (fun x hx=>by cases hx)) AZ ?_
 intro c n AB obs K h
 split at h<;>try exact h.elim
 obtain⟨b0,l,hl,hc,hn,hv,ho,hA⟩:=h
 subst hc;subst hn
 simp only[rdC,List.cons.injEq,Option.some.injEq,AA.cells.injEq]at hv ho
 obtain⟨rfl,rfl,rfl⟩:=hv
 obtain⟨⟨⟨rfl,rfl,_⟩,rfl,rfl,rfl,rfl⟩,rfl⟩:=ho
 refine⟨StY FP b0 l,1,300,fun p=>l.length-p.1.2.2,gG s b0 l,fun _ e v o=>iA s b0 l e v o,⟨(b0,[],0),⟨Nat.zero_le _,rfl,fun h=>⟨h,rfl⟩,fun h => .inl h⟩⟩,rfl,?_,?_,AFQ s b0 l hl⟩
 ·exact IP (va:=[pA 100,.func (.func 193) ⟨[]⟩ ⟨[]⟩])
 intro e v o hR
 obtain⟨b,acc,h1,rfl,rfl,rfl⟩:=hR
 exact hA b acc h1
def AJu(s:ByteArray)(t:Nat):RK:=fun v AC=>∃(l:List Instr) (b:Bool),((b=false/\F9 FP t s.data.toList=some l)∨(b=true/\F9 FP t s.data.toList=none))/\Wk 100 (100+1) [v] AC [dsl (rowsOf BN l)] [some (rdC s b)]
theorem lQ{s:ByteArray}{b:Bool}{l:List Instr}:Wk 100 (100+1) [mkS 101 l.length] [some (rdC s b),mo (l.flatMap BN) 66 7] [dsl (rowsOf BN l)] [some (rdC s b)]:=
 (JY 0 1 (AC:=[some (rdC s b),mo (l.flatMap BN) 66 7]) rfl rfl (XX (c:=BN) (n:=7) (fun _=>rfl) l) (wW l) (by omega) (AQ _ _).symm).trans (I1 (k0:=1) (pre:=[some (rdC s b)]) (extra:=[none]) rfl rfl (fun i o h=>(mU (a:=rdC s b) rfl (AC:=[some (rdC s b)]) rfl i o h).2))
theorem AHl(s:ByteArray)(t:Nat)(ht:t<=32):Is (xK (real Tryz.prog) MRL (wN s) s (t:Int) (AJu s t)):=by
 refine⟨?_⟩
 rw[xL]
 refine⟨t,rfl,by omega,fun h0=>BI _ (AQ _ _) ⟨false,_,bB ht,rfl,rfl,rfl,rfl,fun b acc hg=>⟨acc,b,?_,lQ⟩⟩,fun h3=>BI 0 rfl ⟨true,[],by simp,rfl,rfl,rfl,rfl,fun b acc hg=>⟨acc,b,.inr ?_,lQ⟩⟩,fun h4=>BI 0 rfl ⟨true,[],by simp,rfl,rfl,rfl,rfl,fun b acc hg=>⟨acc,b,.inr ?_,lQ⟩⟩⟩
 ·unfold F9;rw[if_pos h0]
  cases b with
  |false=>
   have:=(hg.well rfl).2
   rw[List.take_length]at this
   exact .inl ⟨rfl,this⟩
  |true=>exact .inr ⟨rfl,(hg.bad rfl).resolve_left (by simp)⟩
 ·unfold F9;rw[if_neg (by omega)]
  cases b with
  |false=>exact absurd (hg.well rfl).1 (by simp)
  |true=>exact⟨rfl,rfl⟩
 ·unfold F9;rw[if_neg (by omega)]
  cases b with
  |false=>exact absurd (hg.well rfl).1 (by simp)
  |true=>exact⟨rfl,rfl⟩
theorem AFl:JU Tryz.prog 100 192 (IX 193 (SQ FP BN)):=by
 intro args H K h
 unfold IX at h
 split at h<;>try exact h.elim
 rename_i p m g
 split at h<;>try exact h.elim
 rename_i s e sz lo ow hg
 split at h<;>try exact h.elim
 rename_i hc
 simp only[Bool.and_eq_true]at hc
 obtain⟨⟨hc1,hc2⟩,hc3⟩:=hc
 rw[O5 hc1]at hg
 obtain rfl:=Nat.eq_of_beq_eq_true hc3
 obtain⟨t,rfl,ht,hA,hE⟩:=h
 obtain⟨v,AC,⟨l,b,hb,hw⟩,hC⟩:=LM (EY (F6 AFm)) (GH (fun x hx=>by simp only[List.mem_singleton]at hx;subst hx;exact AHF s)) (AHl s t ht)
 have hC2:∀B,BM Tryz.prog 100 B 192 (pA 100::[.int .i64 (t:Int),.func (.func 193) ⟨[]⟩ ⟨[]⟩]) (hR s) (.returned (dsl (rowsOf BN l))) (hOf 100 [] [some (rdC s b)]):=fun B=>IM (hC B) hw
 rcases hb with⟨rfl,hx⟩ | ⟨rfl,hx⟩
 ·exact⟨_,_,fun B=>KI rfl rfl hC2 hg hc2 B,hA l hx⟩
 ·exact⟨_,_,fun B=>KI rfl rfl hC2 hg hc2 B,hE hx l⟩
def ZT(s:ByteArray)(b0:Bool)(l:List ByteArray)(p:StY EQ b0 l):Lv×Lo:=
 ([pA 100,.func (.func 201) ⟨[]⟩ ⟨[]⟩,mkS 101 p.1.2.1.length,dsl (rowsOf cSt l),.int .i64 (l.length:Int),.int .i64 (p.1.2.2:Int)],[some (rdC s p.1.1),mo (p.1.2.1.flatMap BB) 181 2])
def Z4(s:ByteArray)(b0:Bool)(l:List ByteArray)(e:Exit)(v:Lv)(o:Lo):Prop:=
 ∃b acc,Got EQ b0 l b acc l.length/\e = .exit 0/\v=[pA 100,.func (.func 201) ⟨[]⟩ ⟨[]⟩,mkS 101 acc.length]/\o=[some (rdC s b),mo (acc.flatMap BB) 181 2]
theorem nR(l:List DN):BL 0 (l.flatMap BB)=true:=V3 (c:=BB) (fun _ _ h=>h) l
theorem ACh(s:ByteArray)(b0:Bool)(l:List ByteArray)(hl:l.length<=32)(p:StY EQ b0 l):
  Is (wpe Tryz.prog (real Tryz.prog) (AP (syB 101) Zp [(201,Q5 XO)] [] [] []) 300 (.code false (AJ Tryz.prog 200 5) (CX 100 59 [0,2,9,33,34,35] [] (ZT s b0 l p))) (A7 100 [0,2,9,33,34,35] [0,2,9] 59 []
   (fun AB AC=>∃a':StY EQ b0 l,l.length-a'.1.2.2<l.length-p.1.2.2/\Wk 100 (100+1) AB AC (ZT s b0 l a').1 (ZT s b0 l a').2/\∀e v o,Z4 s b0 l e v o->Z4 s b0 l e v o)
   (fun e AB AC=>∃v o,Wk 100 (100+1) AB AC v o/\Z4 s b0 l e v o))):=by
 refine⟨?_⟩
 obtain⟨⟨b,acc,i⟩,inv⟩:=p
 have hle:i<=l.length:=inv.le
 have hlen:acc.length=i:=inv.len
 have hT:J3=140737488355328:=rfl
 show jW (real Tryz.prog) XO s b acc.length (mo (acc.flatMap BB) 181 2) (rowsOf cSt l) (l.length:Int) (i:Int) _ _
 rw[mI]
 refine EL (fun hlt=>?_) (fun hge=>?_)
 ·have hy:l[i]?=some l[i]:=List.getElem?_eq_getElem hlt
  generalize l[i]=y at hy
  have hms:l.length-(i+1)<l.length-i:=by omega
  have hwk:∀(b':Bool) (x:DN) (o1 o2 o3:Option AA),Wk 100 (100+1) [pA 100,.func (.func 201) ⟨[]⟩ ⟨[]⟩,.slice (some ⟨100+4,0,none⟩) (acc.length+1) (acc.length+1),dsl (rowsOf cSt l),.int .i64 (l.length:Int),.int .i64 ((i+1:Nat):Int)] [some (rdC s b'),o1,o2,o3,some (.cells (acc.flatMap BB++BB x) 181 2 true true)]
    [pA 100,.func (.func 201) ⟨[]⟩ ⟨[]⟩,mkS 101 (acc++[x]).length,dsl (rowsOf cSt l),.int .i64 (l.length:Int),.int .i64 ((i+1:Nat):Int)] [some (rdC s b'),mo ((acc++[x]).flatMap BB) 181 2]:=by
   intro b' x o1 o2 o3
   have hcell:acc.flatMap BB++BB x=(acc++[x]).flatMap BB:=by simp
   have hacc:(acc++[x]).length=acc.length+1:=by simp
   show Wk 100 (100+1) _ _ ([pA 100,.func (.func 201) ⟨[]⟩ ⟨[]⟩]++mkS (100+1) (acc++[x]).length::[dsl (rowsOf cSt l),.int .i64 (l.length:Int),.int .i64 ((i+1:Nat):Int)]) ([some (rdC s b')]++[mo ((acc++[x]).flatMap BB) 181 2])
   rw[←hcell,J4 (by simp[BB]),hacc]
   exact IU (k0:=1) (j:=4) (va:=[pA 100,.func (.func 201) ⟨[]⟩ ⟨[]⟩]) (by omega) rfl (by rw[hcell];exact nR _) rfl rfl (by omega) rfl (mU rfl rfl)
  refine DK i rfl (O1 hy) rfl (KL (z:=y) rfl ⟨fun x hx=>?_,fun hx x=>?_⟩)
  ·refine D6 (LP (c:=BB) (fun _=>rfl) acc) (by omega) (FV (by omega) rfl rfl (by omega) (by omega) ?_)
   cases b with
   |true=>exact BZ (by omega) ⟨rfl,⟨(true,acc++[x],i+1),inv.next hy hx⟩,hms,hwk true x _ _ _,fun _ _ _ h=>h⟩
   |false=>exact BZ (by omega) ⟨rfl,⟨(false,acc++[x],i+1),inv.next hy hx⟩,hms,hwk false x _ _ _,fun _ _ _ h=>h⟩
  ·refine D6 (LP (c:=BB) (fun _=>rfl) acc) (by omega) (FV (by omega) rfl rfl (by omega) (by omega) ?_)
   cases b with
   |true=>exact BZ (by omega) ⟨rfl,⟨(true,acc++[x],i+1),inv.fail hy hx⟩,hms,hwk true x _ _ _,fun _ _ _ h=>h⟩
   |false=>exact BZ (by omega) ⟨rfl,⟨(true,acc++[x],i+1),inv.fail hy hx⟩,hms,hwk true x _ _ _,fun _ _ _ h=>h⟩
 ·have e:i=l.length:=by omega
  subst e
  exact⟨rfl,_,_,Wk.refl _ _ _ _,b,acc,inv,rfl,rfl,rfl⟩
def nO(s:ByteArray):ZV:=fun c n AB obs A=>∃(b0:Bool) (l:List ByteArray),l.length<=32/\c=AJ Tryz.prog 200 5/\n=59/\AB=[pA 100,.func (.func 201) ⟨[]⟩ ⟨[]⟩,.slice none 0 0,dsl (rowsOf cSt l),.int .i64 (Int.ofNat l.length),.int .i64 (0:Int)]/\obs=[some (rdC s b0)]/\
 ∀b acc,Got EQ b0 l b acc l.length->A b acc.length (mo (acc.flatMap BB) 181 2)
theorem AE4(s:ByteArray):BH Tryz.prog 100 [0,2,9,33,34,35] (qU (nO s)):=by
 show BH Tryz.prog 100 [0,2,9,33,34,35] (lpS [0,2,9] _)
 refine FQ okp (W:=AP (syB 101) Zp [(201,Q5 XO)] [] [] []) (M3 (fun x hx=>by simp only[List.mem_singleton]at hx;subst hx;exact zS) (fun x hx=>by cases hx)) AZ ?_
 intro c n AB obs K h
 split at h<;>try exact h.elim
 obtain⟨b0,l,hl,hc,hn,hv,ho,hA⟩:=h
 subst hc;subst hn
 simp only[rdC,List.cons.injEq,Option.some.injEq,AA.cells.injEq]at hv ho
 obtain⟨rfl,rfl,rfl⟩:=hv
 obtain⟨⟨⟨rfl,rfl,_⟩,rfl,rfl,rfl,rfl⟩,rfl⟩:=ho
 refine⟨StY EQ b0 l,1,300,fun p=>l.length-p.1.2.2,ZT s b0 l,fun _ e v o=>Z4 s b0 l e v o,⟨(b0,[],0),⟨Nat.zero_le _,rfl,fun h=>⟨h,rfl⟩,fun h => .inl h⟩⟩,rfl,?_,?_,ACh s b0 l hl⟩
 ·exact IP (va:=[pA 100,.func (.func 201) ⟨[]⟩ ⟨[]⟩])
 intro e v o hR
 obtain⟨b,acc,h1,rfl,rfl,rfl⟩:=hR
 exact hA b acc h1
def AGf(s:ByteArray)(t:Nat):RK:=fun v AC=>∃(l:List DN) (b:Bool),((b=false/\F9 EQ t s.data.toList=some l)∨(b=true/\F9 EQ t s.data.toList=none))/\Wk 100 (100+1) [v] AC [dsl (rowsOf BB l)] [some (rdC s b)]
theorem dZ{s:ByteArray}{b:Bool}{l:List DN}:Wk 100 (100+1) [mkS 101 l.length] [some (rdC s b),mo (l.flatMap BB) 181 2] [dsl (rowsOf BB l)] [some (rdC s b)]:=
 (JY 0 1 (AC:=[some (rdC s b),mo (l.flatMap BB) 181 2]) rfl rfl (XX (c:=BB) (n:=2) (fun _=>rfl) l) (nR l) (by omega) (AQ _ _).symm).trans (I1 (k0:=1) (pre:=[some (rdC s b)]) (extra:=[none]) rfl rfl (fun i o h=>(mU (a:=rdC s b) rfl (AC:=[some (rdC s b)]) rfl i o h).2))
theorem AEW(s:ByteArray)(t:Nat)(ht:t<=32):Is (nZ (real Tryz.prog) MRL (nO s) s (t:Int) (AGf s t)):=by
 refine⟨?_⟩
 rw[tQ]
 refine⟨t,rfl,by omega,fun h0=>BI _ (AQ _ _) ⟨false,_,bB ht,rfl,rfl,rfl,rfl,fun b acc hg=>⟨acc,b,?_,dZ⟩⟩,fun h3=>BI 0 rfl ⟨true,[],by simp,rfl,rfl,rfl,rfl,fun b acc hg=>⟨acc,b,.inr ?_,dZ⟩⟩,fun h4=>BI 0 rfl ⟨true,[],by simp,rfl,rfl,rfl,rfl,fun b acc hg=>⟨acc,b,.inr ?_,dZ⟩⟩⟩
 ·unfold F9;rw[if_pos h0]
  cases b with
  |false=>
   have:=(hg.well rfl).2
   rw[List.take_length]at this
   exact .inl ⟨rfl,this⟩
  |true=>exact .inr ⟨rfl,(hg.bad rfl).resolve_left (by simp)⟩
 ·unfold F9;rw[if_neg (by omega)]
  cases b with
  |false=>exact absurd (hg.well rfl).1 (by simp)
  |true=>exact⟨rfl,rfl⟩
 ·unfold F9;rw[if_neg (by omega)]
  cases b with
  |false=>exact absurd (hg.well rfl).1 (by simp)
  |true=>exact⟨rfl,rfl⟩
theorem AB1:JU Tryz.prog 100 200 (IX 201 (SQ EQ BB)):=by
 intro args H K h
 unfold IX at h
 split at h<;>try exact h.elim
 rename_i p m g
 split at h<;>try exact h.elim
 rename_i s e sz lo ow hg
 split at h<;>try exact h.elim
 rename_i hc
 simp only[Bool.and_eq_true]at hc
 obtain⟨⟨hc1,hc2⟩,hc3⟩:=hc
 rw[O5 hc1]at hg
 obtain rfl:=Nat.eq_of_beq_eq_true hc3
 obtain⟨t,rfl,ht,hA,hE⟩:=h
 obtain⟨v,AC,⟨l,b,hb,hw⟩,hC⟩:=LM (EY (F6 AFm)) (GH (fun x hx=>by simp only[List.mem_singleton]at hx;subst hx;exact AE4 s)) (AEW s t ht)
 have hC2:∀B,BM Tryz.prog 100 B 200 (pA 100::[.int .i64 (t:Int),.func (.func 201) ⟨[]⟩ ⟨[]⟩]) (hR s) (.returned (dsl (rowsOf BB l))) (hOf 100 [] [some (rdC s b)]):=fun B=>IM (hC B) hw
 rcases hb with⟨rfl,hx⟩ | ⟨rfl,hx⟩
 ·exact⟨_,_,fun B=>KI rfl rfl hC2 hg hc2 B,hA l hx⟩
 ·exact⟨_,_,fun B=>KI rfl rfl hC2 hg hc2 B,hE hx l⟩
end
end Go.Proofs.Ob
