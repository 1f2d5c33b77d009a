/- Lists of items read: what the code comes to. -/
import Derived.Test.YtblbaohcelldpaaU4
set_option linter.all false
namespace Go.Tlv
open Go Go.Abs
theorem mapO_bad{α β:Type}{f:α->Option β}:∀ {l:List α} {i:Nat} {y:α},l[i]?=some y->f y=none->mapO f l=none
 | [],i,y,h,_=>by simp at h
 |a::l,0,y,h,hf=>by
  simp only[List.getElem?_cons_zero,Option.some.injEq]at h;subst h
  simp only[mapO,hf]
 |a::l,i+1,y,h,hf=>by
  have:=mapO_bad (l:=l) (i:=i) (by simpa using h) hf
  simp only[mapO,this]
  cases f a<;>rfl
theorem mapO_snoc{α β:Type}{f:α->Option β}{l:List α}{i:Nat}{y:α}{acc:List β}{x:β}(h:l[i]?=some y)(h1:mapO f (l.take i)=some acc)(h2:f y=some x):mapO f (l.take (i+1))=some (acc++[x]):=by
 rw[List.take_add_one,h,mapO_app,h1]
 simp[mapO,h2]
structure Got{α:Type}(rd:List UInt8->Option α)(b0:Bool)(l:List ByteArray)(b:Bool)(acc:List α)(i:Nat):Prop where
 le:i<=l.length
 len:acc.length=i
 well:b=false->b0=false/\mapO (fun s=>rd s.data.toList) (l.take i)=some acc
 bad:b=true->b0=true∨mapO (fun s=>rd s.data.toList) l=none
abbrev StY{α:Type}(rd:List UInt8->Option α)(b0:Bool)(l:List ByteArray):={p:Bool×List α×Nat // Got rd b0 l p.1 p.2.1 p.2.2}
theorem Got.next{α:Type}{rd:List UInt8->Option α}{b0 b:Bool}{l:List ByteArray}{acc:List α}{i:Nat}(h:Got rd b0 l b acc i){y:ByteArray}{x:α}(hy:l[i]?=some y)(hx:rd y.data.toList=some x):Got rd b0 l b (acc++[x]) (i+1):=
 ⟨(List.getElem?_eq_some_iff.1 hy).1,by simp[h.len],fun hb=>⟨(h.well hb).1,mapO_snoc hy (h.well hb).2 hx⟩,h.bad⟩
theorem Got.fail{α:Type}{rd:List UInt8->Option α}{b0 b:Bool}{l:List ByteArray}{acc:List α}{i:Nat}(h:Got rd b0 l b acc i){y:ByteArray}{x:α}(hy:l[i]?=some y)(hx:rd y.data.toList=none):Got rd b0 l true (acc++[x]) (i+1):=
 ⟨(List.getElem?_eq_some_iff.1 hy).1,by simp[h.len],fun hb=>(by cases hb),fun _ => .inr (mapO_bad (f:=fun s:ByteArray=>rd s.data.toList) hy hx)⟩
end Go.Tlv
namespace Go.Proofs.Ytblbaohcelldpaa.Ob
open Go Go.Abs Go.Tlv
set_option maxRecDepth 100000
noncomputable section
def MItr{α:Type}(rd:List UInt8->Option α)(c:α->List Value):MIt:=fun s m A E=>∃t:Nat,m=t/\t<=32/\(∀l,getL rd t s.data.toList=some l->A (rowsOf c l))/\(getL rd t s.data.toList=none->∀l:List α,E (rowsOf c l))
theorem flat_len{α:Type}{c:α->List Value}{n:Nat}(hc:∀x,(c x).length=n)(l:List α):(l.flatMap c).length=l.length*n:=by
 induction l with
 |nil=>simp
 |cons a l ih=>rw[List.flatMap_cons,List.length_append,ih,hc a,List.length_cons,Nat.succ_mul];omega
theorem pre1{a:AObj}(ha:belowO 101 (some a)=true){objs:List (Option AObj)}(h0:objs[0]?=some (some a)):
  ∀(i:Nat) o,([some a]:List (Option AObj))[i]?=some (some o)->objs[i]?=some (some o)/\belowO (100+1) (some o)=true:=by
 intro i o h
 cases i with
 |zero=>simp only[List.getElem?_cons_zero,Option.some.injEq]at h;subst h;exact⟨h0,ha⟩
 |succ i=>simp at h
theorem strRow_get{l:List ByteArray}{i:Nat}{y:ByteArray}(h:l[i]?=some y):(rowsOf cSt l)[i]?=some (.agg ⟨[.string y]⟩):=rowsOf_get (c:=cSt) h
theorem lst_len{t:Nat}{s:List UInt8}(h:t<=32):(lstE t 0 s).2.length<=32:=by
 by_cases h0:(lstE t 0 s).1=0
 ·obtain⟨_,h2,_⟩:=lstE_ok s.length s t 0 (lstE t 0 s).2 (Nat.le_refl _) (Prod.ext h0 rfl)
  rcases h2 with h2|h2
  ·omega
  ·rw[h2];simp
 ·rw[lstE_err _ _ _ h0];simp
def IYArm(s:ByteArray)(b0:Bool)(l:List ByteArray)(p:StY rdArm b0 l):List Value×List (Option AObj):=
 ([pA 100,.func (.func 71) ⟨[]⟩ ⟨[]⟩,mkS 101 p.1.2.1.length,dsl (rowsOf cSt l),.int .i64 (l.length:Int),.int .i64 (p.1.2.2:Int)],[some (rdC s p.1.1),mo (p.1.2.1.flatMap cArm) 76 2])
def RYArm(s:ByteArray)(b0:Bool)(l:List ByteArray)(e:Exit)(v:List Value)(o:List (Option AObj)):Prop:=
 ∃b acc,Got rdArm b0 l b acc l.length/\e = .exit 0/\v=[pA 100,.func (.func 71) ⟨[]⟩ ⟨[]⟩,mkS 101 acc.length]/\o=[some (rdC s b),mo (acc.flatMap cArm) 76 2]
theorem beYArm(l:List Arm):belowL 0 (l.flatMap cArm)=true:=below_of (c:=cArm) (fun _ _ h=>h) l
theorem rndYArm(s:ByteArray)(b0:Bool)(l:List ByteArray)(hl:l.length<=32)(p:StY rdArm b0 l):
  Is (wpe Try.prog (real Try.prog) (howOf (syB 101) Zp [(71,sOneArm MOrArm)] [] [] []) 300 (.code false (loopIn Try.prog 70 5) (stOf 100 59 [0,2,9,33,34,35] [] (IYArm s b0 l p))) (roundQ 100 [0,2,9,33,34,35] [0,2,9] 59 []
   (fun vals objs=>∃a':StY rdArm b0 l,l.length-a'.1.2.2<l.length-p.1.2.2/\Wk 100 (100+1) vals objs (IYArm s b0 l a').1 (IYArm s b0 l a').2/\∀e v o,RYArm s b0 l e v o->RYArm s b0 l e v o)
   (fun e vals objs=>∃v o,Wk 100 (100+1) vals objs v o/\RYArm s b0 l e v o))):=by
 refine⟨?_⟩
 obtain⟨⟨b,acc,i⟩,inv⟩:=p
 have hle:i<=l.length:=inv.le
 have hlen:acc.length=i:=inv.len
 have hT:tops=140737488355328:=rfl
 show gItArmR (real Try.prog) MOrArm s b acc.length (mo (acc.flatMap cArm) 76 2) (rowsOf cSt l) (l.length:Int) (i:Int) _ _
 rw[gItArmR_eq]
 refine n_ltN (fun hlt=>?_) (fun hge=>?_)
 ·have hy:l[i]?=some l[i]:=List.getElem?_eq_getElem hlt
  generalize l[i]=y at hy
  have hms:l.length-(i+1)<l.length-i:=by omega
  have hwk:∀(b':Bool) (x:Arm) (o1 o2 o3:Option AObj),Wk 100 (100+1) [pA 100,.func (.func 71) ⟨[]⟩ ⟨[]⟩,.slice (some ⟨100+4,0,none⟩) (acc.length+1) (acc.length+1),dsl (rowsOf cSt l),.int .i64 (l.length:Int),.int .i64 ((i+1:Nat):Int)] [some (rdC s b'),o1,o2,o3,some (.cells (acc.flatMap cArm++cArm x) 76 2 true true)]
    [pA 100,.func (.func 71) ⟨[]⟩ ⟨[]⟩,mkS 101 (acc++[x]).length,dsl (rowsOf cSt l),.int .i64 (l.length:Int),.int .i64 ((i+1:Nat):Int)] [some (rdC s b'),mo ((acc++[x]).flatMap cArm) 76 2]:=by
   intro b' x o1 o2 o3
   have hcell:acc.flatMap cArm++cArm x=(acc++[x]).flatMap cArm:=by simp
   have hacc:(acc++[x]).length=acc.length+1:=by simp
   show Wk 100 (100+1) _ _ ([pA 100,.func (.func 71) ⟨[]⟩ ⟨[]⟩]++mkS (100+1) (acc++[x]).length::[dsl (rowsOf cSt l),.int .i64 (l.length:Int),.int .i64 ((i+1:Nat):Int)]) ([some (rdC s b')]++[mo ((acc++[x]).flatMap cArm) 76 2])
   rw[←hcell,mo_ne (by simp[cArm]),hacc]
   exact wk_outG (k0:=1) (j:=4) (va:=[pA 100,.func (.func 71) ⟨[]⟩ ⟨[]⟩]) (by omega) rfl (by rw[hcell];exact beYArm _) rfl rfl (by omega) rfl (pre1 rfl rfl)
  refine n_dget i rfl (strRow_get hy) rfl (n_rdS (z:=y) rfl ⟨fun x hx=>?_,fun hx x=>?_⟩)
  ·refine n_base_mo (flat_len (c:=cArm) (fun _=>rfl) acc) (by omega) (n_appX (by omega) rfl rfl (by omega) (by omega) ?_)
   cases b with
   |true=>exact n_inc (by omega) ⟨rfl,⟨(true,acc++[x],i+1),inv.next hy hx⟩,hms,hwk true x _ _ _,fun _ _ _ h=>h⟩
   |false=>exact n_inc (by omega) ⟨rfl,⟨(false,acc++[x],i+1),inv.next hy hx⟩,hms,hwk false x _ _ _,fun _ _ _ h=>h⟩
  ·refine n_base_mo (flat_len (c:=cArm) (fun _=>rfl) acc) (by omega) (n_appX (by omega) rfl rfl (by omega) (by omega) ?_)
   cases b with
   |true=>exact n_inc (by omega) ⟨rfl,⟨(true,acc++[x],i+1),inv.fail hy hx⟩,hms,hwk true x _ _ _,fun _ _ _ h=>h⟩
   |false=>exact n_inc (by omega) ⟨rfl,⟨(true,acc++[x],i+1),inv.fail hy hx⟩,hms,hwk true x _ _ _,fun _ _ _ h=>h⟩
 ·have e:i=l.length:=by omega
  subst e
  exact⟨rfl,_,_,Wk.refl _ _ _ _,b,acc,inv,rfl,rfl,rfl⟩
def LYrArm(s:ByteArray):LYArm:=fun c n vals obs A=>∃(b0:Bool) (l:List ByteArray),l.length<=32/\c=loopIn Try.prog 70 5/\n=59/\vals=[pA 100,.func (.func 71) ⟨[]⟩ ⟨[]⟩,.slice none 0 0,dsl (rowsOf cSt l),.int .i64 (Int.ofNat l.length),.int .i64 (0:Int)]/\obs=[some (rdC s b0)]/\
 ∀b acc,Got rdArm b0 l b acc l.length->A b acc.length (mo (acc.flatMap cArm) 76 2)
theorem lpYArm(s:ByteArray):LoopOk Try.prog 100 [0,2,9,33,34,35] (sLyArm (LYrArm s)):=by
 show LoopOk Try.prog 100 [0,2,9,33,34,35] (lpS [0,2,9] _)
 refine lp_mk okp (W:=howOf (syB 101) Zp [(71,sOneArm MOrArm)] [] [] []) (kn_ok (fun x hx=>by simp only[List.mem_singleton]at hx;subst hx;exact okOneArm) (fun x hx=>by cases hx)) lp_none ?_
 intro c n vals obs K h
 split at h<;>try exact h.elim
 obtain⟨b0,l,hl,hc,hn,hv,ho,hA⟩:=h
 subst hc;subst hn
 simp only[rdC,List.cons.injEq,Option.some.injEq,AObj.cells.injEq]at hv ho
 obtain⟨rfl,rfl,rfl⟩:=hv
 obtain⟨⟨⟨rfl,rfl,_⟩,rfl,rfl,rfl,rfl⟩,rfl⟩:=ho
 refine⟨StY rdArm b0 l,1,300,fun p=>l.length-p.1.2.2,IYArm s b0 l,fun _ e v o=>RYArm s b0 l e v o,⟨(b0,[],0),⟨Nat.zero_le _,rfl,fun h=>⟨h,rfl⟩,fun h => .inl h⟩⟩,rfl,?_,?_,rndYArm s b0 l hl⟩
 ·exact wk_nilG (va:=[pA 100,.func (.func 71) ⟨[]⟩ ⟨[]⟩])
 intro e v o hR
 obtain⟨b,acc,h1,rfl,rfl,rfl⟩:=hR
 exact hA b acc h1
def QIArm(s:ByteArray)(t:Nat):RK:=fun v objs=>∃(l:List Arm) (b:Bool),((b=false/\getL rdArm t s.data.toList=some l)∨(b=true/\getL rdArm t s.data.toList=none))/\Wk 100 (100+1) [v] objs [dsl (rowsOf cArm l)] [some (rdC s b)]
theorem wkIArm{s:ByteArray}{b:Bool}{l:List Arm}:Wk 100 (100+1) [mkS 101 l.length] [some (rdC s b),mo (l.flatMap cArm) 76 2] [dsl (rowsOf cArm l)] [some (rdC s b)]:=
 (wk_set_frzM 0 1 (objs:=[some (rdC s b),mo (l.flatMap cArm) 76 2]) rfl rfl (flat_of (c:=cArm) (n:=2) (fun _=>rfl) l) (beYArm l) (by omega) (rowsOf_len _ _).symm).trans (wk_drop (k0:=1) (pre:=[some (rdC s b)]) (extra:=[none]) rfl rfl (fun i o h=>(pre1 (a:=rdC s b) rfl (objs:=[some (rdC s b)]) rfl i o h).2))
theorem itCArm(s:ByteArray)(t:Nat)(ht:t<=32):Is (gItArm (real Try.prog) MRL (LYrArm s) s (t:Int) (QIArm s t)):=by
 refine⟨?_⟩
 rw[gItArm_eq]
 refine⟨t,rfl,by omega,fun h0=>n_dlen _ (rowsOf_len _ _) ⟨false,_,lst_len ht,rfl,rfl,rfl,rfl,fun b acc hg=>⟨acc,b,?_,wkIArm⟩⟩,fun h3=>n_dlen 0 rfl ⟨true,[],by simp,rfl,rfl,rfl,rfl,fun b acc hg=>⟨acc,b,.inr ?_,wkIArm⟩⟩,fun h4=>n_dlen 0 rfl ⟨true,[],by simp,rfl,rfl,rfl,rfl,fun b acc hg=>⟨acc,b,.inr ?_,wkIArm⟩⟩⟩
 ·unfold getL;rw[if_pos h0]
  cases b with
  |false=>
   have:=(hg.well rfl).2
   rw[List.take_length]at this
   exact .inl ⟨rfl,this⟩
  |true=>exact .inr ⟨rfl,(hg.bad rfl).resolve_left (by simp)⟩
 ·unfold getL;rw[if_neg (by omega)]
  cases b with
  |false=>exact absurd (hg.well rfl).1 (by simp)
  |true=>exact⟨rfl,rfl⟩
 ·unfold getL;rw[if_neg (by omega)]
  cases b with
  |false=>exact absurd (hg.well rfl).1 (by simp)
  |true=>exact⟨rfl,rfl⟩
theorem okItArm:SumOk Try.prog 100 70 (sItems 71 (MItr rdArm cArm)):=by
 intro args H K h
 unfold sItems at h
 split at h<;>try exact h.elim
 rename_i p m g
 split at h<;>try exact h.elim
 rename_i s e sz lo ow hg
 split at h<;>try exact h.elim
 rename_i hc
 simp only[Bool.and_eq_true]at hc
 obtain⟨⟨hc1,hc2⟩,hc3⟩:=hc
 rw[isRd_eq hc1]at hg
 obtain rfl:=Nat.eq_of_beq_eq_true hc3
 obtain⟨t,rfl,ht,hA,hE⟩:=h
 obtain⟨v,objs,⟨l,b,hb,hw⟩,hC⟩:=call_okI (kn_pu (pu_one1 puRL)) (lp_ok (fun x hx=>by simp only[List.mem_singleton]at hx;subst hx;exact lpYArm s)) (itCArm s t ht)
 have hC2:∀B,CallH Try.prog 100 B 70 (pA 100::[.int .i64 (t:Int),.func (.func 71) ⟨[]⟩ ⟨[]⟩]) (hR s) (.returned (dsl (rowsOf cArm l))) (hOf 100 [] [some (rdC s b)]):=fun B=>call_wk (hC B) hw
 rcases hb with⟨rfl,hx⟩ | ⟨rfl,hx⟩
 ·exact⟨_,_,fun B=>rd_any rfl rfl hC2 hg hc2 B,hA l hx⟩
 ·exact⟨_,_,fun B=>rd_any rfl rfl hC2 hg hc2 B,hE hx l⟩
def IYInt(s:ByteArray)(b0:Bool)(l:List ByteArray)(p:StY rdInt b0 l):List Value×List (Option AObj):=
 ([pA 100,.func (.func 61) ⟨[]⟩ ⟨[]⟩,mkS 101 p.1.2.1.length,dsl (rowsOf cSt l),.int .i64 (l.length:Int),.int .i64 (p.1.2.2:Int)],[some (rdC s p.1.1),mo (p.1.2.1.flatMap cInt) 3 1])
def RYInt(s:ByteArray)(b0:Bool)(l:List ByteArray)(e:Exit)(v:List Value)(o:List (Option AObj)):Prop:=
 ∃b acc,Got rdInt b0 l b acc l.length/\e = .exit 0/\v=[pA 100,.func (.func 61) ⟨[]⟩ ⟨[]⟩,mkS 101 acc.length]/\o=[some (rdC s b),mo (acc.flatMap cInt) 3 1]
theorem beYInt(l:List Int):belowL 0 (l.flatMap cInt)=true:=below_of (c:=cInt) (fun _ _ h=>h) l
theorem rndYInt(s:ByteArray)(b0:Bool)(l:List ByteArray)(hl:l.length<=32)(p:StY rdInt b0 l):
  Is (wpe Try.prog (real Try.prog) (howOf (syB 101) Zp [(61,sOneInt MOrInt)] [] [] []) 300 (.code false (loopIn Try.prog 75 5) (stOf 100 59 [0,2,9,33,34,35] [] (IYInt s b0 l p))) (roundQ 100 [0,2,9,33,34,35] [0,2,9] 59 []
   (fun vals objs=>∃a':StY rdInt b0 l,l.length-a'.1.2.2<l.length-p.1.2.2/\Wk 100 (100+1) vals objs (IYInt s b0 l a').1 (IYInt s b0 l a').2/\∀e v o,RYInt s b0 l e v o->RYInt s b0 l e v o)
   (fun e vals objs=>∃v o,Wk 100 (100+1) vals objs v o/\RYInt s b0 l e v o))):=by
 refine⟨?_⟩
 obtain⟨⟨b,acc,i⟩,inv⟩:=p
 have hle:i<=l.length:=inv.le
 have hlen:acc.length=i:=inv.len
 have hT:tops=140737488355328:=rfl
 show gItIntR (real Try.prog) MOrInt s b acc.length (mo (acc.flatMap cInt) 3 1) (rowsOf cSt l) (l.length:Int) (i:Int) _ _
 rw[gItIntR_eq]
 refine n_ltN (fun hlt=>?_) (fun hge=>?_)
 ·have hy:l[i]?=some l[i]:=List.getElem?_eq_getElem hlt
  generalize l[i]=y at hy
  have hms:l.length-(i+1)<l.length-i:=by omega
  have hwk:∀(b':Bool) (x:Int) (o1 o2 o3:Option AObj),Wk 100 (100+1) [pA 100,.func (.func 61) ⟨[]⟩ ⟨[]⟩,.slice (some ⟨100+4,0,none⟩) (acc.length+1) (acc.length+1),dsl (rowsOf cSt l),.int .i64 (l.length:Int),.int .i64 ((i+1:Nat):Int)] [some (rdC s b'),o1,o2,o3,some (.cells (acc.flatMap cInt++cInt x) 3 1 true true)]
    [pA 100,.func (.func 61) ⟨[]⟩ ⟨[]⟩,mkS 101 (acc++[x]).length,dsl (rowsOf cSt l),.int .i64 (l.length:Int),.int .i64 ((i+1:Nat):Int)] [some (rdC s b'),mo ((acc++[x]).flatMap cInt) 3 1]:=by
   intro b' x o1 o2 o3
   have hcell:acc.flatMap cInt++cInt x=(acc++[x]).flatMap cInt:=by simp
   have hacc:(acc++[x]).length=acc.length+1:=by simp
   show Wk 100 (100+1) _ _ ([pA 100,.func (.func 61) ⟨[]⟩ ⟨[]⟩]++mkS (100+1) (acc++[x]).length::[dsl (rowsOf cSt l),.int .i64 (l.length:Int),.int .i64 ((i+1:Nat):Int)]) ([some (rdC s b')]++[mo ((acc++[x]).flatMap cInt) 3 1])
   rw[←hcell,mo_ne (by simp[cInt]),hacc]
   exact wk_outG (k0:=1) (j:=4) (va:=[pA 100,.func (.func 61) ⟨[]⟩ ⟨[]⟩]) (by omega) rfl (by rw[hcell];exact beYInt _) rfl rfl (by omega) rfl (pre1 rfl rfl)
  refine n_dget i rfl (strRow_get hy) rfl (n_rdS (z:=y) rfl ⟨fun x hx=>?_,fun hx x=>?_⟩)
  ·refine n_base_mo (flat_len (c:=cInt) (fun _=>rfl) acc) (by omega) (n_appX (by omega) rfl rfl (by omega) (by omega) ?_)
   cases b with
   |true=>exact n_inc (by omega) ⟨rfl,⟨(true,acc++[x],i+1),inv.next hy hx⟩,hms,hwk true x _ _ _,fun _ _ _ h=>h⟩
   |false=>exact n_inc (by omega) ⟨rfl,⟨(false,acc++[x],i+1),inv.next hy hx⟩,hms,hwk false x _ _ _,fun _ _ _ h=>h⟩
  ·refine n_base_mo (flat_len (c:=cInt) (fun _=>rfl) acc) (by omega) (n_appX (by omega) rfl rfl (by omega) (by omega) ?_)
   cases b with
   |true=>exact n_inc (by omega) ⟨rfl,⟨(true,acc++[x],i+1),inv.fail hy hx⟩,hms,hwk true x _ _ _,fun _ _ _ h=>h⟩
   |false=>exact n_inc (by omega) ⟨rfl,⟨(true,acc++[x],i+1),inv.fail hy hx⟩,hms,hwk true x _ _ _,fun _ _ _ h=>h⟩
 ·have e:i=l.length:=by omega
  subst e
  exact⟨rfl,_,_,Wk.refl _ _ _ _,b,acc,inv,rfl,rfl,rfl⟩
def LYrInt(s:ByteArray):LYInt:=fun c n vals obs A=>∃(b0:Bool) (l:List ByteArray),l.length<=32/\c=loopIn Try.prog 75 5/\n=59/\vals=[pA 100,.func (.func 61) ⟨[]⟩ ⟨[]⟩,.slice none 0 0,dsl (rowsOf cSt l),.int .i64 (Int.ofNat l.length),.int .i64 (0:Int)]/\obs=[some (rdC s b0)]/\
 ∀b acc,Got rdInt b0 l b acc l.length->A b acc.length (mo (acc.flatMap cInt) 3 1)
theorem lpYInt(s:ByteArray):LoopOk Try.prog 100 [0,2,9,33,34,35] (sLyInt (LYrInt s)):=by
 show LoopOk Try.prog 100 [0,2,9,33,34,35] (lpS [0,2,9] _)
 refine lp_mk okp (W:=howOf (syB 101) Zp [(61,sOneInt MOrInt)] [] [] []) (kn_ok (fun x hx=>by simp only[List.mem_singleton]at hx;subst hx;exact okOneInt) (fun x hx=>by cases hx)) lp_none ?_
 intro c n vals obs K h
 split at h<;>try exact h.elim
 obtain⟨b0,l,hl,hc,hn,hv,ho,hA⟩:=h
 subst hc;subst hn
 simp only[rdC,List.cons.injEq,Option.some.injEq,AObj.cells.injEq]at hv ho
 obtain⟨rfl,rfl,rfl⟩:=hv
 obtain⟨⟨⟨rfl,rfl,_⟩,rfl,rfl,rfl,rfl⟩,rfl⟩:=ho
 refine⟨StY rdInt b0 l,1,300,fun p=>l.length-p.1.2.2,IYInt s b0 l,fun _ e v o=>RYInt s b0 l e v o,⟨(b0,[],0),⟨Nat.zero_le _,rfl,fun h=>⟨h,rfl⟩,fun h => .inl h⟩⟩,rfl,?_,?_,rndYInt s b0 l hl⟩
 ·exact wk_nilG (va:=[pA 100,.func (.func 61) ⟨[]⟩ ⟨[]⟩])
 intro e v o hR
 obtain⟨b,acc,h1,rfl,rfl,rfl⟩:=hR
 exact hA b acc h1
def QIInt(s:ByteArray)(t:Nat):RK:=fun v objs=>∃(l:List Int) (b:Bool),((b=false/\getL rdInt t s.data.toList=some l)∨(b=true/\getL rdInt t s.data.toList=none))/\Wk 100 (100+1) [v] objs [dsl (rowsOf cInt l)] [some (rdC s b)]
theorem wkIInt{s:ByteArray}{b:Bool}{l:List Int}:Wk 100 (100+1) [mkS 101 l.length] [some (rdC s b),mo (l.flatMap cInt) 3 1] [dsl (rowsOf cInt l)] [some (rdC s b)]:=
 (wk_set_frzM 0 1 (objs:=[some (rdC s b),mo (l.flatMap cInt) 3 1]) rfl rfl (flat_of (c:=cInt) (n:=1) (fun _=>rfl) l) (beYInt l) (by omega) (rowsOf_len _ _).symm).trans (wk_drop (k0:=1) (pre:=[some (rdC s b)]) (extra:=[none]) rfl rfl (fun i o h=>(pre1 (a:=rdC s b) rfl (objs:=[some (rdC s b)]) rfl i o h).2))
theorem itCInt(s:ByteArray)(t:Nat)(ht:t<=32):Is (gItInt (real Try.prog) MRL (LYrInt s) s (t:Int) (QIInt s t)):=by
 refine⟨?_⟩
 rw[gItInt_eq]
 refine⟨t,rfl,by omega,fun h0=>n_dlen _ (rowsOf_len _ _) ⟨false,_,lst_len ht,rfl,rfl,rfl,rfl,fun b acc hg=>⟨acc,b,?_,wkIInt⟩⟩,fun h3=>n_dlen 0 rfl ⟨true,[],by simp,rfl,rfl,rfl,rfl,fun b acc hg=>⟨acc,b,.inr ?_,wkIInt⟩⟩,fun h4=>n_dlen 0 rfl ⟨true,[],by simp,rfl,rfl,rfl,rfl,fun b acc hg=>⟨acc,b,.inr ?_,wkIInt⟩⟩⟩
 ·unfold getL;rw[if_pos h0]
  cases b with
  |false=>
   have:=(hg.well rfl).2
   rw[List.take_length]at this
   exact .inl ⟨rfl,this⟩
  |true=>exact .inr ⟨rfl,(hg.bad rfl).resolve_left (by simp)⟩
 ·unfold getL;rw[if_neg (by omega)]
  cases b with
  |false=>exact absurd (hg.well rfl).1 (by simp)
  |true=>exact⟨rfl,rfl⟩
 ·unfold getL;rw[if_neg (by omega)]
  cases b with
  |false=>exact absurd (hg.well rfl).1 (by simp)
  |true=>exact⟨rfl,rfl⟩
theorem okItInt:SumOk Try.prog 100 75 (sItems 61 (MItr rdInt cInt)):=by
 intro args H K h
 unfold sItems at h
 split at h<;>try exact h.elim
 rename_i p m g
 split at h<;>try exact h.elim
 rename_i s e sz lo ow hg
 split at h<;>try exact h.elim
 rename_i hc
 simp only[Bool.and_eq_true]at hc
 obtain⟨⟨hc1,hc2⟩,hc3⟩:=hc
 rw[isRd_eq hc1]at hg
 obtain rfl:=Nat.eq_of_beq_eq_true hc3
 obtain⟨t,rfl,ht,hA,hE⟩:=h
 obtain⟨v,objs,⟨l,b,hb,hw⟩,hC⟩:=call_okI (kn_pu (pu_one1 puRL)) (lp_ok (fun x hx=>by simp only[List.mem_singleton]at hx;subst hx;exact lpYInt s)) (itCInt s t ht)
 have hC2:∀B,CallH Try.prog 100 B 75 (pA 100::[.int .i64 (t:Int),.func (.func 61) ⟨[]⟩ ⟨[]⟩]) (hR s) (.returned (dsl (rowsOf cInt l))) (hOf 100 [] [some (rdC s b)]):=fun B=>call_wk (hC B) hw
 rcases hb with⟨rfl,hx⟩ | ⟨rfl,hx⟩
 ·exact⟨_,_,fun B=>rd_any rfl rfl hC2 hg hc2 B,hA l hx⟩
 ·exact⟨_,_,fun B=>rd_any rfl rfl hC2 hg hc2 B,hE hx l⟩
def IYNat(s:ByteArray)(b0:Bool)(l:List ByteArray)(p:StY rdNat b0 l):List Value×List (Option AObj):=
 ([pA 100,.func (.func 79) ⟨[]⟩ ⟨[]⟩,mkS 101 p.1.2.1.length,dsl (rowsOf cSt l),.int .i64 (l.length:Int),.int .i64 (p.1.2.2:Int)],[some (rdC s p.1.1),mo (p.1.2.1.flatMap cNat) 23 1])
def RYNat(s:ByteArray)(b0:Bool)(l:List ByteArray)(e:Exit)(v:List Value)(o:List (Option AObj)):Prop:=
 ∃b acc,Got rdNat b0 l b acc l.length/\e = .exit 0/\v=[pA 100,.func (.func 79) ⟨[]⟩ ⟨[]⟩,mkS 101 acc.length]/\o=[some (rdC s b),mo (acc.flatMap cNat) 23 1]
theorem beYNat(l:List Nat):belowL 0 (l.flatMap cNat)=true:=below_of (c:=cNat) (fun _ _ h=>h) l
theorem rndYNat(s:ByteArray)(b0:Bool)(l:List ByteArray)(hl:l.length<=32)(p:StY rdNat b0 l):
  Is (wpe Try.prog (real Try.prog) (howOf (syB 101) Zp [(79,sOneNat MOrNat)] [] [] []) 300 (.code false (loopIn Try.prog 78 5) (stOf 100 59 [0,2,9,33,34,35] [] (IYNat s b0 l p))) (roundQ 100 [0,2,9,33,34,35] [0,2,9] 59 []
   (fun vals objs=>∃a':StY rdNat b0 l,l.length-a'.1.2.2<l.length-p.1.2.2/\Wk 100 (100+1) vals objs (IYNat s b0 l a').1 (IYNat s b0 l a').2/\∀e v o,RYNat s b0 l e v o->RYNat s b0 l e v o)
   (fun e vals objs=>∃v o,Wk 100 (100+1) vals objs v o/\RYNat s b0 l e v o))):=by
 refine⟨?_⟩
 obtain⟨⟨b,acc,i⟩,inv⟩:=p
 have hle:i<=l.length:=inv.le
 have hlen:acc.length=i:=inv.len
 have hT:tops=140737488355328:=rfl
 show gItNatR (real Try.prog) MOrNat s b acc.length (mo (acc.flatMap cNat) 23 1) (rowsOf cSt l) (l.length:Int) (i:Int) _ _
 rw[gItNatR_eq]
 refine n_ltN (fun hlt=>?_) (fun hge=>?_)
 ·have hy:l[i]?=some l[i]:=List.getElem?_eq_getElem hlt
  generalize l[i]=y at hy
  have hms:l.length-(i+1)<l.length-i:=by omega
  have hwk:∀(b':Bool) (x:Nat) (o1 o2 o3:Option AObj),Wk 100 (100+1) [pA 100,.func (.func 79) ⟨[]⟩ ⟨[]⟩,.slice (some ⟨100+4,0,none⟩) (acc.length+1) (acc.length+1),dsl (rowsOf cSt l),.int .i64 (l.length:Int),.int .i64 ((i+1:Nat):Int)] [some (rdC s b'),o1,o2,o3,some (.cells (acc.flatMap cNat++cNat x) 23 1 true true)]
    [pA 100,.func (.func 79) ⟨[]⟩ ⟨[]⟩,mkS 101 (acc++[x]).length,dsl (rowsOf cSt l),.int .i64 (l.length:Int),.int .i64 ((i+1:Nat):Int)] [some (rdC s b'),mo ((acc++[x]).flatMap cNat) 23 1]:=by
   intro b' x o1 o2 o3
   have hcell:acc.flatMap cNat++cNat x=(acc++[x]).flatMap cNat:=by simp
   have hacc:(acc++[x]).length=acc.length+1:=by simp
   show Wk 100 (100+1) _ _ ([pA 100,.func (.func 79) ⟨[]⟩ ⟨[]⟩]++mkS (100+1) (acc++[x]).length::[dsl (rowsOf cSt l),.int .i64 (l.length:Int),.int .i64 ((i+1:Nat):Int)]) ([some (rdC s b')]++[mo ((acc++[x]).flatMap cNat) 23 1])
   rw[←hcell,mo_ne (by simp[cNat]),hacc]
   exact wk_outG (k0:=1) (j:=4) (va:=[pA 100,.func (.func 79) ⟨[]⟩ ⟨[]⟩]) (by omega) rfl (by rw[hcell];exact beYNat _) rfl rfl (by omega) rfl (pre1 rfl rfl)
  refine n_dget i rfl (strRow_get hy) rfl (n_rdS (z:=y) rfl ⟨fun x hx=>?_,fun hx x=>?_⟩)
  ·refine n_base_mo (flat_len (c:=cNat) (fun _=>rfl) acc) (by omega) (n_appX (by omega) rfl rfl (by omega) (by omega) ?_)
   cases b with
   |true=>exact n_inc (by omega) ⟨rfl,⟨(true,acc++[x],i+1),inv.next hy hx⟩,hms,hwk true x _ _ _,fun _ _ _ h=>h⟩
   |false=>exact n_inc (by omega) ⟨rfl,⟨(false,acc++[x],i+1),inv.next hy hx⟩,hms,hwk false x _ _ _,fun _ _ _ h=>h⟩
  ·refine n_base_mo (flat_len (c:=cNat) (fun _=>rfl) acc) (by omega) (n_appX (by omega) rfl rfl (by omega) (by omega) ?_)
   cases b with
   |true=>exact n_inc (by omega) ⟨rfl,⟨(true,acc++[x],i+1),inv.fail hy hx⟩,hms,hwk true x _ _ _,fun _ _ _ h=>h⟩
   |false=>exact n_inc (by omega) ⟨rfl,⟨(true,acc++[x],i+1),inv.fail hy hx⟩,hms,hwk true x _ _ _,fun _ _ _ h=>h⟩
 ·have e:i=l.length:=by omega
  subst e
  exact⟨rfl,_,_,Wk.refl _ _ _ _,b,acc,inv,rfl,rfl,rfl⟩
def LYrNat(s:ByteArray):LYNat:=fun c n vals obs A=>∃(b0:Bool) (l:List ByteArray),l.length<=32/\c=loopIn Try.prog 78 5/\n=59/\vals=[pA 100,.func (.func 79) ⟨[]⟩ ⟨[]⟩,.slice none 0 0,dsl (rowsOf cSt l),.int .i64 (Int.ofNat l.length),.int .i64 (0:Int)]/\obs=[some (rdC s b0)]/\
 ∀b acc,Got rdNat b0 l b acc l.length->A b acc.length (mo (acc.flatMap cNat) 23 1)
theorem lpYNat(s:ByteArray):LoopOk Try.prog 100 [0,2,9,33,34,35] (sLyNat (LYrNat s)):=by
 show LoopOk Try.prog 100 [0,2,9,33,34,35] (lpS [0,2,9] _)
 refine lp_mk okp (W:=howOf (syB 101) Zp [(79,sOneNat MOrNat)] [] [] []) (kn_ok (fun x hx=>by simp only[List.mem_singleton]at hx;subst hx;exact okOneNat) (fun x hx=>by cases hx)) lp_none ?_
 intro c n vals obs K h
 split at h<;>try exact h.elim
 obtain⟨b0,l,hl,hc,hn,hv,ho,hA⟩:=h
 subst hc;subst hn
 simp only[rdC,List.cons.injEq,Option.some.injEq,AObj.cells.injEq]at hv ho
 obtain⟨rfl,rfl,rfl⟩:=hv
 obtain⟨⟨⟨rfl,rfl,_⟩,rfl,rfl,rfl,rfl⟩,rfl⟩:=ho
 refine⟨StY rdNat b0 l,1,300,fun p=>l.length-p.1.2.2,IYNat s b0 l,fun _ e v o=>RYNat s b0 l e v o,⟨(b0,[],0),⟨Nat.zero_le _,rfl,fun h=>⟨h,rfl⟩,fun h => .inl h⟩⟩,rfl,?_,?_,rndYNat s b0 l hl⟩
 ·exact wk_nilG (va:=[pA 100,.func (.func 79) ⟨[]⟩ ⟨[]⟩])
 intro e v o hR
 obtain⟨b,acc,h1,rfl,rfl,rfl⟩:=hR
 exact hA b acc h1
def QINat(s:ByteArray)(t:Nat):RK:=fun v objs=>∃(l:List Nat) (b:Bool),((b=false/\getL rdNat t s.data.toList=some l)∨(b=true/\getL rdNat t s.data.toList=none))/\Wk 100 (100+1) [v] objs [dsl (rowsOf cNat l)] [some (rdC s b)]
theorem wkINat{s:ByteArray}{b:Bool}{l:List Nat}:Wk 100 (100+1) [mkS 101 l.length] [some (rdC s b),mo (l.flatMap cNat) 23 1] [dsl (rowsOf cNat l)] [some (rdC s b)]:=
 (wk_set_frzM 0 1 (objs:=[some (rdC s b),mo (l.flatMap cNat) 23 1]) rfl rfl (flat_of (c:=cNat) (n:=1) (fun _=>rfl) l) (beYNat l) (by omega) (rowsOf_len _ _).symm).trans (wk_drop (k0:=1) (pre:=[some (rdC s b)]) (extra:=[none]) rfl rfl (fun i o h=>(pre1 (a:=rdC s b) rfl (objs:=[some (rdC s b)]) rfl i o h).2))
theorem itCNat(s:ByteArray)(t:Nat)(ht:t<=32):Is (gItNat (real Try.prog) MRL (LYrNat s) s (t:Int) (QINat s t)):=by
 refine⟨?_⟩
 rw[gItNat_eq]
 refine⟨t,rfl,by omega,fun h0=>n_dlen _ (rowsOf_len _ _) ⟨false,_,lst_len ht,rfl,rfl,rfl,rfl,fun b acc hg=>⟨acc,b,?_,wkINat⟩⟩,fun h3=>n_dlen 0 rfl ⟨true,[],by simp,rfl,rfl,rfl,rfl,fun b acc hg=>⟨acc,b,.inr ?_,wkINat⟩⟩,fun h4=>n_dlen 0 rfl ⟨true,[],by simp,rfl,rfl,rfl,rfl,fun b acc hg=>⟨acc,b,.inr ?_,wkINat⟩⟩⟩
 ·unfold getL;rw[if_pos h0]
  cases b with
  |false=>
   have:=(hg.well rfl).2
   rw[List.take_length]at this
   exact .inl ⟨rfl,this⟩
  |true=>exact .inr ⟨rfl,(hg.bad rfl).resolve_left (by simp)⟩
 ·unfold getL;rw[if_neg (by omega)]
  cases b with
  |false=>exact absurd (hg.well rfl).1 (by simp)
  |true=>exact⟨rfl,rfl⟩
 ·unfold getL;rw[if_neg (by omega)]
  cases b with
  |false=>exact absurd (hg.well rfl).1 (by simp)
  |true=>exact⟨rfl,rfl⟩
theorem okItNat:SumOk Try.prog 100 78 (sItems 79 (MItr rdNat cNat)):=by
 intro args H K h
 unfold sItems at h
 split at h<;>try exact h.elim
 rename_i p m g
 split at h<;>try exact h.elim
 rename_i s e sz lo ow hg
 split at h<;>try exact h.elim
 rename_i hc
 simp only[Bool.and_eq_true]at hc
 obtain⟨⟨hc1,hc2⟩,hc3⟩:=hc
 rw[isRd_eq hc1]at hg
 obtain rfl:=Nat.eq_of_beq_eq_true hc3
 obtain⟨t,rfl,ht,hA,hE⟩:=h
 obtain⟨v,objs,⟨l,b,hb,hw⟩,hC⟩:=call_okI (kn_pu (pu_one1 puRL)) (lp_ok (fun x hx=>by simp only[List.mem_singleton]at hx;subst hx;exact lpYNat s)) (itCNat s t ht)
 have hC2:∀B,CallH Try.prog 100 B 78 (pA 100::[.int .i64 (t:Int),.func (.func 79) ⟨[]⟩ ⟨[]⟩]) (hR s) (.returned (dsl (rowsOf cNat l))) (hOf 100 [] [some (rdC s b)]):=fun B=>call_wk (hC B) hw
 rcases hb with⟨rfl,hx⟩ | ⟨rfl,hx⟩
 ·exact⟨_,_,fun B=>rd_any rfl rfl hC2 hg hc2 B,hA l hx⟩
 ·exact⟨_,_,fun B=>rd_any rfl rfl hC2 hg hc2 B,hE hx l⟩
def IYInstr(s:ByteArray)(b0:Bool)(l:List ByteArray)(p:StY rdInstr b0 l):List Value×List (Option AObj):=
 ([pA 100,.func (.func 83) ⟨[]⟩ ⟨[]⟩,mkS 101 p.1.2.1.length,dsl (rowsOf cSt l),.int .i64 (l.length:Int),.int .i64 (p.1.2.2:Int)],[some (rdC s p.1.1),mo (p.1.2.1.flatMap cInstr) 70 7])
def RYInstr(s:ByteArray)(b0:Bool)(l:List ByteArray)(e:Exit)(v:List Value)(o:List (Option AObj)):Prop:=
 ∃b acc,Got rdInstr b0 l b acc l.length/\e = .exit 0/\v=[pA 100,.func (.func 83) ⟨[]⟩ ⟨[]⟩,mkS 101 acc.length]/\o=[some (rdC s b),mo (acc.flatMap cInstr) 70 7]
theorem beYInstr(l:List Instr):belowL 0 (l.flatMap cInstr)=true:=below_of (c:=cInstr) (fun _ _ h=>h) l
theorem rndYInstr(s:ByteArray)(b0:Bool)(l:List ByteArray)(hl:l.length<=32)(p:StY rdInstr b0 l):
  Is (wpe Try.prog (real Try.prog) (howOf (syB 101) Zp [(83,sOneInstr MOrInstr)] [] [] []) 300 (.code false (loopIn Try.prog 82 5) (stOf 100 59 [0,2,9,33,34,35] [] (IYInstr s b0 l p))) (roundQ 100 [0,2,9,33,34,35] [0,2,9] 59 []
   (fun vals objs=>∃a':StY rdInstr b0 l,l.length-a'.1.2.2<l.length-p.1.2.2/\Wk 100 (100+1) vals objs (IYInstr s b0 l a').1 (IYInstr s b0 l a').2/\∀e v o,RYInstr s b0 l e v o->RYInstr s b0 l e v o)
   (fun e vals objs=>∃v o,Wk 100 (100+1) vals objs v o/\RYInstr s b0 l e v o))):=by
 refine⟨?_⟩
 obtain⟨⟨b,acc,i⟩,inv⟩:=p
 have hle:i<=l.length:=inv.le
 have hlen:acc.length=i:=inv.len
 have hT:tops=140737488355328:=rfl
 show gItInstrR (real Try.prog) MOrInstr s b acc.length (mo (acc.flatMap cInstr) 70 7) (rowsOf cSt l) (l.length:Int) (i:Int) _ _
 rw[gItInstrR_eq]
 refine n_ltN (fun hlt=>?_) (fun hge=>?_)
 ·have hy:l[i]?=some l[i]:=List.getElem?_eq_getElem hlt
  generalize l[i]=y at hy
  have hms:l.length-(i+1)<l.length-i:=by omega
  have hwk:∀(b':Bool) (x:Instr) (o1 o2 o3:Option AObj),Wk 100 (100+1) [pA 100,.func (.func 83) ⟨[]⟩ ⟨[]⟩,.slice (some ⟨100+4,0,none⟩) (acc.length+1) (acc.length+1),dsl (rowsOf cSt l),.int .i64 (l.length:Int),.int .i64 ((i+1:Nat):Int)] [some (rdC s b'),o1,o2,o3,some (.cells (acc.flatMap cInstr++cInstr x) 70 7 true true)]
    [pA 100,.func (.func 83) ⟨[]⟩ ⟨[]⟩,mkS 101 (acc++[x]).length,dsl (rowsOf cSt l),.int .i64 (l.length:Int),.int .i64 ((i+1:Nat):Int)] [some (rdC s b'),mo ((acc++[x]).flatMap cInstr) 70 7]:=by
   intro b' x o1 o2 o3
   have hcell:acc.flatMap cInstr++cInstr x=(acc++[x]).flatMap cInstr:=by simp
   have hacc:(acc++[x]).length=acc.length+1:=by simp
   show Wk 100 (100+1) _ _ ([pA 100,.func (.func 83) ⟨[]⟩ ⟨[]⟩]++mkS (100+1) (acc++[x]).length::[dsl (rowsOf cSt l),.int .i64 (l.length:Int),.int .i64 ((i+1:Nat):Int)]) ([some (rdC s b')]++[mo ((acc++[x]).flatMap cInstr) 70 7])
   rw[←hcell,mo_ne (by simp[cInstr]),hacc]
   exact wk_outG (k0:=1) (j:=4) (va:=[pA 100,.func (.func 83) ⟨[]⟩ ⟨[]⟩]) (by omega) rfl (by rw[hcell];exact beYInstr _) rfl rfl (by omega) rfl (pre1 rfl rfl)
  refine n_dget i rfl (strRow_get hy) rfl (n_rdS (z:=y) rfl ⟨fun x hx=>?_,fun hx x=>?_⟩)
  ·refine n_base_mo (flat_len (c:=cInstr) (fun _=>rfl) acc) (by omega) (n_appX (by omega) rfl rfl (by omega) (by omega) ?_)
   cases b with
   |true=>exact n_inc (by omega) ⟨rfl,⟨(true,acc++[x],i+1),inv.next hy hx⟩,hms,hwk true x _ _ _,fun _ _ _ h=>h⟩
   |false=>exact n_inc (by omega) ⟨rfl,⟨(false,acc++[x],i+1),inv.next hy hx⟩,hms,hwk false x _ _ _,fun _ _ _ h=>h⟩
  ·refine n_base_mo (flat_len (c:=cInstr) (fun _=>rfl) acc) (by omega) (n_appX (by omega) rfl rfl (by omega) (by omega) ?_)
   cases b with
   |true=>exact n_inc (by omega) ⟨rfl,⟨(true,acc++[x],i+1),inv.fail hy hx⟩,hms,hwk true x _ _ _,fun _ _ _ h=>h⟩
   |false=>exact n_inc (by omega) ⟨rfl,⟨(true,acc++[x],i+1),inv.fail hy hx⟩,hms,hwk true x _ _ _,fun _ _ _ h=>h⟩
 ·have e:i=l.length:=by omega
  subst e
  exact⟨rfl,_,_,Wk.refl _ _ _ _,b,acc,inv,rfl,rfl,rfl⟩
def LYrInstr(s:ByteArray):LYInstr:=fun c n vals obs A=>∃(b0:Bool) (l:List ByteArray),l.length<=32/\c=loopIn Try.prog 82 5/\n=59/\vals=[pA 100,.func (.func 83) ⟨[]⟩ ⟨[]⟩,.slice none 0 0,dsl (rowsOf cSt l),.int .i64 (Int.ofNat l.length),.int .i64 (0:Int)]/\obs=[some (rdC s b0)]/\
 ∀b acc,Got rdInstr b0 l b acc l.length->A b acc.length (mo (acc.flatMap cInstr) 70 7)
theorem lpYInstr(s:ByteArray):LoopOk Try.prog 100 [0,2,9,33,34,35] (sLyInstr (LYrInstr s)):=by
 show LoopOk Try.prog 100 [0,2,9,33,34,35] (lpS [0,2,9] _)
 refine lp_mk okp (W:=howOf (syB 101) Zp [(83,sOneInstr MOrInstr)] [] [] []) (kn_ok (fun x hx=>by simp only[List.mem_singleton]at hx;subst hx;exact okOneInstr) (fun x hx=>by cases hx)) lp_none ?_
 intro c n vals obs K h
 split at h<;>try exact h.elim
 obtain⟨b0,l,hl,hc,hn,hv,ho,hA⟩:=h
 subst hc;subst hn
 simp only[rdC,List.cons.injEq,Option.some.injEq,AObj.cells.injEq]at hv ho
 obtain⟨rfl,rfl,rfl⟩:=hv
 obtain⟨⟨⟨rfl,rfl,_⟩,rfl,rfl,rfl,rfl⟩,rfl⟩:=ho
 refine⟨StY rdInstr b0 l,1,300,fun p=>l.length-p.1.2.2,IYInstr s b0 l,fun _ e v o=>RYInstr s b0 l e v o,⟨(b0,[],0),⟨Nat.zero_le _,rfl,fun h=>⟨h,rfl⟩,fun h => .inl h⟩⟩,rfl,?_,?_,rndYInstr s b0 l hl⟩
 ·exact wk_nilG (va:=[pA 100,.func (.func 83) ⟨[]⟩ ⟨[]⟩])
 intro e v o hR
 obtain⟨b,acc,h1,rfl,rfl,rfl⟩:=hR
 exact hA b acc h1
def QIInstr(s:ByteArray)(t:Nat):RK:=fun v objs=>∃(l:List Instr) (b:Bool),((b=false/\getL rdInstr t s.data.toList=some l)∨(b=true/\getL rdInstr t s.data.toList=none))/\Wk 100 (100+1) [v] objs [dsl (rowsOf cInstr l)] [some (rdC s b)]
theorem wkIInstr{s:ByteArray}{b:Bool}{l:List Instr}:Wk 100 (100+1) [mkS 101 l.length] [some (rdC s b),mo (l.flatMap cInstr) 70 7] [dsl (rowsOf cInstr l)] [some (rdC s b)]:=
 (wk_set_frzM 0 1 (objs:=[some (rdC s b),mo (l.flatMap cInstr) 70 7]) rfl rfl (flat_of (c:=cInstr) (n:=7) (fun _=>rfl) l) (beYInstr l) (by omega) (rowsOf_len _ _).symm).trans (wk_drop (k0:=1) (pre:=[some (rdC s b)]) (extra:=[none]) rfl rfl (fun i o h=>(pre1 (a:=rdC s b) rfl (objs:=[some (rdC s b)]) rfl i o h).2))
theorem itCInstr(s:ByteArray)(t:Nat)(ht:t<=32):Is (gItInstr (real Try.prog) MRL (LYrInstr s) s (t:Int) (QIInstr s t)):=by
 refine⟨?_⟩
 rw[gItInstr_eq]
 refine⟨t,rfl,by omega,fun h0=>n_dlen _ (rowsOf_len _ _) ⟨false,_,lst_len ht,rfl,rfl,rfl,rfl,fun b acc hg=>⟨acc,b,?_,wkIInstr⟩⟩,fun h3=>n_dlen 0 rfl ⟨true,[],by simp,rfl,rfl,rfl,rfl,fun b acc hg=>⟨acc,b,.inr ?_,wkIInstr⟩⟩,fun h4=>n_dlen 0 rfl ⟨true,[],by simp,rfl,rfl,rfl,rfl,fun b acc hg=>⟨acc,b,.inr ?_,wkIInstr⟩⟩⟩
 ·unfold getL;rw[if_pos h0]
  cases b with
  |false=>
   have:=(hg.well rfl).2
   rw[List.take_length]at this
   exact .inl ⟨rfl,this⟩
  |true=>exact .inr ⟨rfl,(hg.bad rfl).resolve_left (by simp)⟩
 ·unfold getL;rw[if_neg (by omega)]
  cases b with
  |false=>exact absurd (hg.well rfl).1 (by simp)
  |true=>exact⟨rfl,rfl⟩
 ·unfold getL;rw[if_neg (by omega)]
  cases b with
  |false=>exact absurd (hg.well rfl).1 (by simp)
  |true=>exact⟨rfl,rfl⟩
theorem okItInstr:SumOk Try.prog 100 82 (sItems 83 (MItr rdInstr cInstr)):=by
 intro args H K h
 unfold sItems at h
 split at h<;>try exact h.elim
 rename_i p m g
 split at h<;>try exact h.elim
 rename_i s e sz lo ow hg
 split at h<;>try exact h.elim
 rename_i hc
 simp only[Bool.and_eq_true]at hc
 obtain⟨⟨hc1,hc2⟩,hc3⟩:=hc
 rw[isRd_eq hc1]at hg
 obtain rfl:=Nat.eq_of_beq_eq_true hc3
 obtain⟨t,rfl,ht,hA,hE⟩:=h
 obtain⟨v,objs,⟨l,b,hb,hw⟩,hC⟩:=call_okI (kn_pu (pu_one1 puRL)) (lp_ok (fun x hx=>by simp only[List.mem_singleton]at hx;subst hx;exact lpYInstr s)) (itCInstr s t ht)
 have hC2:∀B,CallH Try.prog 100 B 82 (pA 100::[.int .i64 (t:Int),.func (.func 83) ⟨[]⟩ ⟨[]⟩]) (hR s) (.returned (dsl (rowsOf cInstr l))) (hOf 100 [] [some (rdC s b)]):=fun B=>call_wk (hC B) hw
 rcases hb with⟨rfl,hx⟩ | ⟨rfl,hx⟩
 ·exact⟨_,_,fun B=>rd_any rfl rfl hC2 hg hc2 B,hA l hx⟩
 ·exact⟨_,_,fun B=>rd_any rfl rfl hC2 hg hc2 B,hE hx l⟩
def IYBucket(s:ByteArray)(b0:Bool)(l:List ByteArray)(p:StY rdBucket b0 l):List Value×List (Option AObj):=
 ([pA 100,.func (.func 86) ⟨[]⟩ ⟨[]⟩,mkS 101 p.1.2.1.length,dsl (rowsOf cSt l),.int .i64 (l.length:Int),.int .i64 (p.1.2.2:Int)],[some (rdC s p.1.1),mo (p.1.2.1.flatMap cBucket) 82 2])
def RYBucket(s:ByteArray)(b0:Bool)(l:List ByteArray)(e:Exit)(v:List Value)(o:List (Option AObj)):Prop:=
 ∃b acc,Got rdBucket b0 l b acc l.length/\e = .exit 0/\v=[pA 100,.func (.func 86) ⟨[]⟩ ⟨[]⟩,mkS 101 acc.length]/\o=[some (rdC s b),mo (acc.flatMap cBucket) 82 2]
theorem beYBucket(l:List Bucket):belowL 0 (l.flatMap cBucket)=true:=below_of (c:=cBucket) (fun _ _ h=>h) l
theorem rndYBucket(s:ByteArray)(b0:Bool)(l:List ByteArray)(hl:l.length<=32)(p:StY rdBucket b0 l):
  Is (wpe Try.prog (real Try.prog) (howOf (syB 101) Zp [(86,sOneBucket MOrBucket)] [] [] []) 300 (.code false (loopIn Try.prog 85 5) (stOf 100 59 [0,2,9,33,34,35] [] (IYBucket s b0 l p))) (roundQ 100 [0,2,9,33,34,35] [0,2,9] 59 []
   (fun vals objs=>∃a':StY rdBucket b0 l,l.length-a'.1.2.2<l.length-p.1.2.2/\Wk 100 (100+1) vals objs (IYBucket s b0 l a').1 (IYBucket s b0 l a').2/\∀e v o,RYBucket s b0 l e v o->RYBucket s b0 l e v o)
   (fun e vals objs=>∃v o,Wk 100 (100+1) vals objs v o/\RYBucket s b0 l e v o))):=by
 refine⟨?_⟩
 obtain⟨⟨b,acc,i⟩,inv⟩:=p
 have hle:i<=l.length:=inv.le
 have hlen:acc.length=i:=inv.len
 have hT:tops=140737488355328:=rfl
 show gItBucketR (real Try.prog) MOrBucket s b acc.length (mo (acc.flatMap cBucket) 82 2) (rowsOf cSt l) (l.length:Int) (i:Int) _ _
 rw[gItBucketR_eq]
 refine n_ltN (fun hlt=>?_) (fun hge=>?_)
 ·have hy:l[i]?=some l[i]:=List.getElem?_eq_getElem hlt
  generalize l[i]=y at hy
  have hms:l.length-(i+1)<l.length-i:=by omega
  have hwk:∀(b':Bool) (x:Bucket) (o1 o2 o3:Option AObj),Wk 100 (100+1) [pA 100,.func (.func 86) ⟨[]⟩ ⟨[]⟩,.slice (some ⟨100+4,0,none⟩) (acc.length+1) (acc.length+1),dsl (rowsOf cSt l),.int .i64 (l.length:Int),.int .i64 ((i+1:Nat):Int)] [some (rdC s b'),o1,o2,o3,some (.cells (acc.flatMap cBucket++cBucket x) 82 2 true true)]
    [pA 100,.func (.func 86) ⟨[]⟩ ⟨[]⟩,mkS 101 (acc++[x]).length,dsl (rowsOf cSt l),.int .i64 (l.length:Int),.int .i64 ((i+1:Nat):Int)] [some (rdC s b'),mo ((acc++[x]).flatMap cBucket) 82 2]:=by
   intro b' x o1 o2 o3
   have hcell:acc.flatMap cBucket++cBucket x=(acc++[x]).flatMap cBucket:=by simp
   have hacc:(acc++[x]).length=acc.length+1:=by simp
   show Wk 100 (100+1) _ _ ([pA 100,.func (.func 86) ⟨[]⟩ ⟨[]⟩]++mkS (100+1) (acc++[x]).length::[dsl (rowsOf cSt l),.int .i64 (l.length:Int),.int .i64 ((i+1:Nat):Int)]) ([some (rdC s b')]++[mo ((acc++[x]).flatMap cBucket) 82 2])
   rw[←hcell,mo_ne (by simp[cBucket]),hacc]
   exact wk_outG (k0:=1) (j:=4) (va:=[pA 100,.func (.func 86) ⟨[]⟩ ⟨[]⟩]) (by omega) rfl (by rw[hcell];exact beYBucket _) rfl rfl (by omega) rfl (pre1 rfl rfl)
  refine n_dget i rfl (strRow_get hy) rfl (n_rdS (z:=y) rfl ⟨fun x hx=>?_,fun hx x=>?_⟩)
  ·refine n_base_mo (flat_len (c:=cBucket) (fun _=>rfl) acc) (by omega) (n_appX (by omega) rfl rfl (by omega) (by omega) ?_)
   cases b with
   |true=>exact n_inc (by omega) ⟨rfl,⟨(true,acc++[x],i+1),inv.next hy hx⟩,hms,hwk true x _ _ _,fun _ _ _ h=>h⟩
   |false=>exact n_inc (by omega) ⟨rfl,⟨(false,acc++[x],i+1),inv.next hy hx⟩,hms,hwk false x _ _ _,fun _ _ _ h=>h⟩
  ·refine n_base_mo (flat_len (c:=cBucket) (fun _=>rfl) acc) (by omega) (n_appX (by omega) rfl rfl (by omega) (by omega) ?_)
   cases b with
   |true=>exact n_inc (by omega) ⟨rfl,⟨(true,acc++[x],i+1),inv.fail hy hx⟩,hms,hwk true x _ _ _,fun _ _ _ h=>h⟩
   |false=>exact n_inc (by omega) ⟨rfl,⟨(true,acc++[x],i+1),inv.fail hy hx⟩,hms,hwk true x _ _ _,fun _ _ _ h=>h⟩
 ·have e:i=l.length:=by omega
  subst e
  exact⟨rfl,_,_,Wk.refl _ _ _ _,b,acc,inv,rfl,rfl,rfl⟩
def LYrBucket(s:ByteArray):LYBucket:=fun c n vals obs A=>∃(b0:Bool) (l:List ByteArray),l.length<=32/\c=loopIn Try.prog 85 5/\n=59/\vals=[pA 100,.func (.func 86) ⟨[]⟩ ⟨[]⟩,.slice none 0 0,dsl (rowsOf cSt l),.int .i64 (Int.ofNat l.length),.int .i64 (0:Int)]/\obs=[some (rdC s b0)]/\
 ∀b acc,Got rdBucket b0 l b acc l.length->A b acc.length (mo (acc.flatMap cBucket) 82 2)
theorem lpYBucket(s:ByteArray):LoopOk Try.prog 100 [0,2,9,33,34,35] (sLyBucket (LYrBucket s)):=by
 show LoopOk Try.prog 100 [0,2,9,33,34,35] (lpS [0,2,9] _)
 refine lp_mk okp (W:=howOf (syB 101) Zp [(86,sOneBucket MOrBucket)] [] [] []) (kn_ok (fun x hx=>by simp only[List.mem_singleton]at hx;subst hx;exact okOneBucket) (fun x hx=>by cases hx)) lp_none ?_
 intro c n vals obs K h
 split at h<;>try exact h.elim
 obtain⟨b0,l,hl,hc,hn,hv,ho,hA⟩:=h
 subst hc;subst hn
 simp only[rdC,List.cons.injEq,Option.some.injEq,AObj.cells.injEq]at hv ho
 obtain⟨rfl,rfl,rfl⟩:=hv
 obtain⟨⟨⟨rfl,rfl,_⟩,rfl,rfl,rfl,rfl⟩,rfl⟩:=ho
 refine⟨StY rdBucket b0 l,1,300,fun p=>l.length-p.1.2.2,IYBucket s b0 l,fun _ e v o=>RYBucket s b0 l e v o,⟨(b0,[],0),⟨Nat.zero_le _,rfl,fun h=>⟨h,rfl⟩,fun h => .inl h⟩⟩,rfl,?_,?_,rndYBucket s b0 l hl⟩
 ·exact wk_nilG (va:=[pA 100,.func (.func 86) ⟨[]⟩ ⟨[]⟩])
 intro e v o hR
 obtain⟨b,acc,h1,rfl,rfl,rfl⟩:=hR
 exact hA b acc h1
def QIBucket(s:ByteArray)(t:Nat):RK:=fun v objs=>∃(l:List Bucket) (b:Bool),((b=false/\getL rdBucket t s.data.toList=some l)∨(b=true/\getL rdBucket t s.data.toList=none))/\Wk 100 (100+1) [v] objs [dsl (rowsOf cBucket l)] [some (rdC s b)]
theorem wkIBucket{s:ByteArray}{b:Bool}{l:List Bucket}:Wk 100 (100+1) [mkS 101 l.length] [some (rdC s b),mo (l.flatMap cBucket) 82 2] [dsl (rowsOf cBucket l)] [some (rdC s b)]:=
 (wk_set_frzM 0 1 (objs:=[some (rdC s b),mo (l.flatMap cBucket) 82 2]) rfl rfl (flat_of (c:=cBucket) (n:=2) (fun _=>rfl) l) (beYBucket l) (by omega) (rowsOf_len _ _).symm).trans (wk_drop (k0:=1) (pre:=[some (rdC s b)]) (extra:=[none]) rfl rfl (fun i o h=>(pre1 (a:=rdC s b) rfl (objs:=[some (rdC s b)]) rfl i o h).2))
theorem itCBucket(s:ByteArray)(t:Nat)(ht:t<=32):Is (gItBucket (real Try.prog) MRL (LYrBucket s) s (t:Int) (QIBucket s t)):=by
 refine⟨?_⟩
 rw[gItBucket_eq]
 refine⟨t,rfl,by omega,fun h0=>n_dlen _ (rowsOf_len _ _) ⟨false,_,lst_len ht,rfl,rfl,rfl,rfl,fun b acc hg=>⟨acc,b,?_,wkIBucket⟩⟩,fun h3=>n_dlen 0 rfl ⟨true,[],by simp,rfl,rfl,rfl,rfl,fun b acc hg=>⟨acc,b,.inr ?_,wkIBucket⟩⟩,fun h4=>n_dlen 0 rfl ⟨true,[],by simp,rfl,rfl,rfl,rfl,fun b acc hg=>⟨acc,b,.inr ?_,wkIBucket⟩⟩⟩
 ·unfold getL;rw[if_pos h0]
  cases b with
  |false=>
   have:=(hg.well rfl).2
   rw[List.take_length]at this
   exact .inl ⟨rfl,this⟩
  |true=>exact .inr ⟨rfl,(hg.bad rfl).resolve_left (by simp)⟩
 ·unfold getL;rw[if_neg (by omega)]
  cases b with
  |false=>exact absurd (hg.well rfl).1 (by simp)
  |true=>exact⟨rfl,rfl⟩
 ·unfold getL;rw[if_neg (by omega)]
  cases b with
  |false=>exact absurd (hg.well rfl).1 (by simp)
  |true=>exact⟨rfl,rfl⟩
theorem okItBucket:SumOk Try.prog 100 85 (sItems 86 (MItr rdBucket cBucket)):=by
 intro args H K h
 unfold sItems at h
 split at h<;>try exact h.elim
 rename_i p m g
 split at h<;>try exact h.elim
 rename_i s e sz lo ow hg
 split at h<;>try exact h.elim
 rename_i hc
 simp only[Bool.and_eq_true]at hc
 obtain⟨⟨hc1,hc2⟩,hc3⟩:=hc
 rw[isRd_eq hc1]at hg
 obtain rfl:=Nat.eq_of_beq_eq_true hc3
 obtain⟨t,rfl,ht,hA,hE⟩:=h
 obtain⟨v,objs,⟨l,b,hb,hw⟩,hC⟩:=call_okI (kn_pu (pu_one1 puRL)) (lp_ok (fun x hx=>by simp only[List.mem_singleton]at hx;subst hx;exact lpYBucket s)) (itCBucket s t ht)
 have hC2:∀B,CallH Try.prog 100 B 85 (pA 100::[.int .i64 (t:Int),.func (.func 86) ⟨[]⟩ ⟨[]⟩]) (hR s) (.returned (dsl (rowsOf cBucket l))) (hOf 100 [] [some (rdC s b)]):=fun B=>call_wk (hC B) hw
 rcases hb with⟨rfl,hx⟩ | ⟨rfl,hx⟩
 ·exact⟨_,_,fun B=>rd_any rfl rfl hC2 hg hc2 B,hA l hx⟩
 ·exact⟨_,_,fun B=>rd_any rfl rfl hC2 hg hc2 B,hE hx l⟩
end
end Go.Proofs.Ytblbaohcelldpaa.Ob
