/- . -/
import Derived.Test.YtblbaohcelldpaaGreatDoorU4
set_option linter.all false
set_option maxRecDepth 100000
namespace Go.Tlv
open Go Go.Abs
theorem XP{α β:Type}{f:α->Option β}:∀ {l:List α} {i:Nat} {y:α},l[i]?=some y->f y=none->H5 f l=none
 | [],i,y,h,_=>by simp at h
 |a::l,0,y,h,hf=>by
  simp only[List.getElem?_cons_zero,Option.some.injEq]at h;subst h
  simp only[H5,hf]
 |a::l,i+1,y,h,hf=>by
  have:=XP (l:=l) (i:=i) (by simpa using h) hf
  simp only[H5,this]
  cases f a<;>rfl
theorem YU{α β:Type}{f:α->Option β}{l:List α}{i:Nat}{y:α}{acc:List β}{x:β}(h:l[i]?=some y)(h1:H5 f (l.take i)=some acc)(h2:f y=some x):H5 f (l.take (i+1))=some (acc++[x]):=by
 rw[List.take_add_one,h,rR,h1]
 simp[H5,h2]
structure Got{α:Type}(rd:List UInt8->Option α)(b0:Bool)(l:List ByteArray)(b:Bool)(acc:List α)(i:Nat):Prop where
 le:i<=l.length
 len:acc.length=i
 well:b=false->b0=false/\H5 (fun s=>rd s.data.toList) (l.take i)=some acc
 bad:b=true->b0=true∨H5 (fun s=>rd s.data.toList) l=none
abbrev StY{α:Type}(rd:List UInt8->Option α)(b0:Bool)(l:List ByteArray):={p:Bool×List α×Nat // Got rd b0 l p.1 p.2.1 p.2.2}
theorem Got.next{α:Type}{rd:List UInt8->Option α}{b0 b:Bool}{l:List ByteArray}{acc:List α}{i:Nat}(h:Got rd b0 l b acc i){y:ByteArray}{x:α}(hy:l[i]?=some y)(hx:rd y.data.toList=some x):Got rd b0 l b (acc++[x]) (i+1):=
 ⟨(List.getElem?_eq_some_iff.1 hy).1,by simp[h.len],fun hb=>⟨(h.well hb).1,YU hy (h.well hb).2 hx⟩,h.bad⟩
theorem Got.fail{α:Type}{rd:List UInt8->Option α}{b0 b:Bool}{l:List ByteArray}{acc:List α}{i:Nat}(h:Got rd b0 l b acc i){y:ByteArray}{x:α}(hy:l[i]?=some y)(hx:rd y.data.toList=none):Got rd b0 l true (acc++[x]) (i+1):=
 ⟨(List.getElem?_eq_some_iff.1 hy).1,by simp[h.len],fun hb=>(by cases hb),fun _ => .inr (XP (f:=fun s:ByteArray=>rd s.data.toList) hy hx)⟩
end Go.Tlv
namespace Go.Proofs.Ob
open Go Go.Abs Go.Tlv
noncomputable section
def PX{α:Type}(rd:List UInt8->Option α)(c:α->Lv):MIt:=fun s m A E=>∃t:Nat,m=t/\t<=32/\(∀l,D9 rd t s.data.toList=some l->A (rowsOf c l))/\(D9 rd t s.data.toList=none->∀l:List α,E (rowsOf c l))
theorem F8{α:Type}{c:α->Lv}{n:Nat}(hc:∀x,(c x).length=n)(l:List α):(l.flatMap c).length=l.length*n:=by
 induction l with
 |nil=>simp
 |cons a l ih=>rw[List.flatMap_cons,List.length_append,ih,hc a,List.length_cons,Nat.succ_mul];omega
theorem gI{a:AJ}(ha:C8 101 (some a)=true){AL:Lo}(h0:AL[0]?=some (some a)):
  ∀(i:Nat) o,([some a]:Lo)[i]?=some (some o)->AL[i]?=some (some o)/\C8 (100+1) (some o)=true:=by
 intro i o h
 cases i with
 |zero=>simp only[List.getElem?_cons_zero,Option.some.injEq]at h;subst h;exact⟨h0,ha⟩
 |succ i=>simp at h
theorem JE{l:List ByteArray}{i:Nat}{y:ByteArray}(h:l[i]?=some y):(rowsOf cSt l)[i]?=some (.agg ⟨[.string y]⟩):=E5 (c:=cSt) h
theorem UR{t:Nat}{s:List UInt8}(h:t<=32):(DK t 0 s).2.length<=32:=by
 by_cases h0:(DK t 0 s).1=0
 ·obtain⟨_,h2,_⟩:=UQ s.length s t 0 (DK t 0 s).2 (Nat.le_refl _) (Prod.ext h0 rfl)
  rcases h2 with h2|h2
  ·omega
  ·rw[h2];simp
 ·rw[MX _ _ _ h0];simp
def xK(s:ByteArray)(b0:Bool)(l:List ByteArray)(p:StY GI b0 l):Lv×Lo:=
 ([pA 100,.func (.func 162) ⟨[]⟩ ⟨[]⟩,mkS 101 p.1.2.1.length,dsl (rowsOf cSt l),.int .i64 (l.length:Int),.int .i64 (p.1.2.2:Int)],[some (rdC s p.1.1),mo (p.1.2.1.flatMap FV) 61 2])
def xZ(s:ByteArray)(b0:Bool)(l:List ByteArray)(e:Exit)(v:Lv)(o:Lo):Prop:=
 ∃b acc,Got GI b0 l b acc l.length/\e = .exit 0/\v=[pA 100,.func (.func 162) ⟨[]⟩ ⟨[]⟩,mkS 101 acc.length]/\o=[some (rdC s b),mo (acc.flatMap FV) 61 2]
theorem ABZ(l:List Arm):A8 0 (l.flatMap FV)=true:=MG (c:=FV) (fun _ _ h=>h) l
theorem AFP(s:ByteArray)(b0:Bool)(l:List ByteArray)(hl:l.length<=32)(p:StY GI b0 l):
  Is (wpe Tryz.prog (real Tryz.prog) (AU (syB 101) Zp [(162,X4 kR)] [] [] []) 300 (.code false (AO Tryz.prog 161 5) (C9 100 59 [0,2,9,33,34,35] [] (xK s b0 l p))) (BM 100 [0,2,9,33,34,35] [0,2,9] 59 []
   (fun AB AL=>∃a':StY GI b0 l,l.length-a'.1.2.2<l.length-p.1.2.2/\Wk 100 (100+1) AB AL (xK s b0 l a').1 (xK s b0 l a').2/\∀e v o,xZ s b0 l e v o->xZ s b0 l e v o)
   (fun e AB AL=>∃v o,Wk 100 (100+1) AB AL v o/\xZ s b0 l e v o))):=by
 refine⟨?_⟩
 obtain⟨⟨b,acc,i⟩,inv⟩:=p
 have hle:i<=l.length:=inv.le
 have hlen:acc.length=i:=inv.len
 have hT:JU=140737488355328:=rfl
 show yP (real Tryz.prog) kR s b acc.length (mo (acc.flatMap FV) 61 2) (rowsOf cSt l) (l.length:Int) (i:Int) _ _
 rw[uZ]
 refine DW (fun hlt=>?_) (fun hge=>?_)
 ·have hy:l[i]?=some l[i]:=List.getElem?_eq_getElem hlt
  generalize l[i]=y at hy
  have hms:l.length-(i+1)<l.length-i:=by omega
  have hwk:∀(b':Bool) (x:Arm) (o1 o2 o3:Option AJ),Wk 100 (100+1) [pA 100,.func (.func 162) ⟨[]⟩ ⟨[]⟩,.slice (some ⟨100+4,0,none⟩) (acc.length+1) (acc.length+1),dsl (rowsOf cSt l),.int .i64 (l.length:Int),.int .i64 ((i+1:Nat):Int)] [some (rdC s b'),o1,o2,o3,some (.cells (acc.flatMap FV++FV x) 61 2 true true)]
    [pA 100,.func (.func 162) ⟨[]⟩ ⟨[]⟩,mkS 101 (acc++[x]).length,dsl (rowsOf cSt l),.int .i64 (l.length:Int),.int .i64 ((i+1:Nat):Int)] [some (rdC s b'),mo ((acc++[x]).flatMap FV) 61 2]:=by
   intro b' x o1 o2 o3
   have hcell:acc.flatMap FV++FV x=(acc++[x]).flatMap FV:=by simp
   have hacc:(acc++[x]).length=acc.length+1:=by simp
   show Wk 100 (100+1) _ _ ([pA 100,.func (.func 162) ⟨[]⟩ ⟨[]⟩]++mkS (100+1) (acc++[x]).length::[dsl (rowsOf cSt l),.int .i64 (l.length:Int),.int .i64 ((i+1:Nat):Int)]) ([some (rdC s b')]++[mo ((acc++[x]).flatMap FV) 61 2])
   rw[←hcell,M9 (by simp[FV]),hacc]
   exact KN (k0:=1) (j:=4) (va:=[pA 100,.func (.func 162) ⟨[]⟩ ⟨[]⟩]) (by omega) rfl (by rw[hcell];exact ABZ _) rfl rfl (by omega) rfl (gI rfl rfl)
  refine EG i rfl (JE hy) rfl (JM (z:=y) rfl ⟨fun x hx=>?_,fun hx x=>?_⟩)
  ·refine EM (F8 (c:=FV) (fun _=>rfl) acc) (by omega) (I1 (by omega) rfl rfl (by omega) (by omega) ?_)
   cases b with
   |true=>exact BS (by omega) ⟨rfl,⟨(true,acc++[x],i+1),inv.next hy hx⟩,hms,hwk true x _ _ _,fun _ _ _ h=>h⟩
   |false=>exact BS (by omega) ⟨rfl,⟨(false,acc++[x],i+1),inv.next hy hx⟩,hms,hwk false x _ _ _,fun _ _ _ h=>h⟩
  ·refine EM (F8 (c:=FV) (fun _=>rfl) acc) (by omega) (I1 (by omega) rfl rfl (by omega) (by omega) ?_)
   cases b with
   |true=>exact BS (by omega) ⟨rfl,⟨(true,acc++[x],i+1),inv.fail hy hx⟩,hms,hwk true x _ _ _,fun _ _ _ h=>h⟩
   |false=>exact BS (by omega) ⟨rfl,⟨(true,acc++[x],i+1),inv.fail hy hx⟩,hms,hwk true x _ _ _,fun _ _ _ h=>h⟩
 ·have e:i=l.length:=by omega
  subst e
  exact⟨rfl,_,_,Wk.refl _ _ _ _,b,acc,inv,rfl,rfl,rfl⟩
def ABG(s:ByteArray):xQ:=fun c n AB obs A=>∃(b0:Bool) (l:List ByteArray),l.length<=32/\c=AO Tryz.prog 161 5/\n=59/\AB=[pA 100,.func (.func 162) ⟨[]⟩ ⟨[]⟩,.slice none 0 0,dsl (rowsOf cSt l),.int .i64 (Int.ofNat l.length),.int .i64 (0:Int)]/\obs=[some (rdC s b0)]/\
 ∀b acc,Got GI b0 l b acc l.length->A b acc.length (mo (acc.flatMap FV) 61 2)
theorem AHI(s:ByteArray):BH Tryz.prog 100 [0,2,9,33,34,35] (ADG (ABG s)):=by
 show BH Tryz.prog 100 [0,2,9,33,34,35] (lpS [0,2,9] _)
 refine FW okp (W:=AU (syB 101) Zp [(162,X4 kR)] [] [] []) (O1 (fun x hx=>by simp only[List.mem_singleton]at hx;subst hx;exact AC4) (fun x hx=>by cases hx)) BN ?_
 intro c n AB obs K h
 split at h<;>try exact h.elim
 obtain⟨b0,l,hl,hc,hn,hv,ho,hA⟩:=h
 subst hc;subst hn
 simp only[rdC,List.cons.injEq,Option.some.injEq,AJ.cells.injEq]at hv ho
 obtain⟨rfl,rfl,rfl⟩:=hv
 obtain⟨⟨⟨rfl,rfl,_⟩,rfl,rfl,rfl,rfl⟩,rfl⟩:=ho
 refine⟨StY GI b0 l,1,300,fun p=>l.length-p.1.2.2,xK s b0 l,fun _ e v o=>xZ s b0 l e v o,⟨(b0,[],0),⟨Nat.zero_le _,rfl,fun h=>⟨h,rfl⟩,fun h => .inl h⟩⟩,rfl,?_,?_,AFP s b0 l hl⟩
 ·exact L6 (va:=[pA 100,.func (.func 162) ⟨[]⟩ ⟨[]⟩])
 intro e v o hR
 obtain⟨b,acc,h1,rfl,rfl,rfl⟩:=hR
 exact hA b acc h1
def AIK(s:ByteArray)(t:Nat):RK:=fun v AL=>∃(l:List Arm) (b:Bool),((b=false/\D9 GI t s.data.toList=some l)∨(b=true/\D9 GI t s.data.toList=none))/\Wk 100 (100+1) [v] AL [dsl (rowsOf FV l)] [some (rdC s b)]
theorem xA{s:ByteArray}{b:Bool}{l:List Arm}:Wk 100 (100+1) [mkS 101 l.length] [some (rdC s b),mo (l.flatMap FV) 61 2] [dsl (rowsOf FV l)] [some (rdC s b)]:=
 (GG 0 1 (AL:=[some (rdC s b),mo (l.flatMap FV) 61 2]) rfl rfl (LV (c:=FV) (n:=2) (fun _=>rfl) l) (ABZ l) (by omega) (BJ _ _).symm).trans (I8 (k0:=1) (pre:=[some (rdC s b)]) (extra:=[none]) rfl rfl (fun i o h=>(gI (a:=rdC s b) rfl (AL:=[some (rdC s b)]) rfl i o h).2))
theorem AHD(s:ByteArray)(t:Nat)(ht:t<=32):Is (ACk (real Tryz.prog) MRL (ABG s) s (t:Int) (AIK s t)):=by
 refine⟨?_⟩
 rw[AAH]
 refine⟨t,rfl,by omega,fun h0=>CL _ (BJ _ _) ⟨false,_,UR ht,rfl,rfl,rfl,rfl,fun b acc hg=>⟨acc,b,?_,xA⟩⟩,fun h3=>CL 0 rfl ⟨true,[],by simp,rfl,rfl,rfl,rfl,fun b acc hg=>⟨acc,b,.inr ?_,xA⟩⟩,fun h4=>CL 0 rfl ⟨true,[],by simp,rfl,rfl,rfl,rfl,fun b acc hg=>⟨acc,b,.inr ?_,xA⟩⟩⟩
 ·unfold D9;rw[if_pos h0]
  cases b with
  |false=>
   have:=(hg.well rfl).2
   rw[List.take_length]at this
   exact .inl ⟨rfl,this⟩
  |true=>exact .inr ⟨rfl,(hg.bad rfl).resolve_left (by simp)⟩
 ·unfold D9;rw[if_neg (by omega)]
  cases b with
  |false=>exact absurd (hg.well rfl).1 (by simp)
  |true=>exact⟨rfl,rfl⟩
 ·unfold D9;rw[if_neg (by omega)]
  cases b with
  |false=>exact absurd (hg.well rfl).1 (by simp)
  |true=>exact⟨rfl,rfl⟩
theorem AFB:OV Tryz.prog 100 161 (F7 162 (PX GI FV)):=by
 intro args H K h
 unfold F7 at h
 split at h<;>try exact h.elim
 rename_i p m g
 split at h<;>try exact h.elim
 rename_i s e sz lo ow hg
 split at h<;>try exact h.elim
 rename_i hc
 simp only[Bool.and_eq_true]at hc
 obtain⟨⟨hc1,hc2⟩,hc3⟩:=hc
 rw[LW hc1]at hg
 obtain rfl:=Nat.eq_of_beq_eq_true hc3
 obtain⟨t,rfl,ht,hA,hE⟩:=h
 obtain⟨v,AL,⟨l,b,hb,hw⟩,hC⟩:=JB (DI (EO AA7)) (E9 (fun x hx=>by simp only[List.mem_singleton]at hx;subst hx;exact AHI s)) (AHD s t ht)
 have hC2:∀B,BP Tryz.prog 100 B 161 (pA 100::[.int .i64 (t:Int),.func (.func 162) ⟨[]⟩ ⟨[]⟩]) (hR s) (.returned (dsl (rowsOf FV l))) (hOf 100 [] [some (rdC s b)]):=fun B=>GZ (hC B) hw
 rcases hb with⟨rfl,hx⟩ | ⟨rfl,hx⟩
 ·exact⟨_,_,fun B=>IC rfl rfl hC2 hg hc2 B,hA l hx⟩
 ·exact⟨_,_,fun B=>IC rfl rfl hC2 hg hc2 B,hE hx l⟩
def xL(s:ByteArray)(b0:Bool)(l:List ByteArray)(p:StY GJ b0 l):Lv×Lo:=
 ([pA 100,.func (.func 160) ⟨[]⟩ ⟨[]⟩,mkS 101 p.1.2.1.length,dsl (rowsOf cSt l),.int .i64 (l.length:Int),.int .i64 (p.1.2.2:Int)],[some (rdC s p.1.1),mo (p.1.2.1.flatMap G7) 3 1])
def yA(s:ByteArray)(b0:Bool)(l:List ByteArray)(e:Exit)(v:Lv)(o:Lo):Prop:=
 ∃b acc,Got GJ b0 l b acc l.length/\e = .exit 0/\v=[pA 100,.func (.func 160) ⟨[]⟩ ⟨[]⟩,mkS 101 acc.length]/\o=[some (rdC s b),mo (acc.flatMap G7) 3 1]
theorem AB0(l:List Int):A8 0 (l.flatMap G7)=true:=MG (c:=G7) (fun _ _ h=>h) l
theorem AFQ(s:ByteArray)(b0:Bool)(l:List ByteArray)(hl:l.length<=32)(p:StY GJ b0 l):
  Is (wpe Tryz.prog (real Tryz.prog) (AU (syB 101) Zp [(160,X5 kS)] [] [] []) 300 (.code false (AO Tryz.prog 174 5) (C9 100 59 [0,2,9,33,34,35] [] (xL s b0 l p))) (BM 100 [0,2,9,33,34,35] [0,2,9] 59 []
   (fun AB AL=>∃a':StY GJ b0 l,l.length-a'.1.2.2<l.length-p.1.2.2/\Wk 100 (100+1) AB AL (xL s b0 l a').1 (xL s b0 l a').2/\∀e v o,yA s b0 l e v o->yA s b0 l e v o)
   (fun e AB AL=>∃v o,Wk 100 (100+1) AB AL v o/\yA s b0 l e v o))):=by
 refine⟨?_⟩
 obtain⟨⟨b,acc,i⟩,inv⟩:=p
 have hle:i<=l.length:=inv.le
 have hlen:acc.length=i:=inv.len
 have hT:JU=140737488355328:=rfl
 show yQ (real Tryz.prog) kS s b acc.length (mo (acc.flatMap G7) 3 1) (rowsOf cSt l) (l.length:Int) (i:Int) _ _
 rw[u6]
 refine DW (fun hlt=>?_) (fun hge=>?_)
 ·have hy:l[i]?=some l[i]:=List.getElem?_eq_getElem hlt
  generalize l[i]=y at hy
  have hms:l.length-(i+1)<l.length-i:=by omega
  have hwk:∀(b':Bool) (x:Int) (o1 o2 o3:Option AJ),Wk 100 (100+1) [pA 100,.func (.func 160) ⟨[]⟩ ⟨[]⟩,.slice (some ⟨100+4,0,none⟩) (acc.length+1) (acc.length+1),dsl (rowsOf cSt l),.int .i64 (l.length:Int),.int .i64 ((i+1:Nat):Int)] [some (rdC s b'),o1,o2,o3,some (.cells (acc.flatMap G7++G7 x) 3 1 true true)]
    [pA 100,.func (.func 160) ⟨[]⟩ ⟨[]⟩,mkS 101 (acc++[x]).length,dsl (rowsOf cSt l),.int .i64 (l.length:Int),.int .i64 ((i+1:Nat):Int)] [some (rdC s b'),mo ((acc++[x]).flatMap G7) 3 1]:=by
   intro b' x o1 o2 o3
   have hcell:acc.flatMap G7++G7 x=(acc++[x]).flatMap G7:=by simp
   have hacc:(acc++[x]).length=acc.length+1:=by simp
   show Wk 100 (100+1) _ _ ([pA 100,.func (.func 160) ⟨[]⟩ ⟨[]⟩]++mkS (100+1) (acc++[x]).length::[dsl (rowsOf cSt l),.int .i64 (l.length:Int),.int .i64 ((i+1:Nat):Int)]) ([some (rdC s b')]++[mo ((acc++[x]).flatMap G7) 3 1])
   rw[←hcell,M9 (by simp[G7]),hacc]
   exact KN (k0:=1) (j:=4) (va:=[pA 100,.func (.func 160) ⟨[]⟩ ⟨[]⟩]) (by omega) rfl (by rw[hcell];exact AB0 _) rfl rfl (by omega) rfl (gI rfl rfl)
  refine EG i rfl (JE hy) rfl (JM (z:=y) rfl ⟨fun x hx=>?_,fun hx x=>?_⟩)
  ·refine EM (F8 (c:=G7) (fun _=>rfl) acc) (by omega) (I1 (by omega) rfl rfl (by omega) (by omega) ?_)
   cases b with
   |true=>exact BS (by omega) ⟨rfl,⟨(true,acc++[x],i+1),inv.next hy hx⟩,hms,hwk true x _ _ _,fun _ _ _ h=>h⟩
   |false=>exact BS (by omega) ⟨rfl,⟨(false,acc++[x],i+1),inv.next hy hx⟩,hms,hwk false x _ _ _,fun _ _ _ h=>h⟩
  ·refine EM (F8 (c:=G7) (fun _=>rfl) acc) (by omega) (I1 (by omega) rfl rfl (by omega) (by omega) ?_)
   cases b with
   |true=>exact BS (by omega) ⟨rfl,⟨(true,acc++[x],i+1),inv.fail hy hx⟩,hms,hwk true x _ _ _,fun _ _ _ h=>h⟩
   |false=>exact BS (by omega) ⟨rfl,⟨(true,acc++[x],i+1),inv.fail hy hx⟩,hms,hwk true x _ _ _,fun _ _ _ h=>h⟩
 ·have e:i=l.length:=by omega
  subst e
  exact⟨rfl,_,_,Wk.refl _ _ _ _,b,acc,inv,rfl,rfl,rfl⟩
def ABH(s:ByteArray):xR:=fun c n AB obs A=>∃(b0:Bool) (l:List ByteArray),l.length<=32/\c=AO Tryz.prog 174 5/\n=59/\AB=[pA 100,.func (.func 160) ⟨[]⟩ ⟨[]⟩,.slice none 0 0,dsl (rowsOf cSt l),.int .i64 (Int.ofNat l.length),.int .i64 (0:Int)]/\obs=[some (rdC s b0)]/\
 ∀b acc,Got GJ b0 l b acc l.length->A b acc.length (mo (acc.flatMap G7) 3 1)
theorem AHJ(s:ByteArray):BH Tryz.prog 100 [0,2,9,33,34,35] (ADH (ABH s)):=by
 show BH Tryz.prog 100 [0,2,9,33,34,35] (lpS [0,2,9] _)
 refine FW okp (W:=AU (syB 101) Zp [(160,X5 kS)] [] [] []) (O1 (fun x hx=>by simp only[List.mem_singleton]at hx;subst hx;exact AC5) (fun x hx=>by cases hx)) BN ?_
 intro c n AB obs K h
 split at h<;>try exact h.elim
 obtain⟨b0,l,hl,hc,hn,hv,ho,hA⟩:=h
 subst hc;subst hn
 simp only[rdC,List.cons.injEq,Option.some.injEq,AJ.cells.injEq]at hv ho
 obtain⟨rfl,rfl,rfl⟩:=hv
 obtain⟨⟨⟨rfl,rfl,_⟩,rfl,rfl,rfl,rfl⟩,rfl⟩:=ho
 refine⟨StY GJ b0 l,1,300,fun p=>l.length-p.1.2.2,xL s b0 l,fun _ e v o=>yA s b0 l e v o,⟨(b0,[],0),⟨Nat.zero_le _,rfl,fun h=>⟨h,rfl⟩,fun h => .inl h⟩⟩,rfl,?_,?_,AFQ s b0 l hl⟩
 ·exact L6 (va:=[pA 100,.func (.func 160) ⟨[]⟩ ⟨[]⟩])
 intro e v o hR
 obtain⟨b,acc,h1,rfl,rfl,rfl⟩:=hR
 exact hA b acc h1
def AIL(s:ByteArray)(t:Nat):RK:=fun v AL=>∃(l:List Int) (b:Bool),((b=false/\D9 GJ t s.data.toList=some l)∨(b=true/\D9 GJ t s.data.toList=none))/\Wk 100 (100+1) [v] AL [dsl (rowsOf G7 l)] [some (rdC s b)]
theorem xB{s:ByteArray}{b:Bool}{l:List Int}:Wk 100 (100+1) [mkS 101 l.length] [some (rdC s b),mo (l.flatMap G7) 3 1] [dsl (rowsOf G7 l)] [some (rdC s b)]:=
 (GG 0 1 (AL:=[some (rdC s b),mo (l.flatMap G7) 3 1]) rfl rfl (LV (c:=G7) (n:=1) (fun _=>rfl) l) (AB0 l) (by omega) (BJ _ _).symm).trans (I8 (k0:=1) (pre:=[some (rdC s b)]) (extra:=[none]) rfl rfl (fun i o h=>(gI (a:=rdC s b) rfl (AL:=[some (rdC s b)]) rfl i o h).2))
theorem AHE(s:ByteArray)(t:Nat)(ht:t<=32):Is (ACl (real Tryz.prog) MRL (ABH s) s (t:Int) (AIL s t)):=by
 refine⟨?_⟩
 rw[AAI]
 refine⟨t,rfl,by omega,fun h0=>CL _ (BJ _ _) ⟨false,_,UR ht,rfl,rfl,rfl,rfl,fun b acc hg=>⟨acc,b,?_,xB⟩⟩,fun h3=>CL 0 rfl ⟨true,[],by simp,rfl,rfl,rfl,rfl,fun b acc hg=>⟨acc,b,.inr ?_,xB⟩⟩,fun h4=>CL 0 rfl ⟨true,[],by simp,rfl,rfl,rfl,rfl,fun b acc hg=>⟨acc,b,.inr ?_,xB⟩⟩⟩
 ·unfold D9;rw[if_pos h0]
  cases b with
  |false=>
   have:=(hg.well rfl).2
   rw[List.take_length]at this
   exact .inl ⟨rfl,this⟩
  |true=>exact .inr ⟨rfl,(hg.bad rfl).resolve_left (by simp)⟩
 ·unfold D9;rw[if_neg (by omega)]
  cases b with
  |false=>exact absurd (hg.well rfl).1 (by simp)
  |true=>exact⟨rfl,rfl⟩
 ·unfold D9;rw[if_neg (by omega)]
  cases b with
  |false=>exact absurd (hg.well rfl).1 (by simp)
  |true=>exact⟨rfl,rfl⟩
theorem AFC:OV Tryz.prog 100 174 (F7 160 (PX GJ G7)):=by
 intro args H K h
 unfold F7 at h
 split at h<;>try exact h.elim
 rename_i p m g
 split at h<;>try exact h.elim
 rename_i s e sz lo ow hg
 split at h<;>try exact h.elim
 rename_i hc
 simp only[Bool.and_eq_true]at hc
 obtain⟨⟨hc1,hc2⟩,hc3⟩:=hc
 rw[LW hc1]at hg
 obtain rfl:=Nat.eq_of_beq_eq_true hc3
 obtain⟨t,rfl,ht,hA,hE⟩:=h
 obtain⟨v,AL,⟨l,b,hb,hw⟩,hC⟩:=JB (DI (EO AA7)) (E9 (fun x hx=>by simp only[List.mem_singleton]at hx;subst hx;exact AHJ s)) (AHE s t ht)
 have hC2:∀B,BP Tryz.prog 100 B 174 (pA 100::[.int .i64 (t:Int),.func (.func 160) ⟨[]⟩ ⟨[]⟩]) (hR s) (.returned (dsl (rowsOf G7 l))) (hOf 100 [] [some (rdC s b)]):=fun B=>GZ (hC B) hw
 rcases hb with⟨rfl,hx⟩ | ⟨rfl,hx⟩
 ·exact⟨_,_,fun B=>IC rfl rfl hC2 hg hc2 B,hA l hx⟩
 ·exact⟨_,_,fun B=>IC rfl rfl hC2 hg hc2 B,hE hx l⟩
def xM(s:ByteArray)(b0:Bool)(l:List ByteArray)(p:StY ET b0 l):Lv×Lo:=
 ([pA 100,.func (.func 183) ⟨[]⟩ ⟨[]⟩,mkS 101 p.1.2.1.length,dsl (rowsOf cSt l),.int .i64 (l.length:Int),.int .i64 (p.1.2.2:Int)],[some (rdC s p.1.1),mo (p.1.2.1.flatMap CS) 28 1])
def yB(s:ByteArray)(b0:Bool)(l:List ByteArray)(e:Exit)(v:Lv)(o:Lo):Prop:=
 ∃b acc,Got ET b0 l b acc l.length/\e = .exit 0/\v=[pA 100,.func (.func 183) ⟨[]⟩ ⟨[]⟩,mkS 101 acc.length]/\o=[some (rdC s b),mo (acc.flatMap CS) 28 1]
theorem YM(l:List Nat):A8 0 (l.flatMap CS)=true:=MG (c:=CS) (fun _ _ h=>h) l
theorem AFR(s:ByteArray)(b0:Bool)(l:List ByteArray)(hl:l.length<=32)(p:StY ET b0 l):
  Is (wpe Tryz.prog (real Tryz.prog) (AU (syB 101) Zp [(183,X6 kT)] [] [] []) 300 (.code false (AO Tryz.prog 182 5) (C9 100 59 [0,2,9,33,34,35] [] (xM s b0 l p))) (BM 100 [0,2,9,33,34,35] [0,2,9] 59 []
   (fun AB AL=>∃a':StY ET b0 l,l.length-a'.1.2.2<l.length-p.1.2.2/\Wk 100 (100+1) AB AL (xM s b0 l a').1 (xM s b0 l a').2/\∀e v o,yB s b0 l e v o->yB s b0 l e v o)
   (fun e AB AL=>∃v o,Wk 100 (100+1) AB AL v o/\yB s b0 l e v o))):=by
 refine⟨?_⟩
 obtain⟨⟨b,acc,i⟩,inv⟩:=p
 have hle:i<=l.length:=inv.le
 have hlen:acc.length=i:=inv.len
 have hT:JU=140737488355328:=rfl
 show yR (real Tryz.prog) kT s b acc.length (mo (acc.flatMap CS) 28 1) (rowsOf cSt l) (l.length:Int) (i:Int) _ _
 rw[u7]
 refine DW (fun hlt=>?_) (fun hge=>?_)
 ·have hy:l[i]?=some l[i]:=List.getElem?_eq_getElem hlt
  generalize l[i]=y at hy
  have hms:l.length-(i+1)<l.length-i:=by omega
  have hwk:∀(b':Bool) (x:Nat) (o1 o2 o3:Option AJ),Wk 100 (100+1) [pA 100,.func (.func 183) ⟨[]⟩ ⟨[]⟩,.slice (some ⟨100+4,0,none⟩) (acc.length+1) (acc.length+1),dsl (rowsOf cSt l),.int .i64 (l.length:Int),.int .i64 ((i+1:Nat):Int)] [some (rdC s b'),o1,o2,o3,some (.cells (acc.flatMap CS++CS x) 28 1 true true)]
    [pA 100,.func (.func 183) ⟨[]⟩ ⟨[]⟩,mkS 101 (acc++[x]).length,dsl (rowsOf cSt l),.int .i64 (l.length:Int),.int .i64 ((i+1:Nat):Int)] [some (rdC s b'),mo ((acc++[x]).flatMap CS) 28 1]:=by
   intro b' x o1 o2 o3
   have hcell:acc.flatMap CS++CS x=(acc++[x]).flatMap CS:=by simp
   have hacc:(acc++[x]).length=acc.length+1:=by simp
   show Wk 100 (100+1) _ _ ([pA 100,.func (.func 183) ⟨[]⟩ ⟨[]⟩]++mkS (100+1) (acc++[x]).length::[dsl (rowsOf cSt l),.int .i64 (l.length:Int),.int .i64 ((i+1:Nat):Int)]) ([some (rdC s b')]++[mo ((acc++[x]).flatMap CS) 28 1])
   rw[←hcell,M9 (by simp[CS]),hacc]
   exact KN (k0:=1) (j:=4) (va:=[pA 100,.func (.func 183) ⟨[]⟩ ⟨[]⟩]) (by omega) rfl (by rw[hcell];exact YM _) rfl rfl (by omega) rfl (gI rfl rfl)
  refine EG i rfl (JE hy) rfl (JM (z:=y) rfl ⟨fun x hx=>?_,fun hx x=>?_⟩)
  ·refine EM (F8 (c:=CS) (fun _=>rfl) acc) (by omega) (I1 (by omega) rfl rfl (by omega) (by omega) ?_)
   cases b with
   |true=>exact BS (by omega) ⟨rfl,⟨(true,acc++[x],i+1),inv.next hy hx⟩,hms,hwk true x _ _ _,fun _ _ _ h=>h⟩
   |false=>exact BS (by omega) ⟨rfl,⟨(false,acc++[x],i+1),inv.next hy hx⟩,hms,hwk false x _ _ _,fun _ _ _ h=>h⟩
  ·refine EM (F8 (c:=CS) (fun _=>rfl) acc) (by omega) (I1 (by omega) rfl rfl (by omega) (by omega) ?_)
   cases b with
   |true=>exact BS (by omega) ⟨rfl,⟨(true,acc++[x],i+1),inv.fail hy hx⟩,hms,hwk true x _ _ _,fun _ _ _ h=>h⟩
   |false=>exact BS (by omega) ⟨rfl,⟨(true,acc++[x],i+1),inv.fail hy hx⟩,hms,hwk true x _ _ _,fun _ _ _ h=>h⟩
 ·have e:i=l.length:=by omega
  subst e
  exact⟨rfl,_,_,Wk.refl _ _ _ _,b,acc,inv,rfl,rfl,rfl⟩
def ABJ(s:ByteArray):xS:=fun c n AB obs A=>∃(b0:Bool) (l:List ByteArray),l.length<=32/\c=AO Tryz.prog 182 5/\n=59/\AB=[pA 100,.func (.func 183) ⟨[]⟩ ⟨[]⟩,.slice none 0 0,dsl (rowsOf cSt l),.int .i64 (Int.ofNat l.length),.int .i64 (0:Int)]/\obs=[some (rdC s b0)]/\
 ∀b acc,Got ET b0 l b acc l.length->A b acc.length (mo (acc.flatMap CS) 28 1)
theorem AHK(s:ByteArray):BH Tryz.prog 100 [0,2,9,33,34,35] (ADI (ABJ s)):=by
 show BH Tryz.prog 100 [0,2,9,33,34,35] (lpS [0,2,9] _)
 refine FW okp (W:=AU (syB 101) Zp [(183,X6 kT)] [] [] []) (O1 (fun x hx=>by simp only[List.mem_singleton]at hx;subst hx;exact AC6) (fun x hx=>by cases hx)) BN ?_
 intro c n AB obs K h
 split at h<;>try exact h.elim
 obtain⟨b0,l,hl,hc,hn,hv,ho,hA⟩:=h
 subst hc;subst hn
 simp only[rdC,List.cons.injEq,Option.some.injEq,AJ.cells.injEq]at hv ho
 obtain⟨rfl,rfl,rfl⟩:=hv
 obtain⟨⟨⟨rfl,rfl,_⟩,rfl,rfl,rfl,rfl⟩,rfl⟩:=ho
 refine⟨StY ET b0 l,1,300,fun p=>l.length-p.1.2.2,xM s b0 l,fun _ e v o=>yB s b0 l e v o,⟨(b0,[],0),⟨Nat.zero_le _,rfl,fun h=>⟨h,rfl⟩,fun h => .inl h⟩⟩,rfl,?_,?_,AFR s b0 l hl⟩
 ·exact L6 (va:=[pA 100,.func (.func 183) ⟨[]⟩ ⟨[]⟩])
 intro e v o hR
 obtain⟨b,acc,h1,rfl,rfl,rfl⟩:=hR
 exact hA b acc h1
def AIM(s:ByteArray)(t:Nat):RK:=fun v AL=>∃(l:List Nat) (b:Bool),((b=false/\D9 ET t s.data.toList=some l)∨(b=true/\D9 ET t s.data.toList=none))/\Wk 100 (100+1) [v] AL [dsl (rowsOf CS l)] [some (rdC s b)]
theorem xC{s:ByteArray}{b:Bool}{l:List Nat}:Wk 100 (100+1) [mkS 101 l.length] [some (rdC s b),mo (l.flatMap CS) 28 1] [dsl (rowsOf CS l)] [some (rdC s b)]:=
 (GG 0 1 (AL:=[some (rdC s b),mo (l.flatMap CS) 28 1]) rfl rfl (LV (c:=CS) (n:=1) (fun _=>rfl) l) (YM l) (by omega) (BJ _ _).symm).trans (I8 (k0:=1) (pre:=[some (rdC s b)]) (extra:=[none]) rfl rfl (fun i o h=>(gI (a:=rdC s b) rfl (AL:=[some (rdC s b)]) rfl i o h).2))
theorem AHF(s:ByteArray)(t:Nat)(ht:t<=32):Is (ACm (real Tryz.prog) MRL (ABJ s) s (t:Int) (AIM s t)):=by
 refine⟨?_⟩
 rw[AAJ]
 refine⟨t,rfl,by omega,fun h0=>CL _ (BJ _ _) ⟨false,_,UR ht,rfl,rfl,rfl,rfl,fun b acc hg=>⟨acc,b,?_,xC⟩⟩,fun h3=>CL 0 rfl ⟨true,[],by simp,rfl,rfl,rfl,rfl,fun b acc hg=>⟨acc,b,.inr ?_,xC⟩⟩,fun h4=>CL 0 rfl ⟨true,[],by simp,rfl,rfl,rfl,rfl,fun b acc hg=>⟨acc,b,.inr ?_,xC⟩⟩⟩
 ·unfold D9;rw[if_pos h0]
  cases b with
  |false=>
   have:=(hg.well rfl).2
   rw[List.take_length]at this
   exact .inl ⟨rfl,this⟩
  |true=>exact .inr ⟨rfl,(hg.bad rfl).resolve_left (by simp)⟩
 ·unfold D9;rw[if_neg (by omega)]
  cases b with
  |false=>exact absurd (hg.well rfl).1 (by simp)
  |true=>exact⟨rfl,rfl⟩
 ·unfold D9;rw[if_neg (by omega)]
  cases b with
  |false=>exact absurd (hg.well rfl).1 (by simp)
  |true=>exact⟨rfl,rfl⟩
theorem AFD:OV Tryz.prog 100 182 (F7 183 (PX ET CS)):=by
 intro args H K h
 unfold F7 at h
 split at h<;>try exact h.elim
 rename_i p m g
 split at h<;>try exact h.elim
 rename_i s e sz lo ow hg
 split at h<;>try exact h.elim
 rename_i hc
 simp only[Bool.and_eq_true]at hc
 obtain⟨⟨hc1,hc2⟩,hc3⟩:=hc
 rw[LW hc1]at hg
 obtain rfl:=Nat.eq_of_beq_eq_true hc3
 obtain⟨t,rfl,ht,hA,hE⟩:=h
 obtain⟨v,AL,⟨l,b,hb,hw⟩,hC⟩:=JB (DI (EO AA7)) (E9 (fun x hx=>by simp only[List.mem_singleton]at hx;subst hx;exact AHK s)) (AHF s t ht)
 have hC2:∀B,BP Tryz.prog 100 B 182 (pA 100::[.int .i64 (t:Int),.func (.func 183) ⟨[]⟩ ⟨[]⟩]) (hR s) (.returned (dsl (rowsOf CS l))) (hOf 100 [] [some (rdC s b)]):=fun B=>GZ (hC B) hw
 rcases hb with⟨rfl,hx⟩ | ⟨rfl,hx⟩
 ·exact⟨_,_,fun B=>IC rfl rfl hC2 hg hc2 B,hA l hx⟩
 ·exact⟨_,_,fun B=>IC rfl rfl hC2 hg hc2 B,hE hx l⟩
def Z7(s:ByteArray)(b0:Bool)(l:List ByteArray)(p:StY DV b0 l):Lv×Lo:=
 ([pA 100,.func (.func 193) ⟨[]⟩ ⟨[]⟩,mkS 101 p.1.2.1.length,dsl (rowsOf cSt l),.int .i64 (l.length:Int),.int .i64 (p.1.2.2:Int)],[some (rdC s p.1.1),mo (p.1.2.1.flatMap CO) 66 7])
def aP(s:ByteArray)(b0:Bool)(l:List ByteArray)(e:Exit)(v:Lv)(o:Lo):Prop:=
 ∃b acc,Got DV b0 l b acc l.length/\e = .exit 0/\v=[pA 100,.func (.func 193) ⟨[]⟩ ⟨[]⟩,mkS 101 acc.length]/\o=[some (rdC s b),mo (acc.flatMap CO) 66 7]
theorem pI(l:List Instr):A8 0 (l.flatMap CO)=true:=MG (c:=CO) (fun _ _ h=>h) l
theorem ABo(s:ByteArray)(b0:Bool)(l:List ByteArray)(hl:l.length<=32)(p:StY DV b0 l):
  Is (wpe Tryz.prog (real Tryz.prog) (AU (syB 101) Zp [(193,QK WH)] [] [] []) 300 (.code false (AO Tryz.prog 192 5) (C9 100 59 [0,2,9,33,34,35] [] (Z7 s b0 l p))) (BM 100 [0,2,9,33,34,35] [0,2,9] 59 []
   (fun AB AL=>∃a':StY DV b0 l,l.length-a'.1.2.2<l.length-p.1.2.2/\Wk 100 (100+1) AB AL (Z7 s b0 l a').1 (Z7 s b0 l a').2/\∀e v o,aP s b0 l e v o->aP s b0 l e v o)
   (fun e AB AL=>∃v o,Wk 100 (100+1) AB AL v o/\aP s b0 l e v o))):=by
 refine⟨?_⟩
 obtain⟨⟨b,acc,i⟩,inv⟩:=p
 have hle:i<=l.length:=inv.le
 have hlen:acc.length=i:=inv.len
 have hT:JU=140737488355328:=rfl
 show iR (real Tryz.prog) WH s b acc.length (mo (acc.flatMap CO) 66 7) (rowsOf cSt l) (l.length:Int) (i:Int) _ _
 rw[lZ]
 refine DW (fun hlt=>?_) (fun hge=>?_)
 ·have hy:l[i]?=some l[i]:=List.getElem?_eq_getElem hlt
  generalize l[i]=y at hy
  have hms:l.length-(i+1)<l.length-i:=by omega
  have hwk:∀(b':Bool) (x:Instr) (o1 o2 o3:Option AJ),Wk 100 (100+1) [pA 100,.func (.func 193) ⟨[]⟩ ⟨[]⟩,.slice (some ⟨100+4,0,none⟩) (acc.length+1) (acc.length+1),dsl (rowsOf cSt l),.int .i64 (l.length:Int),.int .i64 ((i+1:Nat):Int)] [some (rdC s b'),o1,o2,o3,some (.cells (acc.flatMap CO++CO x) 66 7 true true)]
    [pA 100,.func (.func 193) ⟨[]⟩ ⟨[]⟩,mkS 101 (acc++[x]).length,dsl (rowsOf cSt l),.int .i64 (l.length:Int),.int .i64 ((i+1:Nat):Int)] [some (rdC s b'),mo ((acc++[x]).flatMap CO) 66 7]:=by
   intro b' x o1 o2 o3
   have hcell:acc.flatMap CO++CO x=(acc++[x]).flatMap CO:=by simp
   have hacc:(acc++[x]).length=acc.length+1:=by simp
   show Wk 100 (100+1) _ _ ([pA 100,.func (.func 193) ⟨[]⟩ ⟨[]⟩]++mkS (100+1) (acc++[x]).length::[dsl (rowsOf cSt l),.int .i64 (l.length:Int),.int .i64 ((i+1:Nat):Int)]) ([some (rdC s b')]++[mo ((acc++[x]).flatMap CO) 66 7])
   rw[←hcell,M9 (by simp[CO]),hacc]
   exact KN (k0:=1) (j:=4) (va:=[pA 100,.func (.func 193) ⟨[]⟩ ⟨[]⟩]) (by omega) rfl (by rw[hcell];exact pI _) rfl rfl (by omega) rfl (gI rfl rfl)
  refine EG i rfl (JE hy) rfl (JM (z:=y) rfl ⟨fun x hx=>?_,fun hx x=>?_⟩)
  ·refine EM (F8 (c:=CO) (fun _=>rfl) acc) (by omega) (I1 (by omega) rfl rfl (by omega) (by omega) ?_)
   cases b with
   |true=>exact BS (by omega) ⟨rfl,⟨(true,acc++[x],i+1),inv.next hy hx⟩,hms,hwk true x _ _ _,fun _ _ _ h=>h⟩
   |false=>exact BS (by omega) ⟨rfl,⟨(false,acc++[x],i+1),inv.next hy hx⟩,hms,hwk false x _ _ _,fun _ _ _ h=>h⟩
  ·refine EM (F8 (c:=CO) (fun _=>rfl) acc) (by omega) (I1 (by omega) rfl rfl (by omega) (by omega) ?_)
   cases b with
   |true=>exact BS (by omega) ⟨rfl,⟨(true,acc++[x],i+1),inv.fail hy hx⟩,hms,hwk true x _ _ _,fun _ _ _ h=>h⟩
   |false=>exact BS (by omega) ⟨rfl,⟨(true,acc++[x],i+1),inv.fail hy hx⟩,hms,hwk true x _ _ _,fun _ _ _ h=>h⟩
 ·have e:i=l.length:=by omega
  subst e
  exact⟨rfl,_,_,Wk.refl _ _ _ _,b,acc,inv,rfl,rfl,rfl⟩
def oP(s:ByteArray):aG:=fun c n AB obs A=>∃(b0:Bool) (l:List ByteArray),l.length<=32/\c=AO Tryz.prog 192 5/\n=59/\AB=[pA 100,.func (.func 193) ⟨[]⟩ ⟨[]⟩,.slice none 0 0,dsl (rowsOf cSt l),.int .i64 (Int.ofNat l.length),.int .i64 (0:Int)]/\obs=[some (rdC s b0)]/\
 ∀b acc,Got DV b0 l b acc l.length->A b acc.length (mo (acc.flatMap CO) 66 7)
theorem ACW(s:ByteArray):BH Tryz.prog 100 [0,2,9,33,34,35] (tL (oP s)):=by
 show BH Tryz.prog 100 [0,2,9,33,34,35] (lpS [0,2,9] _)
 refine FW okp (W:=AU (syB 101) Zp [(193,QK WH)] [] [] []) (O1 (fun x hx=>by simp only[List.mem_singleton]at hx;subst hx;exact vX) (fun x hx=>by cases hx)) BN ?_
 intro c n AB obs K h
 split at h<;>try exact h.elim
 obtain⟨b0,l,hl,hc,hn,hv,ho,hA⟩:=h
 subst hc;subst hn
 simp only[rdC,List.cons.injEq,Option.some.injEq,AJ.cells.injEq]at hv ho
 obtain⟨rfl,rfl,rfl⟩:=hv
 obtain⟨⟨⟨rfl,rfl,_⟩,rfl,rfl,rfl,rfl⟩,rfl⟩:=ho
 refine⟨StY DV b0 l,1,300,fun p=>l.length-p.1.2.2,Z7 s b0 l,fun _ e v o=>aP s b0 l e v o,⟨(b0,[],0),⟨Nat.zero_le _,rfl,fun h=>⟨h,rfl⟩,fun h => .inl h⟩⟩,rfl,?_,?_,ABo s b0 l hl⟩
 ·exact L6 (va:=[pA 100,.func (.func 193) ⟨[]⟩ ⟨[]⟩])
 intro e v o hR
 obtain⟨b,acc,h1,rfl,rfl,rfl⟩:=hR
 exact hA b acc h1
def AEi(s:ByteArray)(t:Nat):RK:=fun v AL=>∃(l:List Instr) (b:Bool),((b=false/\D9 DV t s.data.toList=some l)∨(b=true/\D9 DV t s.data.toList=none))/\Wk 100 (100+1) [v] AL [dsl (rowsOf CO l)] [some (rdC s b)]
theorem fG{s:ByteArray}{b:Bool}{l:List Instr}:Wk 100 (100+1) [mkS 101 l.length] [some (rdC s b),mo (l.flatMap CO) 66 7] [dsl (rowsOf CO l)] [some (rdC s b)]:=
 (GG 0 1 (AL:=[some (rdC s b),mo (l.flatMap CO) 66 7]) rfl rfl (LV (c:=CO) (n:=7) (fun _=>rfl) l) (pI l) (by omega) (BJ _ _).symm).trans (I8 (k0:=1) (pre:=[some (rdC s b)]) (extra:=[none]) rfl rfl (fun i o h=>(gI (a:=rdC s b) rfl (AL:=[some (rdC s b)]) rfl i o h).2))
theorem ACD(s:ByteArray)(t:Nat)(ht:t<=32):Is (pW (real Tryz.prog) MRL (oP s) s (t:Int) (AEi s t)):=by
 refine⟨?_⟩
 rw[pX]
 refine⟨t,rfl,by omega,fun h0=>CL _ (BJ _ _) ⟨false,_,UR ht,rfl,rfl,rfl,rfl,fun b acc hg=>⟨acc,b,?_,fG⟩⟩,fun h3=>CL 0 rfl ⟨true,[],by simp,rfl,rfl,rfl,rfl,fun b acc hg=>⟨acc,b,.inr ?_,fG⟩⟩,fun h4=>CL 0 rfl ⟨true,[],by simp,rfl,rfl,rfl,rfl,fun b acc hg=>⟨acc,b,.inr ?_,fG⟩⟩⟩
 ·unfold D9;rw[if_pos h0]
  cases b with
  |false=>
   have:=(hg.well rfl).2
   rw[List.take_length]at this
   exact .inl ⟨rfl,this⟩
  |true=>exact .inr ⟨rfl,(hg.bad rfl).resolve_left (by simp)⟩
 ·unfold D9;rw[if_neg (by omega)]
  cases b with
  |false=>exact absurd (hg.well rfl).1 (by simp)
  |true=>exact⟨rfl,rfl⟩
 ·unfold D9;rw[if_neg (by omega)]
  cases b with
  |false=>exact absurd (hg.well rfl).1 (by simp)
  |true=>exact⟨rfl,rfl⟩
theorem AA6:OV Tryz.prog 100 192 (F7 193 (PX DV CO)):=by
 intro args H K h
 unfold F7 at h
 split at h<;>try exact h.elim
 rename_i p m g
 split at h<;>try exact h.elim
 rename_i s e sz lo ow hg
 split at h<;>try exact h.elim
 rename_i hc
 simp only[Bool.and_eq_true]at hc
 obtain⟨⟨hc1,hc2⟩,hc3⟩:=hc
 rw[LW hc1]at hg
 obtain rfl:=Nat.eq_of_beq_eq_true hc3
 obtain⟨t,rfl,ht,hA,hE⟩:=h
 obtain⟨v,AL,⟨l,b,hb,hw⟩,hC⟩:=JB (DI (EO AA7)) (E9 (fun x hx=>by simp only[List.mem_singleton]at hx;subst hx;exact ACW s)) (ACD s t ht)
 have hC2:∀B,BP Tryz.prog 100 B 192 (pA 100::[.int .i64 (t:Int),.func (.func 193) ⟨[]⟩ ⟨[]⟩]) (hR s) (.returned (dsl (rowsOf CO l))) (hOf 100 [] [some (rdC s b)]):=fun B=>GZ (hC B) hw
 rcases hb with⟨rfl,hx⟩ | ⟨rfl,hx⟩
 ·exact⟨_,_,fun B=>IC rfl rfl hC2 hg hc2 B,hA l hx⟩
 ·exact⟨_,_,fun B=>IC rfl rfl hC2 hg hc2 B,hE hx l⟩
def WA(s:ByteArray)(b0:Bool)(l:List ByteArray)(p:StY CX b0 l):Lv×Lo:=
 ([pA 100,.func (.func 201) ⟨[]⟩ ⟨[]⟩,mkS 101 p.1.2.1.length,dsl (rowsOf cSt l),.int .i64 (l.length:Int),.int .i64 (p.1.2.2:Int)],[some (rdC s p.1.1),mo (p.1.2.1.flatMap CF) 181 2])
def WJ(s:ByteArray)(b0:Bool)(l:List ByteArray)(e:Exit)(v:Lv)(o:Lo):Prop:=
 ∃b acc,Got CX b0 l b acc l.length/\e = .exit 0/\v=[pA 100,.func (.func 201) ⟨[]⟩ ⟨[]⟩,mkS 101 acc.length]/\o=[some (rdC s b),mo (acc.flatMap CF) 181 2]
theorem iG(l:List EP):A8 0 (l.flatMap CF)=true:=MG (c:=CF) (fun _ _ h=>h) l
theorem wM(s:ByteArray)(b0:Bool)(l:List ByteArray)(hl:l.length<=32)(p:StY CX b0 l):
  Is (wpe Tryz.prog (real Tryz.prog) (AU (syB 101) Zp [(201,OM UF)] [] [] []) 300 (.code false (AO Tryz.prog 200 5) (C9 100 59 [0,2,9,33,34,35] [] (WA s b0 l p))) (BM 100 [0,2,9,33,34,35] [0,2,9] 59 []
   (fun AB AL=>∃a':StY CX b0 l,l.length-a'.1.2.2<l.length-p.1.2.2/\Wk 100 (100+1) AB AL (WA s b0 l a').1 (WA s b0 l a').2/\∀e v o,WJ s b0 l e v o->WJ s b0 l e v o)
   (fun e AB AL=>∃v o,Wk 100 (100+1) AB AL v o/\WJ s b0 l e v o))):=by
 refine⟨?_⟩
 obtain⟨⟨b,acc,i⟩,inv⟩:=p
 have hle:i<=l.length:=inv.le
 have hlen:acc.length=i:=inv.len
 have hT:JU=140737488355328:=rfl
 show dK (real Tryz.prog) UF s b acc.length (mo (acc.flatMap CF) 181 2) (rowsOf cSt l) (l.length:Int) (i:Int) _ _
 rw[gB]
 refine DW (fun hlt=>?_) (fun hge=>?_)
 ·have hy:l[i]?=some l[i]:=List.getElem?_eq_getElem hlt
  generalize l[i]=y at hy
  have hms:l.length-(i+1)<l.length-i:=by omega
  have hwk:∀(b':Bool) (x:EP) (o1 o2 o3:Option AJ),Wk 100 (100+1) [pA 100,.func (.func 201) ⟨[]⟩ ⟨[]⟩,.slice (some ⟨100+4,0,none⟩) (acc.length+1) (acc.length+1),dsl (rowsOf cSt l),.int .i64 (l.length:Int),.int .i64 ((i+1:Nat):Int)] [some (rdC s b'),o1,o2,o3,some (.cells (acc.flatMap CF++CF x) 181 2 true true)]
    [pA 100,.func (.func 201) ⟨[]⟩ ⟨[]⟩,mkS 101 (acc++[x]).length,dsl (rowsOf cSt l),.int .i64 (l.length:Int),.int .i64 ((i+1:Nat):Int)] [some (rdC s b'),mo ((acc++[x]).flatMap CF) 181 2]:=by
   intro b' x o1 o2 o3
   have hcell:acc.flatMap CF++CF x=(acc++[x]).flatMap CF:=by simp
   have hacc:(acc++[x]).length=acc.length+1:=by simp
   show Wk 100 (100+1) _ _ ([pA 100,.func (.func 201) ⟨[]⟩ ⟨[]⟩]++mkS (100+1) (acc++[x]).length::[dsl (rowsOf cSt l),.int .i64 (l.length:Int),.int .i64 ((i+1:Nat):Int)]) ([some (rdC s b')]++[mo ((acc++[x]).flatMap CF) 181 2])
   rw[←hcell,M9 (by simp[CF]),hacc]
   exact KN (k0:=1) (j:=4) (va:=[pA 100,.func (.func 201) ⟨[]⟩ ⟨[]⟩]) (by omega) rfl (by rw[hcell];exact iG _) rfl rfl (by omega) rfl (gI rfl rfl)
  refine EG i rfl (JE hy) rfl (JM (z:=y) rfl ⟨fun x hx=>?_,fun hx x=>?_⟩)
  ·refine EM (F8 (c:=CF) (fun _=>rfl) acc) (by omega) (I1 (by omega) rfl rfl (by omega) (by omega) ?_)
   cases b with
   |true=>exact BS (by omega) ⟨rfl,⟨(true,acc++[x],i+1),inv.next hy hx⟩,hms,hwk true x _ _ _,fun _ _ _ h=>h⟩
   |false=>exact BS (by omega) ⟨rfl,⟨(false,acc++[x],i+1),inv.next hy hx⟩,hms,hwk false x _ _ _,fun _ _ _ h=>h⟩
  ·refine EM (F8 (c:=CF) (fun _=>rfl) acc) (by omega) (I1 (by omega) rfl rfl (by omega) (by omega) ?_)
   cases b with
   |true=>exact BS (by omega) ⟨rfl,⟨(true,acc++[x],i+1),inv.fail hy hx⟩,hms,hwk true x _ _ _,fun _ _ _ h=>h⟩
   |false=>exact BS (by omega) ⟨rfl,⟨(true,acc++[x],i+1),inv.fail hy hx⟩,hms,hwk true x _ _ _,fun _ _ _ h=>h⟩
 ·have e:i=l.length:=by omega
  subst e
  exact⟨rfl,_,_,Wk.refl _ _ _ _,b,acc,inv,rfl,rfl,rfl⟩
def iD(s:ByteArray):WC:=fun c n AB obs A=>∃(b0:Bool) (l:List ByteArray),l.length<=32/\c=AO Tryz.prog 200 5/\n=59/\AB=[pA 100,.func (.func 201) ⟨[]⟩ ⟨[]⟩,.slice none 0 0,dsl (rowsOf cSt l),.int .i64 (Int.ofNat l.length),.int .i64 (0:Int)]/\obs=[some (rdC s b0)]/\
 ∀b acc,Got CX b0 l b acc l.length->A b acc.length (mo (acc.flatMap CF) 181 2)
theorem AA2(s:ByteArray):BH Tryz.prog 100 [0,2,9,33,34,35] (j3 (iD s)):=by
 show BH Tryz.prog 100 [0,2,9,33,34,35] (lpS [0,2,9] _)
 refine FW okp (W:=AU (syB 101) Zp [(201,OM UF)] [] [] []) (O1 (fun x hx=>by simp only[List.mem_singleton]at hx;subst hx;exact rV) (fun x hx=>by cases hx)) BN ?_
 intro c n AB obs K h
 split at h<;>try exact h.elim
 obtain⟨b0,l,hl,hc,hn,hv,ho,hA⟩:=h
 subst hc;subst hn
 simp only[rdC,List.cons.injEq,Option.some.injEq,AJ.cells.injEq]at hv ho
 obtain⟨rfl,rfl,rfl⟩:=hv
 obtain⟨⟨⟨rfl,rfl,_⟩,rfl,rfl,rfl,rfl⟩,rfl⟩:=ho
 refine⟨StY CX b0 l,1,300,fun p=>l.length-p.1.2.2,WA s b0 l,fun _ e v o=>WJ s b0 l e v o,⟨(b0,[],0),⟨Nat.zero_le _,rfl,fun h=>⟨h,rfl⟩,fun h => .inl h⟩⟩,rfl,?_,?_,wM s b0 l hl⟩
 ·exact L6 (va:=[pA 100,.func (.func 201) ⟨[]⟩ ⟨[]⟩])
 intro e v o hR
 obtain⟨b,acc,h1,rfl,rfl,rfl⟩:=hR
 exact hA b acc h1
def ABL(s:ByteArray)(t:Nat):RK:=fun v AL=>∃(l:List EP) (b:Bool),((b=false/\D9 CX t s.data.toList=some l)∨(b=true/\D9 CX t s.data.toList=none))/\Wk 100 (100+1) [v] AL [dsl (rowsOf CF l)] [some (rdC s b)]
theorem Y7{s:ByteArray}{b:Bool}{l:List EP}:Wk 100 (100+1) [mkS 101 l.length] [some (rdC s b),mo (l.flatMap CF) 181 2] [dsl (rowsOf CF l)] [some (rdC s b)]:=
 (GG 0 1 (AL:=[some (rdC s b),mo (l.flatMap CF) 181 2]) rfl rfl (LV (c:=CF) (n:=2) (fun _=>rfl) l) (iG l) (by omega) (BJ _ _).symm).trans (I8 (k0:=1) (pre:=[some (rdC s b)]) (extra:=[none]) rfl rfl (fun i o h=>(gI (a:=rdC s b) rfl (AL:=[some (rdC s b)]) rfl i o h).2))
theorem AAZ(s:ByteArray)(t:Nat)(ht:t<=32):Is (iQ (real Tryz.prog) MRL (iD s) s (t:Int) (ABL s t)):=by
 refine⟨?_⟩
 rw[lY]
 refine⟨t,rfl,by omega,fun h0=>CL _ (BJ _ _) ⟨false,_,UR ht,rfl,rfl,rfl,rfl,fun b acc hg=>⟨acc,b,?_,Y7⟩⟩,fun h3=>CL 0 rfl ⟨true,[],by simp,rfl,rfl,rfl,rfl,fun b acc hg=>⟨acc,b,.inr ?_,Y7⟩⟩,fun h4=>CL 0 rfl ⟨true,[],by simp,rfl,rfl,rfl,rfl,fun b acc hg=>⟨acc,b,.inr ?_,Y7⟩⟩⟩
 ·unfold D9;rw[if_pos h0]
  cases b with
  |false=>
   have:=(hg.well rfl).2
   rw[List.take_length]at this
   exact .inl ⟨rfl,this⟩
  |true=>exact .inr ⟨rfl,(hg.bad rfl).resolve_left (by simp)⟩
 ·unfold D9;rw[if_neg (by omega)]
  cases b with
  |false=>exact absurd (hg.well rfl).1 (by simp)
  |true=>exact⟨rfl,rfl⟩
 ·unfold D9;rw[if_neg (by omega)]
  cases b with
  |false=>exact absurd (hg.well rfl).1 (by simp)
  |true=>exact⟨rfl,rfl⟩
theorem vW:OV Tryz.prog 100 200 (F7 201 (PX CX CF)):=by
 intro args H K h
 unfold F7 at h
 split at h<;>try exact h.elim
 rename_i p m g
 split at h<;>try exact h.elim
 rename_i s e sz lo ow hg
 split at h<;>try exact h.elim
 rename_i hc
 simp only[Bool.and_eq_true]at hc
 obtain⟨⟨hc1,hc2⟩,hc3⟩:=hc
 rw[LW hc1]at hg
 obtain rfl:=Nat.eq_of_beq_eq_true hc3
 obtain⟨t,rfl,ht,hA,hE⟩:=h
 obtain⟨v,AL,⟨l,b,hb,hw⟩,hC⟩:=JB (DI (EO AA7)) (E9 (fun x hx=>by simp only[List.mem_singleton]at hx;subst hx;exact AA2 s)) (AAZ s t ht)
 have hC2:∀B,BP Tryz.prog 100 B 200 (pA 100::[.int .i64 (t:Int),.func (.func 201) ⟨[]⟩ ⟨[]⟩]) (hR s) (.returned (dsl (rowsOf CF l))) (hOf 100 [] [some (rdC s b)]):=fun B=>GZ (hC B) hw
 rcases hb with⟨rfl,hx⟩ | ⟨rfl,hx⟩
 ·exact⟨_,_,fun B=>IC rfl rfl hC2 hg hc2 B,hA l hx⟩
 ·exact⟨_,_,fun B=>IC rfl rfl hC2 hg hc2 B,hE hx l⟩
end
end Go.Proofs.Ob
