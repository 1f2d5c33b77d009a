/- . -/
import Derived.Test.YtblbaohcelldpaaGreatDoorQN
import Derived.Test.YtblbaohcelldpaaGreatDoorS6
set_option linter.all false
set_option maxRecDepth 100000
namespace Go.Proofs.Ob
open Go Go.Abs Go.Tlv
noncomputable section
abbrev I4:Value := .slice none 0 0
def WF:YH:=fun s m A=>∃t:Nat,m=t/\(∀n,GQ s.data.toList t=some n->A n 0)/\(GQ s.data.toList t=none->A 0 3)
theorem AGz:EW Tryz.prog 100 142 (VZ WF):=by
 intro args K h
 unfold VZ at h
 split at h<;>try exact h.elim
 obtain⟨t,rfl,h1,h2⟩:=h
 exact TJ _ _ ⟨t,rfl,h1,h2⟩
def MRq{α:Type}(step:α->At->Option α)(z:α):ByteArray->(α->Int->Prop)->Prop:=fun s K=>K (rdE step z s.data.toList).2 ((rdE step z s.data.toList).1:Int)
theorem nP{α:Type}{v:α->Value}{step:α->At->Option α}{z:α}{f:FuncId}(h:∀(s:ByteArray) B H,BP Tryz.prog 100 B f [.string s] H (.returned (.tuple ⟨[v (rdE step z s.data.toList).2,.int .i64 ((rdE step z s.data.toList).1:Int)]⟩)) H):EW Tryz.prog 100 f (sRd v (MRq step z)):=by
 intro args K hh
 unfold sRd at hh
 split at hh<;>try exact hh.elim
 exact⟨_,h _,hh⟩
abbrev rdW(s:ByteArray):Option Nat:=ET s.data.toList
structure AEk(l:List ByteArray) where
 acc:List Nat
 i:Nat
 le:i<=l.length
 len:acc.length=i
 ok:H5 rdW (l.take i)=some acc
def IW2(x:BB)(e:Int)(l:List ByteArray)(p:AEk l):Lv×Lo:=([pA 100,.int .i64 e,dsl (rowsOf cSt l),.int .i64 (l.length:Int),.int .i64 (p.i:Int)],[cWo x (mkS 101 p.acc.length),mo (p.acc.flatMap CS) 28 1])
def RW2(x:BB)(e:Int)(l:List ByteArray)(ex:Exit)(v:Lv)(o:Lo):Prop:=
 (∃acc,H5 rdW l=some acc/\ex = .exit 0/\v=[top,.int .i64 e]/\o=[cWo x (mkS 101 acc.length),mo (acc.flatMap CS) 28 1])∨
 (∃acc:List Nat,H5 rdW l=none/\ex = .ret/\v=[.bool false,top]/\o=[cWo x (mkS 101 acc.length),mo (acc.flatMap CS) 28 1])
theorem AB5(x:BB)(w:Value):cW x w=(lM x).take 10++w::(lM x).drop 11:=rfl
theorem AJ3(x:BB)(e:Int)(l:List ByteArray)(hl:l.length<=1000)(p:AEk l):
  Is (wpe Tryz.prog (real Tryz.prog) (AU AAg Zp [] [] [(142,VZ WF)] []) 300 (.code false (AO Tryz.prog 149 3) (C9 100 42 [0,6,16,17,18] [] (IW2 x e l p))) (BM 100 [0,6,16,17,18] [4,6] 42 []
   (fun AB AL=>∃a':AEk l,l.length-a'.i<l.length-p.i/\Wk 100 (100+1) AB AL (IW2 x e l a').1 (IW2 x e l a').2/\∀ex v o,RW2 x e l ex v o->RW2 x e l ex v o)
   (fun ex AB AL=>∃v o,Wk 100 (100+1) AB AL v o/\RW2 x e l ex v o))):=by
 refine⟨?_⟩
 obtain⟨acc,i,le,len,ok⟩:=p
 have hT:JU=140737488355328:=rfl
 show AJk (real Tryz.prog) WF x acc.length (mo (acc.flatMap CS) 28 1) e (rowsOf cSt l) (l.length:Int) (i:Int) _ _
 rw[AFa]
 refine DW (fun hlt=>?_) (fun hge=>?_)
 ·have hy:l[i]?=some l[i]:=List.getElem?_eq_getElem hlt
  generalize l[i]=y at hy
  have hms:l.length-(i+1)<l.length-i:=by omega
  refine EG i rfl (JE hy) rfl (JM (z:=y) rfl ⟨18446744073709551615,rfl,fun n hn=>?_,fun hn=>?_⟩)
  ·refine N9 (m:=0) (d:=0) (fun h=>absurd rfl h) (fun _=>EM (F8 (c:=CS) (fun _=>rfl) acc) (by omega) (I1 (by omega) rfl rfl (by omega) (by omega) (BS (by omega) ⟨rfl,⟨acc++[n],i+1,hlt,by simp[len],YU hy ok hn⟩,hms,?_,fun _ _ _ h=>h⟩)))
   have hcell:acc.flatMap CS++CS n=(acc++[n]).flatMap CS:=by simp
   have hacc:(acc++[n]).length=acc.length+1:=by simp
   show Wk 100 (100+1) _ _ [pA 100,.int .i64 e,dsl (rowsOf cSt l),.int .i64 (l.length:Int),.int .i64 ((i+1:Nat):Int)] [cWo x (mkS 101 (acc++[n]).length),mo ((acc++[n]).flatMap CS) 28 1]
   rw[←hcell,M9 (by simp[CS]),hacc]
   exact AGg (j:=3) (a:=(lM x).take 10) (r:=(lM x).drop 11) (by omega) rfl rfl (by rw[hcell];exact YM _) rfl rfl rfl (by omega)
  ·exact N9 (m:=3) (d:=0) (fun _=>⟨rfl,[.bool false,top],_,CQ (.cons (.refl _) (.cons (.top _) .nil)) (D7.refl _),.inr ⟨acc,XP (f:=rdW) hy hn,rfl,rfl,rfl⟩⟩) (fun h=>absurd h (by decide))
 ·have e1:i=l.length:=by omega
  subst e1
  rw[List.take_length]at ok
  exact⟨rfl,_,_,Wk.refl _ _ _ _,.inl ⟨acc,ok,rfl,rfl,rfl⟩⟩
def AID(x:BB):AEf:=fun c n AB obs A E=>∃(e:Int) (l:List ByteArray),l.length<=1000/\c=AO Tryz.prog 149 3/\n=42/\AB=[pA 100,.int .i64 e,dsl (rowsOf cSt l),.int .i64 (Int.ofNat l.length),.int .i64 (0:Int)]/\obs=[cWo x I4]/\
 (∀acc,H5 rdW l=some acc->A acc.length (mo (acc.flatMap CS) 28 1))/\(∀acc:List Nat,H5 rdW l=none->E acc.length (mo (acc.flatMap CS) 28 1))
theorem AK1(x:BB):BH Tryz.prog 100 [0,6,16,17,18] (AGH (AID x)):=by
 show BH Tryz.prog 100 [0,6,16,17,18] (lpS [4,6] _)
 refine FW okp (W:=AU AAg Zp [] [] [(142,VZ WF)] []) (DI (pu1 AGz)) BN ?_
 intro c n AB obs K h
 split at h<;>try exact h.elim
 obtain⟨e,l,hl,hc,hn,hv,ho,hA,hE⟩:=h
 subst hc;subst hn
 simp only[cWo,List.cons.injEq,Option.some.injEq,AJ.cells.injEq,and_true]at hv ho
 obtain⟨rfl,rfl,rfl,rfl,rfl⟩:=hv
 subst ho
 refine⟨AEk l,1,300,fun p=>l.length-p.i,IW2 x e l,fun _ ex v o=>RW2 x e l ex v o,⟨[],0,Nat.zero_le _,rfl,rfl⟩,rfl,?_,?_,AJ3 x e l hl⟩
 ·exact(CQ (BR.refl _) (.cons (.cells (JG (a:=(lM x).take 10) (.cons .nilM (BR.refl _)))) .nil)).trans xD
 intro ex v o hR
 rcases hR with⟨acc,h1,rfl,rfl,rfl⟩ | ⟨acc,h1,rfl,rfl,rfl⟩
 ·exact hA acc h1
 ·exact hE acc h1
def QW2(x:BB)(s:ByteArray):RK:=fun v AL=>∃(acc:List Nat) (b:Bool),((b=true/\D9 ET 128 s.data.toList=some acc)∨(b=false/\D9 ET 128 s.data.toList=none))/\Wk 100 (100+1) [v] AL [.bool b] [cWo x (dsl (rowsOf CS acc))]
theorem AKz(n:Nat)(x:BB)(A7:Lv):A8 n (cW x (dsl A7))=true:=rfl
theorem AKA(n:Nat)(x:BB):A8 n (cW x I4)=true:=rfl
theorem ABC{x:BB}{b:Bool}{acc:List Nat}:Wk 100 (100+1) [.bool b] [cWo x (mkS 101 acc.length),mo (acc.flatMap CS) 28 1] [.bool b] [cWo x (dsl (rowsOf CS acc))]:=
 (AGe (a:=(lM x).take 10) (r:=(lM x).drop 11) (LV (c:=CS) (n:=1) (fun _=>rfl) acc) (YM acc) (by omega) (BJ _ _).symm).trans (I8 (k0:=1) (pre:=[cWo x (dsl (rowsOf CS acc))]) (extra:=[none]) rfl rfl (fun i o h=>by
  cases i with
  |zero=>simp only[List.getElem?_cons_zero,Option.some.injEq]at h;rw[←h];rfl
  |succ i=>simp at h))
theorem ACY{s:List UInt8}:(DK 128 0 s).2.length<=1000:=by
 by_cases h0:(DK 128 0 s).1=0
 ·obtain⟨_,h2,_⟩:=UQ s.length s 128 0 (DK 128 0 s).2 (Nat.le_refl _) (Prod.ext h0 rfl)
  rcases h2 with h2|h2
  ·omega
  ·rw[h2];simp
 ·rw[MX _ _ _ h0];simp
theorem w2C(x:BB)(s:ByteArray):Is (gW2 (real Tryz.prog) MRL (AID x) x s (QW2 x s)):=by
 refine⟨?_⟩
 rw[AHu]
 refine⟨128,rfl,by omega,fun h0=>CL _ (BJ _ _) ⟨0,_,ACY,rfl,rfl,rfl,rfl,fun acc h=>⟨acc,true,.inl ⟨rfl,?_⟩,ABC⟩,fun acc h=>⟨acc,false,.inr ⟨rfl,?_⟩,ABC⟩⟩,fun h3=>CL 0 rfl ⟨3,[],by simp,rfl,rfl,rfl,rfl,fun acc h=>⟨acc,false,.inr ⟨rfl,?_⟩,ABC⟩,fun acc h=>⟨acc,false,.inr ⟨rfl,?_⟩,ABC⟩⟩,fun h4=>CL 0 rfl ⟨4,[],by simp,rfl,rfl,rfl,rfl,fun acc h=>⟨acc,false,.inr ⟨rfl,?_⟩,ABC⟩,fun acc h=>⟨acc,false,.inr ⟨rfl,?_⟩,ABC⟩⟩⟩
 ·unfold D9;rw[if_pos h0];exact h
 ·unfold D9;rw[if_pos h0];exact h
 all_goals(unfold D9;rw[if_neg (by omega)])
def AEh:MWd:=fun vs s A=>∃x,vs=cW x I4/\(∀ws,D9 ET 128 s.data.toList=some ws->A (dsl (rowsOf CS ws)) true)/\(D9 ET 128 s.data.toList=none->∀ws:List Nat,A (dsl (rowsOf CS ws)) false)
theorem ALb:OV Tryz.prog 100 149 (sW2 AEh):=by
 intro args H K h
 unfold sW2 at h
 split at h<;>try exact h.elim
 rename_i b s
 split at h<;>try exact h.elim
 rename_i vs hg
 split at h<;>try exact h.elim
 rename_i hp
 obtain⟨x,rfl,hA,hE⟩:=h
 obtain⟨v,AL,⟨acc,ok,hb,hw⟩,hC⟩:=JB (DI (EO AA7)) (lp1 (AK1 x)) (w2C x s)
 have hC2:∀B,BP Tryz.prog 100 B 149 [pA 100,.string s] (hOf 100 [] [cWo x I4]) (.returned (.bool ok)) (hOf 100 [] [cWo x (dsl (rowsOf CS acc))]):=fun B=>GZ (hC B) hw
 unfold AJH at hp
 simp only[Bool.and_eq_true]at hp
 have hp1:=Nat.le_of_ble_eq_true hp.1
 have hp2:b<H.next:=Nat.le_of_ble_eq_true hp.2
 have hL:∀B,BP Tryz.prog 100 B 149 [.pointer (some ⟨b,0,none⟩),.string s] H (.returned (.bool ok)) (G9 H [b] [some (.cells (cW x (dsl (rowsOf CS acc))) 51 52 false true)]):=by
  intro B
  have hτ:tau 100 [b] H.next 100=b:=UB (Nat.le_refl _) rfl
  have e0:FZ (tau 100 [b] H.next) (cW x I4)=cW x I4:=CU (n0:=0) (fun n h=>by omega) _ (AKA 0 x)
  have e9:FZ (tau 100 [b] H.next) (cW x (dsl (rowsOf CS acc)))=cW x (dsl (rowsOf CS acc)):=CU (n0:=0) (fun n h=>by omega) _ (AKz 0 x _)
  have h2:=AGv (ins:=[cWo x I4]) (upd:=[cWo x (dsl (rowsOf CS acc))]) (new:=[]) rfl (fun i hi=>by cases i<;>simp[cWo]at hi) rfl hC2 (H:=H) (ns:=[b]) rfl (by simp) (fun m hm=>by simp only[List.mem_singleton]at hm;subst hm;exact⟨hp1,hp2⟩)
   (fun i o hi=>by
    cases i with
    |succ i=>simp at hi
    |zero=>
     simp only[cWo,List.getElem?_cons_zero,Option.some.injEq]at hi;subst hi
     exact⟨b,rfl,by rw[hg];show _=some (AJ.cells (FZ (tau 100 [b] H.next) (cW x I4)) 51 52 false true);rw[e0]⟩) B
  have e1:FZ (tau 100 [b] H.next) [pA 100,.string s]=[.pointer (some ⟨b,0,none⟩),.string s]:=by simp only[FZ,pA,GA,hτ]
  rw[e1]at h2
  simp only[lW,GA,List.map_cons,List.map_nil,cWo,Option.map_some,GV,e9]at h2
  exact h2
 rcases hb with⟨rfl,hx⟩ | ⟨rfl,hx⟩
 ·exact⟨_,_,hL,hA acc hx⟩
 ·exact⟨_,_,hL,hE hx acc⟩
end
end Go.Proofs.Ob
namespace Go.Tlv
theorem bA:∀ {l:List At} {last:Nat},JS last l=0->∀(i:Nat) a,l[i]?=some a->last<a.t/\a.len≠0/\a.len<=65535/\∀(j:Nat) b,j<i->l[j]?=some b->b.t<a.t
 | [],last,h,i,a,ha=>by simp at ha
 |c::l,last,h,i,a,ha=>by
  simp only[JS]at h
  split at h
  ·omega
  ·rename_i h1
   split at h
   ·omega
   ·rename_i h2
    cases i with
    |zero=>
     simp only[List.getElem?_cons_zero,Option.some.injEq]at ha;subst ha
     exact⟨by omega,by omega,by omega,fun j b hj=>by omega⟩
    |succ i=>
     obtain⟨g1,g2,g3,g4⟩:=bA h i a (by simpa using ha)
     refine⟨by omega,g2,g3,fun j b hj hb=>?_⟩
     cases j with
     |zero=>
      simp only[List.getElem?_cons_zero,Option.some.injEq]at hb;subst hb;exact g1
     |succ j=>exact g4 j b (by omega) (by simpa using hb)
def kdB(s:List UInt8):Nat:=(s.getD 0 0).toNat
def NL(s:List UInt8):Nat:=(((s.getD 1 0).toNat*256+(s.getD 2 0).toNat)*256+(s.getD 3 0).toNat)*256+(s.getD 4 0).toNat
def ES(s:List UInt8):Nat×BB:=
 if s.length<5 then(4,ZT)else if 16384<s.length then(5,ZT)else if 1<=kdB s/\kdB s<=46 then
  ((rdE (FB (kdB s)) (G5 (kdB s) (NL s)) (s.drop 5)).1,if (rdE (FB (kdB s)) (G5 (kdB s) (NL s)) (s.drop 5)).1=0 then(rdE (FB (kdB s)) (G5 (kdB s) (NL s)) (s.drop 5)).2 else ZT)else(15,ZT)
end Go.Tlv
namespace Go.Proofs.Ob
open Go Go.Abs Go.Tlv
noncomputable section
theorem mU{k t:Nat}(h:17<t):hasB k t=false:=by
 unfold hasB
 by_cases hk:k<47
 ·have h2:∀k:Fin 47,∀t:Fin 33,17<t.val->Nat.beq ((VT.getD k.val 0) / 2 ^ t.val % 2) 1=false:=by decide
  have:=h2 ⟨k,hk⟩ ⟨min t 32,by omega⟩ (by show 17<min t 32;omega)
  rw[decide_eq_true hk];exact this
 ·rw[decide_eq_false hk];rfl
def MDr:MDe:=⟨MOr,WF,AEh,MRq AY HZ,MRq BC FH,MRq BA FK,MRq AP FE,MRq stepBlock FD,MRq BF FI,MRq BL FJ,MRq CB GU⟩
theorem ALq:∀x∈puD MDr,EW Tryz.prog 100 x.1 x.2:=fun x hx=>by
 simp only[puD,List.mem_cons,List.not_mem_nil,or_false]at hx
 rcases hx with rfl|rfl|rfl|rfl|rfl|rfl|rfl|rfl|rfl|rfl
 ·exact ALt
 ·exact AGz
 ·exact nP AFK
 ·exact nP ADp
 ·exact nP ADv
 ·exact nP ADn
 ·exact nP ADk
 ·exact nP ADr
 ·exact nP ADt
 ·exact nP AFM
def uI(x:BB)(w:Value)(P:Prop):Prop:=(w=I4/\x.a10=[])∨(w=dsl (rowsOf CS x.a10)/\P)
structure AAk(kd xid:Nat)(l:List At) where
 x:BB
 w:Value
 i:Nat
 inv:YG (FB kd) (G5 kd xid) l x i
 k:x.a0=kd
 wd:uI x w (∃(j:Nat) (b:At),j<i/\l[j]?=some b/\b.t=9)
theorem uI.form{x:BB}{w:Value}{P:Prop}(h:uI x w P):w=I4∨∃A7,w=dsl A7:=h.elim (fun h => .inl h.1) (fun h => .inr ⟨_,h.1⟩)
theorem wkD{x:BB}{w:Value}{AB:Lv}{ex:Lo}(hw:w=I4∨∃A7,w=dsl A7)(hv:A8 159 AB=true):Wk 100 (100+59) AB (rZ::cWo x w::(J5++ex)) AB (rZ::cWo x w::J5):=
 fH (k0:=59) (by have h:J5.length=57:=rfl;simp only[List.length_cons,List.length_append,h];omega) hv (by rcases hw with rfl|⟨A7,rfl⟩<;>rfl)
theorem fF:∀l:Lo,D7 l (List.replicate l.length none)
 | [] => .nil
 |o::l => .cons (.none _) (fF l)
theorem AD9:D7 J5 dH:=fF J5
theorem AB4(x:BB):lM x=(lM x).take 10++dsl (rowsOf CS x.a10)::(lM x).drop 11:=rfl
theorem AKg{x:BB}{w:Value}{P:Prop}(h:uI x w P):Y8 (cWo x w) (some (cM x)):=by
 refine .cells ?_
 rw[AB4,AB5]
 refine JG (.cons ?_ (BR.refl _))
 rcases h with⟨rfl,h⟩ | ⟨rfl,_⟩
 ·rw[h];exact .nilD
 ·exact .refl _
theorem ALJ{x:BB}{w:Value}{P:Prop}(h:uI x w P):Wk 100 (100+59) [pA 100,top,pA 101] (rZ::cWo x w::J5) [pA 100,top,pA 101] (rZ::some (cM x)::dH):=
 CQ (BR.refl _) (.cons (.refl _) (.cons (AKg h) AD9))
theorem ALI{x:BB}{w:Value}{ex:Lo}(hw:w=I4∨∃A7,w=dsl A7):Wk 100 (100+59) [pA 100,.int .i64 3,pA 101] (rZ::cWo x w::(J5++ex)) [pA 100,.int .i64 3,top] (rZ::none::dH):=
 (wkD hw rfl).trans (CQ (.cons (.refl _) (.cons (.refl _) (.cons (.top _) .nil))) (.cons (.refl _) (.cons (.none _) AD9)))
def IDe(kd xid:Nat)(l:List At)(p:AAk kd xid l):Lv×Lo:=([pA 100,pA 101,pA 158,dsl (CZ l),.int .i64 (l.length:Int),.int .i64 (p.i:Int)],rZ::cWo p.x p.w::J5)
def RDe(kd xid:Nat)(l:List At)(e:Exit)(v:Lv)(o:Lo):Prop:=
 (∃x,run (FB kd) (G5 kd xid) l=some x/\e = .exit 1/\v=[pA 100,top,pA 101]/\o=rZ::some (cM x)::dH)∨
 (run (FB kd) (G5 kd xid) l=none/\e = .ret/\v=[pA 100,.int .i64 3,top]/\o=rZ::none::dH)
theorem AJZ(kd xid:Nat)(hkd:kd<256)(l:List At)(hl:l.length<=255)(hen:JS 0 l=0)(hat:∀a∈l,a.t<256)(p:AAk kd xid l):
  Is (wpe Tryz.prog (real Tryz.prog) (AU Z0 spD [(149,sW2 AEh)] [] (puD MDr) []) 300 (.code false (AO Tryz.prog 17 13) (C9 100 84 [2,6,7,58,59,60] [] (IDe kd xid l p))) (BM 100 [2,6,7,58,59,60] [2,3,6] 84 []
   (fun AB AL=>∃a':AAk kd xid l,l.length-a'.i<l.length-p.i/\Wk 100 (100+59) AB AL (IDe kd xid l a').1 (IDe kd xid l a').2/\∀e v o,RDe kd xid l e v o->RDe kd xid l e v o)
   (fun e AB AL=>∃v o,Wk 100 (100+59) AB AL v o/\RDe kd xid l e v o))):=by
 refine⟨?_⟩
 obtain⟨x,w,i,inv,hk,wd⟩:=p
 have hle:i<=l.length:=inv.le
 show AI9 (real Tryz.prog) MDr x w (CZ l) (l.length:Int) (i:Int) (fun AB AL=>∃a':AAk kd xid l,l.length-a'.i<l.length-i/\Wk 100 (100+59) AB AL (IDe kd xid l a').1 (IDe kd xid l a').2/\∀e v o,RDe kd xid l e v o->RDe kd xid l e v o)
   (fun e AB AL=>∃v o,Wk 100 (100+59) AB AL v o/\RDe kd xid l e v o)
 rw[AEN]
 generalize hB:(fun(AB:Lv) (AL:Lo)=>∃a':AAk kd xid l,l.length-a'.i<l.length-i/\Wk 100 (100+59) AB AL (IDe kd xid l a').1 (IDe kd xid l a').2/\∀e v o,RDe kd xid l e v o->RDe kd xid l e v o)=BK
 generalize hO:(fun(e:Exit) (AB:Lv) (AL:Lo)=>∃v o,Wk 100 (100+59) AB AL v o/\RDe kd xid l e v o)=OT
 refine DW (fun hlt=>?_) (fun hge=>?_)
 ·have ha:l[i]?=some l[i]:=List.getElem?_eq_getElem hlt
  have hmem:=List.getElem_mem hlt
  generalize l[i]=a at ha hmem
  obtain⟨e1,e2,e3,e4⟩:=bA hen i a ha
  change a.v.data.toList.length<=65535 at e3
  have h256:=hat a hmem
  have hms:l.length-(i+1)<l.length-i:=by omega
  have hv0:a.v.data.toList≠[]:=fun h=>e2 (by unfold At.len;rw[h];rfl)
  have nx:∀(x':BB) (w':Value) (ex:Lo),FB kd x a=some x'->x'.a0=kd->uI x' w' (∃(j:Nat) (b:At),j<i+1/\l[j]?=some b/\b.t=9)->nxD (real Tryz.prog) (CZ l) (l.length:Int) (i:Int) (rZ::cWo x' w'::(J5++ex)) BK:=fun x' w' ex hs h0 hw=>by
   subst hB
   exact BS (by omega) ⟨rfl,⟨x',w',i+1,inv.next ha hs,h0,hw⟩,hms,wkD hw.form rfl,fun _ _ _ h=>h⟩
  have no:∀(x':BB) (w':Value) (ex:Lo),FB kd x a=none->(w'=I4∨∃A7,w'=dsl A7)->noD (rZ::cWo x' w'::(J5++ex)) OT:=fun x' w' ex hs hw=>by
   subst hO
   exact⟨rfl,_,_,ALI hw,.inr ⟨inv.bad ha hs,rfl,rfl,rfl⟩⟩
  have wdn:∀x':BB,x'.a10=x.a10->uI x' w (∃(j:Nat) (b:At),j<i+1/\l[j]?=some b/\b.t=9):=fun x' h=>wd.elim (fun g => .inl ⟨g.1,h.trans g.2⟩) (fun⟨g,j,b,g1,g2,g3⟩ => .inr ⟨by rw[h];exact g,j,b,by omega,g2,g3⟩)
  have go:∀(x':BB) (ex:Lo) (e:Nat),(e=0->FB kd x a=some x')->(e≠0->FB kd x a=none)->x'.a0=kd->x'.a10=x.a10->goD (real Tryz.prog) x' w (CZ l) (l.length:Int) (i:Int) ex (e:Int) BK OT:=fun x' ex e h1 h2 h3 h4=>
   CG (d:=0) (fun h=>nx x' w ex (h1 h) h3 (wdn x' h4)) (fun h=>no x' w ex (h2 h) wd.form)
  refine EG i rfl (GH ha) rfl (EN (z:=(a.t:Int)) rfl (JM (z:=a.v) rfl ⟨x.a0,a.t,rfl,rfl,by omega,h256,fun hb=>?_,fun hb=>?_⟩))
  ·rw[hk]at hb
   have fl:FB kd x a=fld x a.t a.v.data.toList:=by unfold FB;rw[if_pos e3,if_pos hb]
   have h17:a.t<=17:=by
    refine Nat.le_of_not_lt fun h=>?_
    have:=mU (k:=kd) h
    rw[this]at hb;cases hb
   have hc:a.t=1∨a.t=2∨a.t=3∨a.t=4∨a.t=5∨a.t=6∨a.t=7∨a.t=8∨a.t=9∨a.t=10∨a.t=11∨a.t=12∨a.t=13∨a.t=14∨a.t=15∨a.t=16∨a.t=17:=by omega
   rcases hc with h|h|h|h|h|h|h|h|h|h|h|h|h|h|h|h|h
   ·refine⟨1,_,by rw[h],rfl,?_⟩
    refine⟨2147483647,rfl,fun n hn=>?_,fun hn=>?_⟩
    ·exact BI CW DU (AX (by have:=(BV hn).2.1;omega)) (go {x with a2:=(n:Int)} _ 0 (fun _=>by rw[fl,h];show(AV 2147483647 a.v.data.toList).map _=_;unfold AV;rw[hn];rfl) (fun h=>absurd rfl h) hk rfl)
    ·exact BI (m:=0) CW DU (AX (by omega)) (go {x with a2:=((0:Nat):Int)} _ 3 (fun h=>absurd h (by decide)) (fun _=>by rw[fl,h];show(AV 2147483647 a.v.data.toList).map _=_;unfold AV;rw[hn];rfl) hk rfl)
   ·refine⟨2,_,by rw[h],rfl,?_⟩
    refine⟨2147483647,rfl,fun n hn=>?_,fun hn=>?_⟩
    ·exact BI CW DU (AX (by have:=(BV hn).2.1;omega)) (go {x with a3:=(n:Int)} _ 0 (fun _=>by rw[fl,h];show(AV 2147483647 a.v.data.toList).map _=_;unfold AV;rw[hn];rfl) (fun h=>absurd rfl h) hk rfl)
    ·exact BI (m:=0) CW DU (AX (by omega)) (go {x with a3:=((0:Nat):Int)} _ 3 (fun h=>absurd h (by decide)) (fun _=>by rw[fl,h];show(AV 2147483647 a.v.data.toList).map _=_;unfold AV;rw[hn];rfl) hk rfl)
   ·refine⟨3,_,by rw[h],rfl,?_⟩
    refine⟨2147483647,rfl,fun n hn=>?_,fun hn=>?_⟩
    ·exact BI CW DU (AX (by have:=(BV hn).2.1;omega)) (go {x with a4:=(n:Int)} _ 0 (fun _=>by rw[fl,h];show(AV 2147483647 a.v.data.toList).map _=_;unfold AV;rw[hn];rfl) (fun h=>absurd rfl h) hk rfl)
    ·exact BI (m:=0) CW DU (AX (by omega)) (go {x with a4:=((0:Nat):Int)} _ 3 (fun h=>absurd h (by decide)) (fun _=>by rw[fl,h];show(AV 2147483647 a.v.data.toList).map _=_;unfold AV;rw[hn];rfl) hk rfl)
   ·refine⟨4,_,by rw[h],rfl,?_⟩
    refine⟨2147483647,rfl,fun n hn=>?_,fun hn=>?_⟩
    ·exact BI CW DU (AX (by have:=(BV hn).2.1;omega)) (go {x with a5:=(n:Int)} _ 0 (fun _=>by rw[fl,h];show(AV 2147483647 a.v.data.toList).map _=_;unfold AV;rw[hn];rfl) (fun h=>absurd rfl h) hk rfl)
    ·exact BI (m:=0) CW DU (AX (by omega)) (go {x with a5:=((0:Nat):Int)} _ 3 (fun h=>absurd h (by decide)) (fun _=>by rw[fl,h];show(AV 2147483647 a.v.data.toList).map _=_;unfold AV;rw[hn];rfl) hk rfl)
   ·refine⟨5,_,by rw[h],rfl,?_⟩
    refine⟨2147483647,rfl,fun n hn=>?_,fun hn=>?_⟩
    ·exact BI CW DU (AX (by have:=(BV hn).2.1;omega)) (go {x with a6:=(n:Int)} _ 0 (fun _=>by rw[fl,h];show(AV 2147483647 a.v.data.toList).map _=_;unfold AV;rw[hn];rfl) (fun h=>absurd rfl h) hk rfl)
    ·exact BI (m:=0) CW DU (AX (by omega)) (go {x with a6:=((0:Nat):Int)} _ 3 (fun h=>absurd h (by decide)) (fun _=>by rw[fl,h];show(AV 2147483647 a.v.data.toList).map _=_;unfold AV;rw[hn];rfl) hk rfl)
   ·refine⟨6,_,by rw[h],rfl,?_⟩
    refine⟨18446744073709551615,rfl,fun n hn=>?_,fun hn=>?_⟩
    ·exact go {x with a7:=n} _ 0 (fun _=>by rw[fl,h];show(DN 18446744073709551615 a.v.data.toList).map _=_;unfold DN;rw[hn];rfl) (fun h=>absurd rfl h) hk rfl
    ·exact go {x with a7:=0} _ 3 (fun h=>absurd h (by decide)) (fun _=>by rw[fl,h];show(DN 18446744073709551615 a.v.data.toList).map _=_;unfold DN;rw[hn];rfl) hk rfl
   ·refine⟨7,_,by rw[h],rfl,?_⟩
    refine⟨18446744073709551615,rfl,fun n hn=>?_,fun hn=>?_⟩
    ·exact go {x with a8:=n} _ 0 (fun _=>by rw[fl,h];show(DN 18446744073709551615 a.v.data.toList).map _=_;unfold DN;rw[hn];rfl) (fun h=>absurd rfl h) hk rfl
    ·exact go {x with a8:=0} _ 3 (fun h=>absurd h (by decide)) (fun _=>by rw[fl,h];show(DN 18446744073709551615 a.v.data.toList).map _=_;unfold DN;rw[hn];rfl) hk rfl
   ·refine⟨8,_,by rw[h],rfl,?_⟩
    have hs:FB kd x a=some {x with a9:=a.v}:=by rw[fl,h];show some {x with a9:=bytesOf a.v.data.toList}=_;rw[bytes_eta]
    exact nx {x with a9:=a.v} w _ hs hk (wdn _ rfl)
   ·refine⟨9,_,by rw[h],rfl,?_⟩
    have hw0:w=I4/\x.a10=[]:=wd.resolve_right fun⟨_,j,b,g1,g2,g3⟩=>by
     have:=e4 j b g1 g2;omega
    refine⟨x,by rw[hw0.1],fun ws hws=>?_,fun hws ws=>?_⟩
    ·have hs:FB kd x a=some {x with a10:=ws}:=by rw[fl,h];show(D9 ET 128 a.v.data.toList).map _=_;rw[hws];rfl
     exact nx {x with a10:=ws} (dsl (rowsOf CS ws)) _ hs hk (.inr ⟨rfl,i,a,by omega,ha,h⟩)
    ·exact no x (dsl (rowsOf CS ws)) _ (by rw[fl,h];show(D9 ET 128 a.v.data.toList).map _=_;rw[hws];rfl) (.inr ⟨_,rfl⟩)
   ·refine⟨10,_,by rw[h],rfl,?_⟩
    exact⟨rfl,go {x with n:=(rdE AY HZ a.v.data.toList).2} _ _ (fun h0=>by rw[fl,h];show(rdO AY HZ a.v.data.toList).map _=_;unfold rdO;rw[if_pos h0];rfl) (fun h0=>by rw[fl,h];show(rdO AY HZ a.v.data.toList).map _=_;unfold rdO;rw[if_neg h0];rfl) hk rfl⟩
   ·refine⟨11,_,by rw[h],rfl,?_⟩
    exact⟨rfl,go {x with f:=(rdE BC FH a.v.data.toList).2} _ _ (fun h0=>by rw[fl,h];show(rdO BC FH a.v.data.toList).map _=_;unfold rdO;rw[if_pos h0];rfl) (fun h0=>by rw[fl,h];show(rdO BC FH a.v.data.toList).map _=_;unfold rdO;rw[if_neg h0];rfl) hk rfl⟩
   ·refine⟨12,_,by rw[h],rfl,?_⟩
    exact⟨rfl,go {x with t:=(rdE BA FK a.v.data.toList).2} _ _ (fun h0=>by rw[fl,h];show(rdO BA FK a.v.data.toList).map _=_;unfold rdO;rw[if_pos h0];rfl) (fun h0=>by rw[fl,h];show(rdO BA FK a.v.data.toList).map _=_;unfold rdO;rw[if_neg h0];rfl) hk rfl⟩
   ·refine⟨13,_,by rw[h],rfl,?_⟩
    exact⟨rfl,go {x with e:=(rdE AP FE a.v.data.toList).2} _ _ (fun h0=>by rw[fl,h];show(rdO AP FE a.v.data.toList).map _=_;unfold rdO;rw[if_pos h0];rfl) (fun h0=>by rw[fl,h];show(rdO AP FE a.v.data.toList).map _=_;unfold rdO;rw[if_neg h0];rfl) hk rfl⟩
   ·refine⟨14,_,by rw[h],rfl,?_⟩
    exact⟨rfl,go {x with b:=(rdE stepBlock FD a.v.data.toList).2} _ _ (fun h0=>by rw[fl,h];show(rdO stepBlock FD a.v.data.toList).map _=_;unfold rdO;rw[if_pos h0];rfl) (fun h0=>by rw[fl,h];show(rdO stepBlock FD a.v.data.toList).map _=_;unfold rdO;rw[if_neg h0];rfl) hk rfl⟩
   ·refine⟨15,_,by rw[h],rfl,?_⟩
    exact⟨rfl,go {x with g:=(rdE BF FI a.v.data.toList).2} _ _ (fun h0=>by rw[fl,h];show(rdO BF FI a.v.data.toList).map _=_;unfold rdO;rw[if_pos h0];rfl) (fun h0=>by rw[fl,h];show(rdO BF FI a.v.data.toList).map _=_;unfold rdO;rw[if_neg h0];rfl) hk rfl⟩
   ·refine⟨16,_,by rw[h],rfl,?_⟩
    exact⟨rfl,go {x with m:=(rdE BL FJ a.v.data.toList).2} _ _ (fun h0=>by rw[fl,h];show(rdO BL FJ a.v.data.toList).map _=_;unfold rdO;rw[if_pos h0];rfl) (fun h0=>by rw[fl,h];show(rdO BL FJ a.v.data.toList).map _=_;unfold rdO;rw[if_neg h0];rfl) hk rfl⟩
   ·refine⟨17,_,by rw[h],rfl,?_⟩
    exact⟨rfl,go {x with r:=(rdE CB GU a.v.data.toList).2} _ _ (fun h0=>by rw[fl,h];show(rdO CB GU a.v.data.toList).map _=_;unfold rdO;rw[if_pos h0];rfl) (fun h0=>by rw[fl,h];show(rdO CB GU a.v.data.toList).map _=_;unfold rdO;rw[if_neg h0];rfl) hk rfl⟩
  ·rw[hk]at hb
   refine no x w _ ?_ wd.form
   unfold FB
   rw[if_pos e3,hb,if_neg (by simp),if_neg (fun h=>hv0 h.1)]
 ·subst hO
  exact⟨rfl,_,_,ALJ wd,.inl ⟨x,inv.last (by omega),rfl,rfl,rfl⟩⟩
def AIx:LDe:=fun c n AB obs A E=>∃(kd xid:Nat) (l:List At),kd<256/\l.length<=255/\JS 0 l=0/\(∀a∈l,a.t<256)/\c=AO Tryz.prog 17 13/\n=84/\AB=[pA 100,pA 101,pA 158,dsl (CZ l),.int .i64 (Int.ofNat l.length),.int .i64 (0:Int)]/\obs=rZ::rZk (kd:Int) (xid:Int)::J5/\
 (∀x,run (FB kd) (G5 kd xid) l=some x->A x)/\(run (FB kd) (G5 kd xid) l=none->E)
theorem AIo(kd xid:Nat):Y8 (rZk (kd:Int) (xid:Int)) (cWo (G5 kd xid) I4) := .cells (by repeat first|exact .nil|refine .cons (.refl _) ?_|refine .cons .nilD ?_)
theorem AIp:EI rZv (JO ZT):=EI.agg (by repeat first|exact .nil|refine .cons (.refl _) ?_|refine .cons .nilD ?_)
theorem AKO:BH Tryz.prog 100 [2,6,7,58,59,60] (AGB AIx):=by
 show BH Tryz.prog 100 [2,6,7,58,59,60] (lpS [2,3,6] _)
 refine FW okp (W:=AU Z0 spD [(149,sW2 AEh)] [] (puD MDr) []) (O1 (fun x hx=>by simp only[List.mem_singleton]at hx;subst hx;exact ALb) ALq) (E9 fun x hx=>by cases hx) ?_
 rintro c n AB obs K ⟨kd,xid,l,hkd,hl,hen,hat,hc,hn,hv,ho,hA,hE⟩
 subst hc;subst hn;subst hv;subst ho
 refine⟨AAk kd xid l,59,300,fun p=>l.length-p.i,IDe kd xid l,fun _ e v o=>RDe kd xid l e v o,⟨G5 kd xid,I4,0,⟨Nat.zero_le _,rfl⟩,rfl,.inl ⟨rfl,rfl⟩⟩,rfl,?_,?_,AJZ kd xid hkd l hl hen hat⟩
 ·exact CQ (BR.refl _) (.cons (.refl _) (.cons (AIo kd xid) (D7.refl _)))
 intro e v o hR
 rcases hR with⟨x,h1,rfl,rfl,rfl⟩ | ⟨h1,rfl,rfl,rfl⟩
 ·exact hA x h1
 ·exact hE h1
theorem nK{m:Nat}{K:Int->Prop}(k p:Nat)(hp:(2:Int) ^ (min (k:Int).toNat 32)=(p:Int))(hm:m*p<4294967296)(hk:K ((m*p:Nat):Int)):(real Tryz.prog).ari .shl .u32 (m:Int) .u64 (k:Int) K:=by
 refine⟨((m*p:Nat):Int),?_,hk⟩
 have e:IntKind.u32.wrap ((m:Int)*2 ^ (min (k:Int).toNat IntKind.u32.bits))=((m*p:Nat):Int):=by
  rw[show(2:Int) ^ (min (k:Int).toNat IntKind.u32.bits)=(p:Int)from hp,←Int.natCast_mul];exact JP hm
 simp only[FU,e];rfl
theorem vT{m b i:Nat}{K:Int->Prop}(hb:b<2 ^ i)(hm:m*2 ^ i+b<4294967296)(hk:K ((m*2 ^ i+b:Nat):Int)):(real Tryz.prog).ari .or .u32 ((m*2 ^ i:Nat):Int) .u32 (b:Int) K:=by
 refine⟨((m*2 ^ i+b:Nat):Int),?_,hk⟩
 have e:IntKind.u32.wrap ((BitVec.ofInt IntKind.u32.bits ((m*2 ^ i:Nat):Int)) ||| (BitVec.ofInt IntKind.u32.bits (b:Int))).toNat=((m*2 ^ i+b:Nat):Int):=by
  rw[BitVec.toNat_or]
  have h1:(BitVec.ofInt IntKind.u32.bits ((m*2 ^ i:Nat):Int)).toNat=m*2 ^ i:=by
   rw[BitVec.ofInt_natCast,BitVec.toNat_ofNat];exact Nat.mod_eq_of_lt (by show m*2 ^ i<2 ^ 32;omega)
  have h2:(BitVec.ofInt IntKind.u32.bits (b:Int)).toNat=b:=by
   rw[BitVec.ofInt_natCast,BitVec.toNat_ofNat];exact Nat.mod_eq_of_lt (by show b<2 ^ 32;omega)
  have h3:(m*2 ^ i) ||| b=m*2 ^ i+b:=by
   have:=Nat.shiftLeft_add_eq_or_of_lt (i:=i) (b:=b) hb m
   rw[Nat.shiftLeft_eq]at this
   exact this.symm
  rw[h1,h2,h3];exact JP hm
 simp only[FU,e];rfl
theorem p24:(2:Nat) ^ 24=16777216:=by decide +kernel
theorem p16:(2:Nat) ^ 16=65536:=by decide +kernel
theorem p8:(2:Nat) ^ 8=256:=by decide +kernel
theorem xi2(a b:Nat):a*2 ^ 24+b*65536=(a*256+b)*2 ^ 16:=by rw[p24,p16];omega
theorem xi3(a b c:Nat):(a*256+b)*2 ^ 16+c*256=((a*256+b)*256+c)*2 ^ 8:=by rw[p16,p8];omega
theorem xi4(a b c d:Nat):((a*256+b)*256+c)*2 ^ 8+d=((a*256+b)*256+c)*256+d:=by rw[p8]
theorem xiC{s:ByteArray}(h5:5<=s.data.toList.length){K:Int->Int->Prop}(hk:K (kdB s.data.toList:Int) (NL s.data.toList:Int)):xiN (real Tryz.prog) s K:=by
 obtain⟨b0,b1,b2,b3,b4,r,hs⟩:∃b0 b1 b2 b3 b4 r,s.data.toList=b0::b1::b2::b3::b4::r:=by
  generalize s.data.toList=ll at h5
  rcases ll with _|⟨b0,_|⟨b1,_|⟨b2,_|⟨b3,_|⟨b4,r⟩⟩⟩⟩⟩
  ·simp at h5
  ·simp at h5
  ·simp at h5
  ·simp at h5
  ·simp at h5
  ·exact⟨b0,b1,b2,b3,b4,r,rfl⟩
 rw[hs]at hk
 have l1:b1.toNat<256:=b1.toNat_lt
 have l2:b2.toNat<256:=b2.toNat_lt
 have l3:b3.toNat<256:=b3.toNat_lt
 have l4:b4.toNat<256:=b4.toNat_lt
 have hx:NL (b0::b1::b2::b3::b4::r)=((b1.toNat*256+b2.toNat)*256+b3.toNat)*256+b4.toNat:=by
  unfold NL;simp only[List.getD_cons_succ,List.getD_cons_zero]
 have hz:kdB (b0::b1::b2::b3::b4::r)=b0.toNat:=by unfold kdB;rw[List.getD_cons_zero]
 rw[hx,hz]at hk
 have e2:=xi2 b1.toNat b2.toNat
 have e3:=xi3 b1.toNat b2.toNat b3.toNat
 have e4:=xi4 b1.toNat b2.toNat b3.toNat b4.toNat
 have hp24:(2:Int) ^ (min ((24:Nat):Int).toNat 32)=((16777216:Nat):Int):=by decide +kernel
 have hp16:(2:Int) ^ (min ((16:Nat):Int).toNat 32)=((65536:Nat):Int):=by decide +kernel
 have hp8:(2:Int) ^ (min ((8:Nat):Int).toNat 32)=((256:Nat):Int):=by decide +kernel
 unfold xiN
 refine IW 0 rfl (by rw[hs];rfl) (IW 1 rfl (by rw[hs];rfl) (BI uU8 tY (JP (by omega)) (nK 24 16777216 hp24 (by omega) (IW 2 rfl (by rw[hs];rfl) (BI uU8 tY (JP (by omega)) (nK 16 65536 hp16 (by omega) ?_))))))
 refine vT (i:=24) (m:=b1.toNat) (by rw[p24];omega) (by rw[p24];omega) ?_
 rw[e2]
 refine IW 3 rfl (by rw[hs];rfl) (BI uU8 tY (JP (by omega)) (nK 8 256 hp8 (by omega) ?_))
 refine vT (i:=16) (m:=b1.toNat*256+b2.toNat) (by rw[p16];omega) (by rw[p16];omega) ?_
 rw[e3]
 refine IW 4 rfl (by rw[hs];rfl) (BI uU8 tY (JP (by omega)) ?_)
 refine vT (i:=8) (m:=(b1.toNat*256+b2.toNat)*256+b3.toNat) (by rw[p8];omega) (by rw[p8];omega) ?_
 rw[e4]
 exact hk
def rvM(q:Nat×BB):Value := .tuple ⟨[JO q.2,.int .i64 (q.1:Int)]⟩
theorem erW{e:Nat}{q:Nat×BB}(h:q=(e,ZT)):EI (erD (e:Int)) (rvM q):=by
 subst h;exact .tup (.cons AIp (BR.refl _))
theorem ALG{s:ByteArray}(h:5<=s.data.toList.length):∃b:UInt8,s.data.toList[0]?=some b/\b.toNat=kdB s.data.toList:=by
 unfold kdB
 generalize s.data.toList=l at h ⊢
 cases l with
 |nil=>simp at h
 |cons b l=>exact⟨b,rfl,rfl⟩
theorem deC(s:ByteArray):Is (AI8 (real Tryz.prog) MD AIx s (fun v=>EI v (rvM (ES s.data.toList)))):=by
 refine⟨?_⟩
 rw[AEM]
 refine FQ (DW (d:=5) (fun h=>erW (e:=4) (by unfold ES;rw[if_pos h])) (fun h=>FQ (zG (fun h2=>erW (e:=5) (by unfold ES;rw[if_neg (by omega),if_pos (by omega)])) (fun h2=>?_))))
 obtain⟨b,hb,hkd⟩:=ALG (s:=s) (by omega)
 have h256:b.toNat<256:=b.toNat_lt
 refine IW 0 rfl hb (AC0 (fun h3=>zH (d:=46) (fun h4=>?_) (fun h4=>erW (e:=15) (by unfold ES;rw[if_neg (by omega),if_neg (by omega),if_neg (by omega)]))) (fun h3=>erW (e:=15) (by unfold ES;rw[if_neg (by omega),if_neg (by omega),if_neg (by omega)])))
 have hd:ES s.data.toList=((rdE (FB (kdB s.data.toList)) (G5 (kdB s.data.toList) (NL s.data.toList)) (s.data.toList.drop 5)).1,if (rdE (FB (kdB s.data.toList)) (G5 (kdB s.data.toList) (NL s.data.toList)) (s.data.toList.drop 5)).1=0 then(rdE (FB (kdB s.data.toList)) (G5 (kdB s.data.toList) (NL s.data.toList)) (s.data.toList.drop 5)).2 else ZT):=by
  unfold ES;rw[if_neg (by omega),if_neg (by omega),if_pos (by omega)]
 refine IP 5 rfl (by omega) ⟨fun h0=>xiC (by omega) ?_,fun h3=>?_,fun h4=>?_⟩
 ·rw[AZ]at h0 ⊢
  have hde:CP 0 (s.data.toList.drop 5)=(0,(CP 0 (s.data.toList.drop 5)).2):=Prod.ext h0 rfl
  obtain⟨k1,k2,k3⟩:=UK _ _ 0 _ (Nat.le_refl _) hde
  refine CL _ (FY _) ⟨kdB s.data.toList,NL s.data.toList,_,by omega,I7 _,k1,k3,rfl,rfl,rfl,rfl,fun x hx=>?_,fun hx=>erW (e:=3) ?_⟩
  ·rw[hd,OJ h0 hx];exact EI.refl _
  ·rw[hd,OI h0 hx];rfl
 ·rw[AZ]at h3
  exact erW (e:=3) (by rw[hd,FX (by omega),h3];rfl)
 ·rw[AZ]at h4
  exact erW (e:=4) (by rw[hd,FX (by omega),h4];rfl)
theorem AKC(s:ByteArray)(B:Base)(H:Heap):BP Tryz.prog 100 B 17 [.string s] H (.returned (rvM (ES s.data.toList))) H:=
 OG (DI (EO OE)) (E9 (fun x hx=>by simp only[List.mem_singleton]at hx;subst hx;exact AKO)) rfl rfl (deC s) B H
abbrev MD1:=ByteArray->(BB->Int->Prop)->Prop
def sD1(M:MD1):Lv->(Value->Prop)->Prop
 | [.string s],K=>M s fun x e=>K (.tuple ⟨[JO x,.int .i64 e]⟩)
 |_,_=>False
def AIG:MD1:=fun s K=>K (ES s.data.toList).2 ((ES s.data.toList).1:Int)
end
end Go.Proofs.Ob
namespace Go.Proofs.Ob
open Go Go.Abs Go.Tlv
theorem AC7{kd xid:Nat}{x:BB}(h:jF kd xid x)(hk:kd<256)(hx:xid<4294967296):okP x where
 a0:=by rw[h.k];exact hk
 a1:=by rw[h.q];exact hx
 a7:=by have:x.a7<=18446744073709551615:=h.f.a7;omega
 a8:=by have:x.a8<=18446744073709551615:=h.f.a8;omega
 w:=by have:=h.f.a10.1;omega
 wn:=fun y hy=>by have:y<=18446744073709551615:=h.f.a10.2 y hy;show y<18446744073709551616;omega
 n:=⟨(ZB h.f.n).1,(ZB h.f.n).2.1⟩
 f:=⟨(XI h.f.f).1,(XI h.f.f).2.1⟩
 t:=⟨(XM h.f.t).1,(XM h.f.t).2.1⟩
 e:=⟨(XH h.f.e).1,(XH h.f.e).2.1⟩
 b:=⟨(XG h.f.b).1,(XG h.f.b).2.1⟩
 g:=⟨(XJ h.f.g).1,(XJ h.f.g).2.1⟩
 m:=⟨(XK h.f.m).1,(XK h.f.m).2.1⟩
 r:=⟨(ZC h.f.r).1,(ZC h.f.r).2.1⟩
theorem AJI:okP ZT:=AC7 (AFZ 0 0).z (by omega) (by omega)
theorem yN{s:List UInt8}(h:(ES s).1≠0):(ES s).2=ZT:=by
 unfold ES at h ⊢
 split
 ·rfl
 ·rename_i h1
  rw[if_neg h1]at h
  split
  ·rfl
  ·rename_i h2
   rw[if_neg h2]at h
   split
   ·rename_i h3
    rw[if_pos h3]at h
    exact if_neg h
   ·rfl
theorem AGX(a b c d:Nat)(ha:a<256)(hb:b<256)(hc:c<256)(hd:d<256):(((a*256+b)*256+c)*256+d) / 16777216 % 256=a/\(((a*256+b)*256+c)*256+d) / 65536 % 256=b/\(((a*256+b)*256+c)*256+d) / 256 % 256=c/\(((a*256+b)*256+c)*256+d) % 256=d:=by omega
theorem five{s:List UInt8}(h5:5<=s.length):∃b0 b1 b2 b3 b4 r,s=b0::b1::b2::b3::b4::r:=by
 rcases s with _|⟨b0,_|⟨b1,_|⟨b2,_|⟨b3,_|⟨b4,r⟩⟩⟩⟩⟩
 ·simp at h5
 ·simp at h5
 ·simp at h5
 ·simp at h5
 ·simp at h5
 ·exact⟨b0,b1,b2,b3,b4,r,rfl⟩
theorem xE(b0 b1 b2 b3 b4:UInt8)(r:List UInt8):NL (b0::b1::b2::b3::b4::r)=((b1.toNat*256+b2.toNat)*256+b3.toNat)*256+b4.toNat:=by
 unfold NL;simp only[List.getD_cons_succ,List.getD_cons_zero]
theorem AGt(b0:UInt8)(r:List UInt8):kdB (b0::r)=b0.toNat:=by unfold kdB;rw[List.getD_cons_zero]
theorem AKF{s:List UInt8}(h5:5<=s.length):hdB (kdB s) (NL s)++s.drop 5=s:=by
 obtain⟨b0,b1,b2,b3,b4,r,rfl⟩:=five h5
 rw[AGt,xE]
 obtain⟨e1,e2,e3,e4⟩:=AGX b1.toNat b2.toNat b3.toNat b4.toNat b1.toNat_lt b2.toNat_lt b3.toNat_lt b4.toNat_lt
 unfold hdB
 rw[e1,e2,e3,e4]
 simp only[UInt8.ofNat_toNat]
 rfl
theorem AJq(s:List UInt8):kdB s<256:=(s.getD 0 0).toNat_lt
theorem AIr{s:List UInt8}(h5:5<=s.length):NL s<4294967296:=by
 obtain⟨b0,b1,b2,b3,b4,r,rfl⟩:=five h5
 rw[xE]
 have l1:b1.toNat<256:=b1.toNat_lt
 have l2:b2.toNat<256:=b2.toNat_lt
 have l3:b3.toNat<256:=b3.toNat_lt
 have l4:b4.toNat<256:=b4.toNat_lt
 omega
theorem ACb{s:List UInt8}{z:BB}(h:ES s=(0,z)):AEB z=0/\AGm z=s/\AFr z=true/\okP z/\jF (kdB s) (NL s) z/\rdE (FB (kdB s)) (G5 (kdB s) (NL s)) (s.drop 5)=(0,z):=by
 unfold ES at h
 split at h
 ·simp at h
 rename_i h5
 split at h
 ·simp at h
 rename_i h6
 split at h
 ·rename_i h7
  simp only[Prod.mk.injEq]at h
  obtain⟨g1,g2⟩:=h
  rw[if_pos g1]at g2
  have hr:rdE (FB (kdB s)) (G5 (kdB s) (NL s)) (s.drop 5)=(0,z):=Prod.ext g1 g2
  obtain⟨k1,k2⟩:=(AFZ (kdB s) (NL s)).rd_ok hr
  have hm:AFr z=true:=by
   unfold AFr ACE
   rw[AAO k1,k1.k,decide_eq_true h7.1,decide_eq_true h7.2];rfl
  have k3:encS (bY z)=s.drop 5:=k2
  have k4:JS 0 (bY z)=0:=(AFZ (kdB s) (NL s)).encA k1
  have he:AEB z=0:=by
   unfold AEB
   rw[if_pos hm,if_pos k4,if_neg (by rw[k3,List.length_drop];omega)]
  refine⟨he,?_,hm,AC7 k1 (AJq s) (AIr (by omega)),k1,hr⟩
  unfold AGm
  rw[if_pos he,k3,ACy,k1.k,k1.q]
  exact AKF (by omega)
 ·simp at h
end Go.Proofs.Ob
namespace Go.Proofs.Ob
open Go Go.Abs Go.Tlv
noncomputable section
end
end Go.Proofs.Ob
