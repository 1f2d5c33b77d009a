/- . -/
import Derived.Test.YtblbaohcelldpaaGreatDoorS4
set_option linter.all false
set_option maxRecDepth 100000
namespace Go.Proofs.Ob
open Go Go.Abs Go.Tlv
noncomputable section
def sy0(b:Nat):Option Bool:=match Nat.beq b 100 with|true=>some true|false=>none
abbrev LEt:=Code->Nat->Lv->Lo->(Nat->Option AA->Prop)->(Int->Prop)->Prop
def vU(L:LEt):LpS:=lpS [2,3,4] fun c n AB obs K=>L c n AB obs (fun k ob=>K (.exit 0) [top,top,mkS 100 k] [ob]) (fun e=>K .ret [.string (bytesOf []),.int .i64 e,top] [])
def WE(L:LEt):How:=AP sy0 (fun _=>false) [] [(4,(47,([4,5,8,9,10],vU L)))] [] []
def WS:How:=AP sy0 (fun _=>false) [] [] [] []
def AC1(N:Nd)(L:LEt)(rs:Lv)(K:RK):Prop:=wpe Tryz.prog N (WE L) 300 (.call 36 [(dsl rs)] h0) (FD 100 K)
def ALh(N:Nd)(k:Nat)(ob:Option AA)(last:Int)(rs:Lv)(n i:Int)(back:Bk)(out:Ot):Prop:=
 wpe Tryz.prog N WS 300 (.code false (AJ Tryz.prog 36 4) (CX 100 47 [4,5,8,9,10] [] ([mkS 100 k,.int .u8 last,dsl rs,.int .i64 n,.int .i64 i],[ob]))) (A7 100 [4,5,8,9,10] [2,3,4] 47 [] back out)
theorem ABo(N:Nd)(L:LEt)(rs:Lv)(K:RK):AC1 N L rs K=(N.dlen rs (fun o0=>L (AJ Tryz.prog 36 4) 47 [.slice none 0 0,.int .u8 0,dsl rs,(.int .i64 (Int.ofNat o0)),.int .i64 0] [] (fun o1 l2=>N.strM o1 l2 (fun s3=>K (.tuple (Array.mk [.string s3,.int .i64 0])) [l2])) (fun z1=>K (.tuple (Array.mk [.string (bytesOf []),.int .i64 z1])) []))):=by kernel_rfl
theorem AGQ(N:Nd)(k:Nat)(ob:Option AA)(last:Int)(rs:Lv)(n i:Int)(back:Bk)(out:Ot):ALh N k ob last rs n i back out=(N.cmp .lss .i64 i .i64 n (N.dget rs i 2 (fun l0=>N.rdI .u8 l0 0 (fun z1=>N.rdS l0 1 (fun s2=>N.cmp .leq .u8 z1 .u8 last (nD/\(out Exit.ret [.string (bytesOf []),.int .i64 3,(.iface 1000000021 (.slice (some ⟨100,0,none⟩) k k))] [ob,qq6 z1 s2])) (N.scmp .eql s2 (bytesOf []) (nD/\(out Exit.ret [.string (bytesOf []),.int .i64 3,(.iface 1000000021 (.slice (some ⟨100,0,none⟩) k k))] [ob,qq6 z1 s2])) (N.slen s2 (fun z3=>N.cmp .gtr .i64 z3 .i64 65535 (nD/\(out Exit.ret [.string (bytesOf []),.int .i64 5,(.iface 1000000021 (.slice (some ⟨100,0,none⟩) k k))] [ob,qq6 z1 s2])) (N.base true k k ob 5 1 (fun l4=>N.appX k l4 1 [.int .u8 z1] 1 1 (fun l5 o6=>N.slen s2 (fun z7=>N.ari .shr .i64 z7 .u64 8 (fun z8=>N.conv 3 5 .i64 z8 .u8 (fun z9=>N.conv 3 5 .i64 z7 .u8 (fun z10=>N.base false o6 o6 (some (AA.cells l5 5 1 true true)) 5 1 (fun l11=>N.appX o6 l11 2 [.int .u8 z9,.int .u8 z10] 1 1 (fun l12 o13=>N.base false o13 o13 (some (AA.cells l12 5 1 true true)) 5 1 (fun l14=>N.appS o13 l14 s2 1 (((qq6 z1 s2)=(qq6 z1 s2))/\(((qq6 z1 s2)=(qq6 z1 s2))/\(((qq6 z1 s2)=(qq6 z1 s2))/\(((qq6 z1 s2)=(qq6 z1 s2))/\(((qq6 z1 s2)=(qq6 z1 s2))/\(((qq6 z1 s2)=(qq6 z1 s2))/\(N.ari .add .i64 i .i64 1 (fun z15=>nD/\(back [(.slice (some ⟨105,0,none⟩) o13 o13),.int .u8 z1,dsl rs,.int .i64 n,.int .i64 z15] [none,qq6 z1 s2,(some (AA.cells [.int .u8 z1] 5 1 false true)),none,AKF z9 z10,(some (AA.cells l12 5 1 true true))]))))))))) (fun l15 o16=>((qq6 z1 s2)=(qq6 z1 s2))/\(((qq6 z1 s2)=(qq6 z1 s2))/\(((qq6 z1 s2)=(qq6 z1 s2))/\(((qq6 z1 s2)=(qq6 z1 s2))/\(((qq6 z1 s2)=(qq6 z1 s2))/\(((qq6 z1 s2)=(qq6 z1 s2))/\(N.ari .add .i64 i .i64 1 (fun z17=>nD/\(back [(.slice (some ⟨106,0,none⟩) o16 o16),.int .u8 z1,dsl rs,.int .i64 n,.int .i64 z17] [none,qq6 z1 s2,(some (AA.cells [.int .u8 z1] 5 1 false true)),none,AKF z9 z10,none,(some (AA.cells l15 5 1 true true))])))))))))))))))))))))))))) (nD/\(out (Exit.exit 0) [(.chan (some 0)),(.chan (some 0)),(.iface 1000000021 (.slice (some ⟨100,0,none⟩) k k))] [ob]))):=by kernel_rfl
def QD(l:List At):Lv:=l.map AAs
theorem qQ{l:List At}{i:Nat}{a:At}(h:l[i]?=some a):(QD l)[i]?=some (.agg ⟨[.int .u8 (a.t:Int),.string a.v]⟩):=by
 unfold QD;rw[List.getElem?_map,h];rfl
structure AJq(l:List At)(i last:Nat):Prop where
 le:i<=l.length
 eq:JB 0 l=JB last (l.drop i)
 la:last<=255
 il:i<=last
 bd:(EW (l.take i)).length<=last*65538
def IE(l:List At)(p:{p:Nat×Nat // AJq l p.1 p.2}):Lv×Lo:=
 ([mkS 100 (EW (l.take p.1.1)).length,.int .u8 (p.1.2:Int),dsl (QD l),.int .i64 (l.length:Int),.int .i64 (p.1.1:Int)],[mo (FO (EW (l.take p.1.1))) 5 1])
def RE(l:List At)(e:Exit)(v:Lv)(o:Lo):Prop:=
 (JB 0 l=0/\e = .exit 0/\v=[top,top,mkS 100 (EW l).length]/\o=[mo (FO (EW l)) 5 1])∨
 (JB 0 l≠0/\e = .ret/\v=[.string (bytesOf []),.int .i64 (JB 0 l:Int),top]/\o=[])
theorem lS{s:ByteArray}{e:Int}{x:Value}{AC:Lo}:Wk 100 100 [.string s,.int .i64 e,x] AC [.string s,.int .i64 e,top] []:=
 (EX (.cons (.refl _) (.cons (.refl _) (.cons (.top _) .nil))) (F5.refl _)).trans (LB rfl)
theorem XL{s:ByteArray}:s.data.toList=(bytesOf []).data.toList↔s.data.toList.length=0:=by
 rw[AV];exact List.length_eq_zero_iff.symm
theorem TA(s:ByteArray):QM s=FO s.data.toList:=rfl
theorem Y2(l:List At)(a:At):EW (l++[a])=EW l++ZP a:=by simp[EW]
theorem u8c(n:Nat):Value.int .u8 ((n % 256:Nat):Int) = .int .u8 ((UInt8.ofNat n).toNat:Int):=by simp
theorem u8t{n:Nat}(h:n<256):Value.int .u8 (n:Int) = .int .u8 ((UInt8.ofNat n).toNat:Int):=by
 have:n % 256=n:=Nat.mod_eq_of_lt h
 rw[←u8c,this]
theorem t3:Tryz.prog.underlying 3=some (.int .i64):=by kernel_rfl
theorem ANa(l:List At)(ht:∀a∈l,a.t<256)(p:{p:Nat×Nat // AJq l p.1 p.2}):
  Is (wpe Tryz.prog (real Tryz.prog) WS 300 (.code false (AJ Tryz.prog 36 4) (CX 100 47 [4,5,8,9,10] [] (IE l p))) (A7 100 [4,5,8,9,10] [2,3,4] 47 []
   (fun AB AC=>∃a',l.length-a'.1.1<l.length-p.1.1/\Wk 100 (100+0) AB AC (IE l a').1 (IE l a').2/\∀e v o,RE l e v o->RE l e v o)
   (fun e AB AC=>∃v o,Wk 100 (100+0) AB AC v o/\RE l e v o))):=by
 refine⟨?_⟩
 obtain⟨⟨i,last⟩,inv⟩:=p
 have hi:=inv.le
 have hbd:=inv.bd
 have hla:=inv.la
 have hil:=inv.il
 have heq:=inv.eq
 dsimp only at hi hbd hla hil heq
 show ALh (real Tryz.prog) (EW (l.take i)).length (mo (FO (EW (l.take i))) 5 1) (last:Int) (QD l) (l.length:Int) (i:Int) _ _
 rw[AGQ]
 refine EL (fun hlt=>?_) (fun hge=>?_)
 ·have ha:l[i]?=some l[i]:=by simp[hlt]
  generalize l[i]=a at ha
  have hmem:a∈l:=List.mem_of_getElem? ha
  have hat:=ht a hmem
  have hdrop:l.drop i=a::l.drop (i+1):=by
   have h2:=List.drop_eq_getElem_cons hlt
   rw[List.getElem?_eq_getElem hlt]at ha
   simp only[Option.some.injEq]at ha
   rw[h2,ha]
  have htake:l.take (i+1)=l.take i++[a]:=by
   rw[List.take_add_one,ha];rfl
  rw[hdrop]at heq
  simp only[JB]at heq
  refine DK i rfl (qQ ha) rfl (CG (z:=(a.t:Int)) rfl (KL (z:=a.v) rfl (SL (fun h1=>?_) (fun h1=>OE (fun h2=>?_) (fun h2=>?_)))))
  ·rw[if_pos (.inl h1)]at heq
   exact⟨rfl,_,_,lS,.inr ⟨by omega,rfl,by rw[heq];rfl,rfl⟩⟩
  ·rw[XL]at h2
   rw[if_pos (.inr h2)]at heq
   exact⟨rfl,_,_,lS,.inr ⟨by omega,rfl,by rw[heq];rfl,rfl⟩⟩
  rw[XL]at h2
  rw[if_neg (fun h=>h.elim (fun h=>by omega) (fun h=>h2 h))]at heq
  refine FC (YD (d:=65535) (fun h3=>?_) (fun h3=>?_))
  ·rw[if_pos (show 65535<a.len from h3)]at heq
   exact⟨rfl,_,_,lS,.inr ⟨by omega,rfl,by rw[heq];rfl,rfl⟩⟩
  rw[if_neg (show ¬65535<a.len by show ¬65535<a.v.data.toList.length;omega)]at heq
  have hk:(EW (l.take i)).length<=255*65538:=Nat.le_trans hbd (Nat.mul_le_mul_right _ hla)
  have hT:J3=140737488355328:=rfl
  refine D6 (by rw[HV,Nat.mul_one]) (by omega) (FV (by omega) rfl rfl (by omega) (by omega) (FC (AHQ (by decide) (UV t3 t5 (UV t3 t5 (WJ (by simp[HV]) (by omega) (by omega) (FV (by omega) rfl rfl (by omega) (by omega) (WJ (by simp[HV]) (by omega) (by omega) (AHO (fun h=>absurd (by rw[h];rfl) h2) (fun _=>⟨by omega,by omega,rfl,rfl,rfl,rfl,rfl,rfl,BZ (by omega) ⟨rfl,?_⟩⟩))))))))))
  have hinv:AJq l (i+1) a.t:=by
   refine⟨hlt,heq,by omega,by omega,?_⟩
   rw[htake,Y2,List.length_append]
   have h4:(ZP a).length=3+a.len:=by simp[ZP,two,At.len];omega
   have h5:a.len<=65535:=by show a.v.data.toList.length<=65535;omega
   have h6:(last+1)*65538<=a.t*65538:=Nat.mul_le_mul_right _ (by omega)
   omega
  refine⟨⟨(i+1,a.t),hinv⟩,show l.length-(i+1)<l.length-i by omega,?_,fun _ _ _ h=>h⟩
  have hcell:FO (EW (l.take i))++[.int .u8 (a.t:Int)]++[.int .u8 ((a.v.data.toList.length / 256 % 256:Nat):Int),.int .u8 ((a.v.data.toList.length % 256:Nat):Int)]++QM a.v=FO (EW (l.take (i+1))):=by
   rw[htake,Y2,jJ,u8t hat,u8c,u8c,TA]
   have h5:a.v.data.toList.length<=65535:=by omega
   simp[ZP,two,FO,At.len]
  have hlen:(EW (l.take (i+1))).length=(EW (l.take i)).length+1+2+a.v.data.toList.length:=by
   rw[←HV,←hcell];simp only[List.length_append,HV,TA,List.length_cons,List.length_nil]
  show Wk 100 (100+0) _ _ (mkS (100+0) _::_) [mo (FO (EW (l.take (i+1)))) 5 1]
  rw[J4 (by intro e;have:=congrArg List.length e;rw[HV,hlen]at this;simp at this),←hcell]
  show Wk 100 (100+0) _ _ (mkS (100+0) (EW (l.take (i+1))).length::_) _
  rw[hlen]
  refine ACr (k0:=0) (j:=6) (pre:=[]) (by omega) rfl ?_ rfl (by omega) rfl (fun i o h=>by simp at h)
  rw[hcell];exact P7 _ _
 ·have hil:i=l.length:=by omega
  subst hil
  rw[List.drop_length]at heq
  refine⟨rfl,[top,top,mkS 100 (EW l).length],[mo (FO (EW l)) 5 1],?_,.inl ⟨heq,rfl,rfl,rfl⟩⟩
  rw[List.take_length];exact Wk.refl _ _ _ _
def LE:LEt:=fun c n AB obs A E=>∃(l:List At),(∀a∈l,a.t<256)/\c=AJ Tryz.prog 36 4/\n=47/\AB=[.slice none 0 0,.int .u8 (0:Int),dsl (QD l),.int .i64 (Int.ofNat l.length),.int .i64 (0:Int)]/\obs=[]/\
 (JB 0 l=0->A (EW l).length (mo (FO (EW l)) 5 1))/\(JB 0 l≠0->E (JB 0 l:Int))
theorem lpE:BH Tryz.prog 100 [4,5,8,9,10] (vU LE):=by
 show BH Tryz.prog 100 [4,5,8,9,10] (lpS [2,3,4] _)
 refine FQ okp (W:=WS) DC AZ ?_
 rintro c n AB obs K ⟨l,ht,hc,hn,hv,ho,hA,hE⟩
 subst hc;subst hn;subst hv;subst ho
 refine⟨{p:Nat×Nat // AJq l p.1 p.2},0,300,fun p=>l.length-p.1.1,IE l,fun _ e v o=>RE l e v o,⟨(0,0),⟨Nat.zero_le _,rfl,by omega,by omega,by simp[EW]⟩⟩,rfl,?_,?_,ANa l ht⟩
 ·show Wk 100 (100+0) _ [] (mkS 100 0::_) ([]++[none])
  exact AD0
 intro e v o hR
 rcases hR with⟨h1,rfl,rfl,rfl⟩ | ⟨h1,rfl,rfl,rfl⟩
 ·exact hA h1
 ·exact hE h1
def ADL(l:List At):Value := .tuple ⟨[.string (bytesOf (encS l)),.int .i64 (JB 0 l:Int)]⟩
theorem AJI(l:List At)(ht:∀a∈l,a.t<256):Is (AC1 (real Tryz.prog) LE (QD l) (PQ (ADL l))):=by
 refine⟨?_⟩
 rw[ABo]
 refine BI l.length (by simp[QD]) ⟨l,ht,rfl,rfl,rfl,rfl,fun h=>?_,fun h=>?_⟩
 ·refine AHR (HV _) (aK _) (PQ.of ?_ rfl)
  unfold ADL encS;rw[if_pos h,h];rfl
 ·exact PQ.of (by unfold ADL encS;rw[if_neg h]) rfl
theorem tN(l:List At)(ht:∀a∈l,a.t<256)(B:Base)(H:Heap):BM Tryz.prog 100 B 36 [dsl (QD l)] H (.returned (ADL l)) H:=
 GL okp DC (GH (fun x hx=>by simp only[List.mem_singleton]at hx;subst hx;exact lpE)) rfl rfl (AJI l ht) B H
structure Mw where
 t0:Int->ByteArray->Prop->(Lv->Prop)->Prop
 t1:Nat->Lv->Int->ByteArray->(Nat->Lv->Prop)->Prop
 n0:Int->Int->Prop->(Lv->Prop)->Prop
 n1:Nat->Lv->Int->Int->(Nat->Lv->Prop)->Prop
 bt:Nat->Lv->(ByteArray->Prop)->Prop
 en:Nat->Lv->(ByteArray->Int->Prop)->Prop
 nb:Int->(ByteArray->Prop)->Prop
def vM(H:Heap):List Nat->Bool
 | []=>true
 |n::l=>Nat.ble 100 n&&(Nat.blt n H.next&&(l.all (fun m=>!Nat.beq m n)&&vM H l))
def unit:Value := .tuple ⟨[]⟩
def wrC(v:Value):AA := .cells [v] 196 1 false true
def AEV(e sz:Nat)(lo ow:Bool):Bool:=Nat.beq e 196&&(Nat.beq sz 1&&(!lo&&ow))
def AHk(T e sz:Nat)(lo ow:Bool):Bool:=Nat.beq e T&&(Nat.beq sz 2&&(lo&&ow))
def sWr(M0:Prop->(Lv->Prop)->Prop)(M1:Nat->Lv->(Nat->Lv->Prop)->Prop)(a:Value)(H:Heap)(K:VK):Prop:=
 match a with
 | .pointer (some ⟨p,0,none⟩)=>match H.get p with
  |some (.cells [.slice none _ _] e sz lo ow)=>match AEV e sz lo ow&&vM H [p]with
   |true=>H.get p=some (wrC (.slice none 0 0))/\M0 (K unit H) (fun row=>K unit (MJ (IW H [p] [some (wrC (.slice (some ⟨H.next,0,none⟩) 1 1))]) [.cells row 94 2 true true]))
   |false=>False
  |some (.cells [.slice (some ⟨b,0,none⟩) k k'] e sz lo ow)=>match AEV e sz lo ow&&vM H [p,b]with
   |true=>match H.get b with
    |some (.cells vs e sz lo ow)=>match AHk 94 e sz lo ow with
     |true=>k'=k/\M1 k vs (fun k2 vs2=>K unit (MJ (IW H [p,b] [some (wrC (.slice (some ⟨H.next,0,none⟩) k2 k2)),none]) [.cells vs2 94 2 true true]))
     |false=>False
    |_=>False
   |false=>False
  |_=>False
 |_=>False
def MU(M:Mw):Lv->Heap->VK->Prop
 | [a,.int .u8 kind,.string s],H,K=>sWr (M.t0 kind s) (fun k vs=>M.t1 k vs kind s) a H K
 |_,_,_=>False
def Q4(M:Mw):Lv->Heap->VK->Prop
 | [a,.int .u8 kind,.int .u64 n],H,K=>sWr (M.n0 kind n) (fun k vs=>M.n1 k vs kind n) a H K
 |_,_,_=>False
def AIE(M:Mw):Lv->Heap->VK->Prop
 | [.slice none 0 0],H,K=>K (ADL []) H
 | [.slice (some ⟨b,0,none⟩) k k'],H,K=>match H.get b with
  |some (.cells vs e sz lo ow)=>match AHk 94 e sz lo ow with
   |true=>k'=k/\M.en k vs fun s e=>K (.tuple ⟨[.string s,.int .i64 e]⟩) H
   |false=>False
  |_=>False
 |_,_,_=>False
def NC(M:Mw):Lv->Heap->VK->Prop
 | [.pointer (some ⟨p,0,none⟩)],H,K=>match H.get p with
  |some (.cells [.slice none _ _] e sz lo ow)=>match AEV e sz lo ow&&vM H [p]with
   |true=>H.get p=some (wrC (.slice none 0 0))/\K (.string (bytesOf [])) H
   |false=>False
  |some (.cells [.slice (some ⟨b,0,none⟩) k k'] e sz lo ow)=>match AEV e sz lo ow&&vM H [p,b]with
   |true=>match H.get b with
    |some (.cells vs e sz lo ow)=>match AHk 94 e sz lo ow with
     |true=>k'=k/\M.bt k vs (fun s=>K (.string s) H)
     |false=>False
    |_=>False
   |false=>False
  |_=>False
 |_,_,_=>False
def sN1(M:Mw):Lv->(Value->Prop)->Prop
 | [.int .u64 n],K=>M.nb n fun s=>K (.string s)
 |_,_=>False
def sy1(b:Nat):Option Bool:=match Nat.beq b 101 with|true=>some true|false=>none
def hW0:Heap:=hOf 100 [] [some (wrC (.slice none 0 0))]
def hW1(k:Nat)(vs:Lv):Heap:=hOf 100 [] [some (wrC (.slice (some ⟨101,0,none⟩) k k)),some (.cells vs 94 2 true true)]
def pW:Value := .pointer (some ⟨100,0,none⟩)
def WT:How:=AP sy1 (fun _=>false) [] [] [] []
def WN(M:Mw):How:=AP sy1 (fun _=>false) [] [] [(140,sN1 M)] []
def WB(M:Mw):How:=AP sy1 (fun _=>false) [(36,AIE M)] [] [] []
def gT0(N:Nd)(kind:Int)(s:ByteArray)(K:RK):Prop:=wpe Tryz.prog N WT 300 (.call 178 [pW,(.int .u8 kind),(.string s)] hW0) (FD 100 K)
def gT1(N:Nd)(k:Nat)(vs:Lv)(kind:Int)(s:ByteArray)(K:RK):Prop:=wpe Tryz.prog N WT 300 (.call 178 [pW,(.int .u8 kind),(.string s)] (hW1 k vs)) (FD 100 K)
def gN0(N:Nd)(M:Mw)(kind n:Int)(K:RK):Prop:=wpe Tryz.prog N (WN M) 300 (.call 154 [pW,(.int .u8 kind),(.int .u64 n)] hW0) (FD 100 K)
def gN1(N:Nd)(M:Mw)(k:Nat)(vs:Lv)(kind n:Int)(K:RK):Prop:=wpe Tryz.prog N (WN M) 300 (.call 154 [pW,(.int .u8 kind),(.int .u64 n)] (hW1 k vs)) (FD 100 K)
def gB0(N:Nd)(M:Mw)(K:RK):Prop:=wpe Tryz.prog N (WB M) 300 (.call 157 [pW] hW0) (FD 100 K)
def gB1(N:Nd)(M:Mw)(k:Nat)(vs:Lv)(K:RK):Prop:=wpe Tryz.prog N (WB M) 300 (.call 157 [pW] (hW1 k vs)) (FD 100 K)
theorem AHa(N:Nd)(kind:Int)(s:ByteArray)(K:RK):gT0 N kind s K=(N.scmp .neq s (bytesOf []) (N.appX 0 [] 1 [.int .u8 kind,.string s] 2 24 (fun l0 o1=>K (.tuple ⟨[]⟩) [(qq2 (.slice (some ⟨102,0,none⟩) o1 o1)),qq6 kind s,(some (AA.cells l0 94 2 true true))])) (K (.tuple ⟨[]⟩) [qq1])):=by kernel_rfl
theorem AMh(N:Nd)(k:Nat)(vs:Lv)(kind:Int)(s:ByteArray)(K:RK):gT1 N k vs kind s K=(N.scmp .neq s (bytesOf []) (N.base false k k (some (AA.cells vs 94 2 true true)) 94 2 (fun l0=>N.appX k l0 1 [.int .u8 kind,.string s] 2 24 (fun l1 o2=>K (.tuple ⟨[]⟩) [(qq2 (.slice (some ⟨103,0,none⟩) o2 o2)),none,qq6 kind s,(some (AA.cells l1 94 2 true true))]))) (K (.tuple ⟨[]⟩) [(qq2 (.slice (some ⟨101,0,none⟩) k k)),(some (AA.cells vs 94 2 true true))])):=by kernel_rfl
theorem AG2(N:Nd)(M:Mw)(kind n:Int)(K:RK):gN0 N M kind n K=(M.nb n (fun s0=>N.scmp .neq s0 (bytesOf []) (N.appX 0 [] 1 [.int .u8 kind,.string s0] 2 24 (fun l1 o2=>K (.tuple ⟨[]⟩) [(qq2 (.slice (some ⟨102,0,none⟩) o2 o2)),qq6 kind s0,(some (AA.cells l1 94 2 true true))])) (K (.tuple ⟨[]⟩) [qq1]))):=by kernel_rfl
theorem AMb(N:Nd)(M:Mw)(k:Nat)(vs:Lv)(kind n:Int)(K:RK):gN1 N M k vs kind n K=(M.nb n (fun s0=>N.scmp .neq s0 (bytesOf []) (N.base false k k (some (AA.cells vs 94 2 true true)) 94 2 (fun l1=>N.appX k l1 1 [.int .u8 kind,.string s0] 2 24 (fun l2 o3=>K (.tuple ⟨[]⟩) [(qq2 (.slice (some ⟨103,0,none⟩) o3 o3)),none,qq6 kind s0,(some (AA.cells l2 94 2 true true))]))) (K (.tuple ⟨[]⟩) [(qq2 (.slice (some ⟨101,0,none⟩) k k)),(some (AA.cells vs 94 2 true true))]))):=by kernel_rfl
theorem AL6(N:Nd)(M:Mw)(K:RK):gB0 N M K=(K (.string (bytesOf [])) [qq1]):=by kernel_rfl
theorem AL7(N:Nd)(M:Mw)(k:Nat)(vs:Lv)(K:RK):gB1 N M k vs K=((k=k)/\(M.en k vs (fun s0 z1=>K (.string s0) [(qq2 (.slice (some ⟨101,0,none⟩) k k)),(some (AA.cells vs 94 2 true true))]))):=by kernel_rfl
theorem jI{P:Program}{G:Nat}{B:Base}{f:FuncId}{args:Lv}{H H1 H2:Heap}{e:Ending}(h:BM P G B f args H e H1)(hg:∀n o,H2.get n=some o->H1.get n=some o)(hn:H2.next=H1.next):BM P G B f args H e H2:=
 fun F w x R ha=>(h F w x R ha).mono fun e' w' ⟨F',h1,h2,R'⟩=>⟨F',h1,h2,R'.part hg hn⟩
theorem KT{τ:Nat->Nat}{l:Lv}(h:BL 0 l=true):FE τ l=l:=EA (n0:=0) (fun n h=>by omega) l h
theorem ALJ{H:Heap}{p:Nat}(h:vM H [p]=true):100<=p/\p<H.next:=by
 simp only[vM,List.all_nil,Bool.and_true,Bool.and_eq_true]at h
 exact⟨Nat.le_of_ble_eq_true h.1,Nat.le_of_ble_eq_true h.2⟩
theorem ALK{H:Heap}{p b:Nat}(h:vM H [p,b]=true):(100<=p/\p<H.next)/\(100<=b/\b<H.next)/\p≠b:=by
 simp only[vM,List.all_nil,List.all_cons,Bool.and_true,Bool.and_eq_true]at h
 obtain⟨h1,h2,h3,h4,h5⟩:=h
 refine⟨⟨Nat.le_of_ble_eq_true h1,Nat.le_of_ble_eq_true h2⟩,⟨Nat.le_of_ble_eq_true h4,Nat.le_of_ble_eq_true h5⟩,fun e=>?_⟩
 subst e
 rw[Nat.beq_refl]at h3;cases h3
theorem vH{T e sz:Nat}{lo ow:Bool}(h:AHk T e sz lo ow=true):e=T/\sz=2/\lo=true/\ow=true:=by
 simp only[AHk,Bool.and_eq_true]at h
 exact⟨Nat.eq_of_beq_eq_true h.1,Nat.eq_of_beq_eq_true h.2.1,h.2.2.1,h.2.2.2⟩
theorem ADl{e sz:Nat}{lo ow:Bool}(h:AEV e sz lo ow=true):e=196/\sz=1/\lo=false/\ow=true:=by
 simp only[AEV,Bool.and_eq_true,Bool.not_eq_true']at h
 exact⟨Nat.eq_of_beq_eq_true h.1,Nat.eq_of_beq_eq_true h.2.1,h.2.2.1,h.2.2.2⟩
theorem lT{f:FuncId}{rest:Lv}(hr:BL 0 rest=true){M0:Prop->(Lv->Prop)->Prop}{M1:Nat->Lv->(Nat->Lv->Prop)->Prop}
  (h0:∀A B',M0 A B'->(A/\∀B,BM Tryz.prog 100 B f (pW::rest) hW0 (.returned unit) (hOf 100 [] [some (wrC (.slice none 0 0))]))∨
   (∃row,BL 0 row=true/\B' row/\∀B,BM Tryz.prog 100 B f (pW::rest) hW0 (.returned unit) (hOf 100 [] [some (wrC (.slice (some ⟨101,0,none⟩) 1 1)),some (.cells row 94 2 true true)])))
  (h1:∀k vs K,M1 k vs K->∃k2 vs2,BL 0 vs=true/\BL 0 vs2=true/\K k2 vs2/\∀B,BM Tryz.prog 100 B f (pW::rest) (hW1 k vs) (.returned unit) (hOf 100 [] [some (wrC (.slice (some ⟨102,0,none⟩) k2 k2)),none,some (.cells vs2 94 2 true true)]))
  {a:Value} {H:Heap} {K:VK} (h:sWr M0 M1 a H K):∃v H',(∀B,BM Tryz.prog 100 B f (a::rest) H (.returned v) H')/\K v H':=by
 unfold sWr at h
 split at h<;>try exact h.elim
 rename_i p
 split at h<;>try exact h.elim
 ·rename_i e sz lo ow hg
  split at h<;>try exact h.elim
  rename_i hc
  simp only[Bool.and_eq_true]at hc
  obtain⟨hp1,hp2⟩:=ALJ hc.2
  obtain⟨hg,h⟩:=h
  have hobj:∀(τ:Nat->Nat) (i:Nat) (o:AA),[some (wrC (.slice none 0 0))][i]?=some (some o)->∃n:Nat,[p][i]?=some n/\H.get n=some (G8 τ o):=by
   intro τ i o hi
   cases i with
   |succ i=>simp at hi
   |zero=>
    simp only[List.getElem?_cons_zero,Option.some.injEq]at hi;subst hi
    exact⟨p,rfl,hg⟩
  have hnlt:∀m∈[p],100<=m/\m<H.next:=by
   intro m hm;simp only[List.mem_singleton]at hm;subst hm;exact⟨hp1,hp2⟩
  have hτ:tau 100 [p] H.next 100=p:=MZ (Nat.le_refl _) rfl
  have hτ1:tau 100 [p] H.next 101=H.next:=by rw[YC (by simp)];simp
  have ha:FE (tau 100 [p] H.next) (pW::rest) = .pointer (some ⟨p,0,none⟩)::rest:=by
   simp only[FE,pW,F7,hτ,KT hr]
  rcases h0 _ _ h with⟨hA,hC⟩ | ⟨row,hrow,hB',hC⟩
  ·refine⟨_,H,fun B=>?_,hA⟩
   have h2:=qG (ins:=[some (wrC (.slice none 0 0))]) (upd:=[some (wrC (.slice none 0 0))]) (new:=[]) rfl (fun i hi=>by cases i<;>simp at hi) rfl hC (H:=H) (ns:=[p]) rfl (by simp) hnlt (hobj _) B
   rw[ha]at h2
   refine jI h2 (fun n o hn=>?_) ?_
   ·have hpg:=LV [p] ([some (wrC (.slice none 0 0))].map (·.map (G8 (tau 100 [p] H.next)))) H n rfl (by simp)
    show(IW H [p] _).get n=some o
    by_cases e:n=p
    ·subst e
     rw[hpg.1 0 rfl]
     rw[hg]at hn;exact hn
    ·rw[hpg.2 (by simpa using e)];exact hn
   ·rfl
  ·refine⟨_,_,fun B=>?_,hB'⟩
   have h2:=qG (ins:=[some (wrC (.slice none 0 0))]) (upd:=[some (wrC (.slice (some ⟨101,0,none⟩) 1 1))]) (new:=[.cells row 94 2 true true]) rfl (fun i hi=>by cases i<;>simp at hi) rfl hC (H:=H) (ns:=[p]) rfl (by simp) hnlt (hobj _) B
   rw[ha]at h2
   simp only[List.map_cons,List.map_nil,Option.map_some,G8,wrC,FE,F7,hτ1,KT hrow]at h2
   exact h2
 ·rename_i b k k' e sz lo ow hg
  split at h<;>try exact h.elim
  rename_i hc
  simp only[Bool.and_eq_true]at hc
  obtain⟨⟨hp1,hp2⟩,⟨hb1,hb2⟩,hne⟩:=ALK hc.2
  obtain⟨rfl,rfl,rfl,rfl⟩:=ADl hc.1
  split at h<;>try exact h.elim
  rename_i vs e sz lo ow hgb
  split at h<;>try exact h.elim
  rename_i hc2
  obtain⟨rfl,rfl,rfl,rfl⟩:=vH hc2
  obtain⟨rfl,h⟩:=h
  obtain⟨k2,vs2,hv,hv2,hK,hC⟩:=h1 _ _ _ h
  refine⟨_,_,fun B=>?_,hK⟩
  have hτ:tau 100 [p,b] H.next 100=p:=MZ (Nat.le_refl _) rfl
  have hτ1:tau 100 [p,b] H.next 101=b:=MZ (by omega) rfl
  have ha:FE (tau 100 [p,b] H.next) (pW::rest) = .pointer (some ⟨p,0,none⟩)::rest:=by
   simp only[FE,pW,F7,hτ,KT hr]
  have h2:=qG (ins:=[some (wrC (.slice (some ⟨101,0,none⟩) k' k')),some (.cells vs 94 2 true true)]) (upd:=[some (wrC (.slice (some ⟨102,0,none⟩) k2 k2)),none]) (new:=[.cells vs2 94 2 true true]) rfl
   (fun i hi=>by rcases i with _|_|i<;>simp at hi) rfl hC (H:=H) (ns:=[p,b]) rfl (by simpa using hne)
   (fun m hm=>by simp only[List.mem_cons,List.not_mem_nil,or_false]at hm;rcases hm with rfl|rfl<;>omega)
   (fun i o hi=>by
    rcases i with _|_|i
    ·simp only[List.getElem?_cons_zero,Option.some.injEq]at hi;subst hi
     refine⟨p,rfl,?_⟩
     simp only[G8,wrC,FE,F7,hτ1];exact hg
    ·simp only[List.getElem?_cons_succ,List.getElem?_cons_zero,Option.some.injEq]at hi;subst hi
     refine⟨b,rfl,?_⟩
     simp only[G8,KT hv];exact hgb
    ·simp at hi) B
  rw[ha]at h2
  have hτ2:tau 100 [p,b] H.next 102=H.next:=by rw[YC (by simp)];simp
  simp only[List.map_cons,List.map_nil,Option.map_some,Option.map_none,G8,wrC,FE,F7,hτ2,KT hv2]at h2
  exact h2
def isA(len:Nat)(vs:Lv)(l:List At):Prop:=vs=BS l/\len=l.length/\l.length<1000/\l≠[]
def MR:Mw where
 t0:=fun kind s A B=>∃k:Nat,kind=k/\k<256/\(s.data.toList=[]->A)/\(s.data.toList≠[]->B (BS [⟨k,s⟩]))
 t1:=fun len vs kind s K=>∃(l:List At) (k:Nat),kind=k/\k<256/\isA len vs l/\K (IY l k s).length (BS (IY l k s))
 n0:=fun kind n A B=>∃k m:Nat,kind=k/\n=m/\k<256/\m<18446744073709551616/\(m=0->A)/\(m≠0->B (BS [⟨k,bytesOf (EK m)⟩]))
 n1:=fun len vs kind n K=>∃(l:List At) (k m:Nat),kind=k/\n=m/\k<256/\m<18446744073709551616/\isA len vs l/\K (addN l k m).length (BS (addN l k m))
 bt:=fun len vs K=>∃l:List At,isA len vs l/\(∀a∈l,a.t<256)/\K (bytesOf (encS l))
 en:=fun len vs K=>∃l:List At,isA len vs l/\(∀a∈l,a.t<256)/\K (bytesOf (encS l)) (JB 0 l:Int)
 nb:=fun n K=>∃m:Nat,n=m/\m<18446744073709551616/\K (bytesOf (EK m))
theorem lU{AC:Lo}(j:Nat){k:Nat}{vs:Lv}(hj:1<=j)(h0:AC[0]?=some (some (wrC (.slice (some ⟨100+j,0,none⟩) k k))))(h1:AC[j]?=some (some (.cells vs 94 2 true true)))(hv:BL 0 vs=true):
  Wk 100 (100+1) [unit] AC [unit] [some (wrC (.slice (some ⟨101,0,none⟩) k k)),some (.cells vs 94 2 true true)]:=by
 have hlt:j<AC.length:=(List.getElem?_eq_some_iff.1 h1).1
 have hτ:tau (100+1) [100+j] (100+AC.length) 100=100:=Q6 (by omega)
 have hτ0:tau (100+1) [100+j] (100+AC.length) 101=100+j:=MZ (Nat.le_refl _) (by simp)
 refine XN (l:=[100+j]) ⟨rfl,rfl,by simp,fun x hx=>?_,by omega,fun i o hi=>?_⟩
 ·simp only[List.mem_singleton]at hx;omega
 ·rcases i with _|_|i
  ·simp only[List.getElem?_cons_zero,Option.some.injEq]at hi;subst hi
   simp only[Nat.add_zero,hτ,Nat.sub_self,h0,G8,wrC,FE,F7,hτ0]
  ·simp only[List.getElem?_cons_succ,List.getElem?_cons_zero,Option.some.injEq]at hi;subst hi
   simp only[show 100+(0+1)=101 from rfl,hτ0,Nat.add_sub_cancel_left,h1,G8,KT hv]
  ·simp at hi
def QT(objs':Lo):RK:=fun v AC=>v=unit/\Wk 100 (100+1) [unit] AC [unit] objs'
theorem RV{W:How}(hkn:OM Tryz.prog 100 W)(hlp:SN Tryz.prog 100 W){f:FuncId}{args:Lv}{o:AA}{objs':Lo}{n:Nat}
  (h:Is (wpe Tryz.prog (real Tryz.prog) W n (.call f args (hOf 100 [] [some o])) (FD 100 (QT objs')))) (B:Base):BM Tryz.prog 100 B f args (hOf 100 [] [some o]) (.returned unit) (hOf 100 [] objs'):=by
 obtain⟨v,AC,⟨rfl,h1⟩,h2⟩:=XU okp hkn hlp h.out
 exact IM (ins:=[some o]) (h2 B) h1
theorem Y5{W:How}(hkn:OM Tryz.prog 100 W)(hlp:SN Tryz.prog 100 W){f:FuncId}{args:Lv}{k:Nat}{vs:Lv}{objs':Lo}{n:Nat}
  (h:Is (wpe Tryz.prog (real Tryz.prog) W n (.call f args (hW1 k vs)) (FD 100 (fun v AC=>v=unit/\Wk 100 (100+2) [unit] AC [unit] objs')))) (B:Base):BM Tryz.prog 100 B f args (hW1 k vs) (.returned unit) (hOf 100 [] objs'):=by
 obtain⟨v,AC,⟨rfl,h1⟩,h2⟩:=XU okp hkn hlp h.out
 exact IM (ins:=[some (wrC (.slice (some ⟨101,0,none⟩) k k)),some (.cells vs 94 2 true true)]) (h2 B) h1
def rC(j next n:Nat):Nat:=if n<102 then n else if n=102 then 100+j else next+n
theorem U4{AC:Lo}(j:Nat){k:Nat}{vs:Lv}(hj:1<=j)(h0:AC[0]?=some (some (wrC (.slice (some ⟨100+j,0,none⟩) k k))))(h1:AC[j]?=some (some (.cells vs 94 2 true true)))(hv:BL 0 vs=true):
  Wk 100 (100+2) [unit] AC [unit] [some (wrC (.slice (some ⟨102,0,none⟩) k k)),none,some (.cells vs 94 2 true true)]:=by
 have e2:rC j (100+AC.length) 102=100+j:=rfl
 have e0:rC j (100+AC.length) 100=100:=rfl
 refine AJg (τ:=rC j (100+AC.length)) rfl (by omega) (fun n hn=>by unfold rC;rw[if_pos (by omega)]) (fun n hn=>?_) (fun n hn=>?_) (fun i j o o' hi hj e=>?_) (fun i o hi=>?_)
 ·unfold rC;split
  ·omega
  ·split<;>omega
 ·simp only[List.length_cons,List.length_nil]at hn
  unfold rC;rw[if_neg (by omega),if_neg (by omega)];omega
 ·rcases i with _|_|_|i<;>rcases j with _|_|_|j<;>simp at hi hj<;>(try rfl)
  ·rw[e0,e2]at e;omega
  ·rw[e0,e2]at e;omega
 ·rcases i with _|_|_|i
  ·simp only[List.getElem?_cons_zero,Option.some.injEq]at hi;subst hi
   simp only[Nat.add_zero,e0,Nat.sub_self,h0,G8,wrC,FE,F7,e2]
  ·simp at hi
  ·simp only[List.getElem?_cons_succ,List.getElem?_cons_zero,Option.some.injEq]at hi;subst hi
   simp only[show 100+(0+1+1)=102 from rfl,e2,Nat.add_sub_cancel_left,h1,G8,KT hv]
  ·simp at hi
theorem zJ(l:List At)(k:Nat)(s:ByteArray):BS l++[.int .u8 (k:Int),.string s]=BS (l++[⟨k,s⟩]):=by rw[V4];rfl
theorem iN:J3=140737488355328:=rfl
theorem t0C(k:Nat)(s:ByteArray)(hs:s.data.toList≠[]):Is (gT0 (real Tryz.prog) (k:Int) s (QT [some (wrC (.slice (some ⟨101,0,none⟩) 1 1)),some (.cells (BS [⟨k,s⟩]) 94 2 true true)])):=by
 refine⟨?_⟩
 rw[AHa]
 exact FM (fun h=>FV (by omega) rfl rfl (by rw[iN];omega) (by omega) ⟨rfl,lU 2 (by omega) rfl rfl rfl⟩) (fun h=>absurd h hs)
theorem t0E(k:Nat)(s:ByteArray)(hs:s.data.toList=[]):Is (gT0 (real Tryz.prog) (k:Int) s (QT [some (wrC (.slice none 0 0))])):=by
 refine⟨?_⟩
 rw[AHa]
 exact FM (fun h=>absurd hs h) (fun h=>⟨rfl,Wk.refl _ _ _ _⟩)
def QT2(objs':Lo):RK:=fun v AC=>v=unit/\Wk 100 (100+2) [unit] AC [unit] objs'
theorem t1C{len:Nat}{vs:Lv}{l:List At}(h:isA len vs l)(k:Nat)(s:ByteArray):Is (gT1 (real Tryz.prog) len vs (k:Int) s (QT2 [some (wrC (.slice (some ⟨102,0,none⟩) (IY l k s).length (IY l k s).length)),none,some (.cells (BS (IY l k s)) 94 2 true true)])):=by
 obtain⟨rfl,rfl,hl,hne⟩:=h
 have hpos:l.length≠0:=fun e=>hne (List.eq_nil_of_length_eq_zero e)
 refine⟨?_⟩
 rw[AMh]
 refine FM (fun h=>?_) (fun h=>?_)
 ·have e:IY l k s=l++[⟨k,s⟩]:=if_neg h
  refine WJ (by rw[SF]) hpos (by omega) (FV (by omega) rfl rfl (by rw[iN];omega) (by omega) ⟨rfl,?_⟩)
  rw[zJ,e,List.length_append]
  exact U4 3 (by omega) rfl rfl (BJ _)
 ·have e:IY l k s=l:=if_pos h
  refine⟨rfl,?_⟩
  rw[e]
  exact U4 1 (by omega) rfl rfl (BJ _)
theorem AI1:JU Tryz.prog 100 178 (MU MR):=by
 intro args H K h
 unfold MU at h
 split at h<;>try exact h.elim
 rename_i a kind s
 refine lT (rest:=[.int .u8 kind,.string s]) rfl ?_ ?_ h
 ·rintro A B' ⟨k,rfl,hk,hA,hB⟩
  by_cases hs:s.data.toList=[]
  ·exact .inl ⟨hA hs,fun B=>RV DC AZ (t0E k s hs) B⟩
  ·exact .inr ⟨_,BJ _,hB hs,fun B=>RV DC AZ (t0C k s hs) B⟩
 ·rintro len vs K ⟨l,k,rfl,hk,hl,hK⟩
  exact⟨_,_,by rw[hl.1];exact BJ _,BJ _,hK,fun B=>Y5 DC AZ (t1C hl k s) B⟩
theorem ASn:FY Tryz.prog 100 140 (sN1 MR):=by
 intro args K h
 unfold sN1 at h
 split at h<;>try exact h.elim
 obtain⟨m,rfl,hm,hK⟩:=h
 exact⟨_,fun B H=>GL okp DC AZ rfl rfl (AMM m hm) B H,hK⟩
theorem knN:OM Tryz.prog 100 (WN MR):=EY (fun x hx=>by simp only[List.mem_singleton]at hx;subst hx;exact ASn)
theorem n0C(k m:Nat)(hm:m<18446744073709551616)(hs:m≠0):Is (gN0 (real Tryz.prog) MR (k:Int) (m:Int) (QT [some (wrC (.slice (some ⟨101,0,none⟩) 1 1)),some (.cells (BS [⟨k,bytesOf (EK m)⟩]) 94 2 true true)])):=by
 refine⟨?_⟩
 rw[AG2]
 exact⟨m,rfl,hm,FM (fun h=>FV (by omega) rfl rfl (by rw[iN];omega) (by omega) ⟨rfl,lU 2 (by omega) rfl rfl rfl⟩) (fun h=>absurd (kN.1 h) hs)⟩
theorem n0E(k:Nat):Is (gN0 (real Tryz.prog) MR (k:Int) ((0:Nat):Int) (QT [some (wrC (.slice none 0 0))])):=by
 refine⟨?_⟩
 rw[AG2]
 exact⟨0,rfl,by omega,FM (fun h=>absurd DR h) (fun h=>⟨rfl,Wk.refl _ _ _ _⟩)⟩
theorem n1C{len:Nat}{vs:Lv}{l:List At}(h:isA len vs l)(k m:Nat)(hm:m<18446744073709551616):Is (gN1 (real Tryz.prog) MR len vs (k:Int) (m:Int) (QT2 [some (wrC (.slice (some ⟨102,0,none⟩) (addN l k m).length (addN l k m).length)),none,some (.cells (BS (addN l k m)) 94 2 true true)])):=by
 obtain⟨rfl,rfl,hl,hne⟩:=h
 have hpos:l.length≠0:=fun e=>hne (List.eq_nil_of_length_eq_zero e)
 refine⟨?_⟩
 rw[AMb]
 refine⟨m,rfl,hm,FM (fun h=>?_) (fun h=>?_)⟩
 ·have e:addN l k m=l++[⟨k,bytesOf (EK m)⟩]:=if_neg h
  refine WJ (by rw[SF]) hpos (by omega) (FV (by omega) rfl rfl (by rw[iN];omega) (by omega) ⟨rfl,?_⟩)
  rw[zJ,e,List.length_append]
  exact U4 3 (by omega) rfl rfl (BJ _)
 ·have e:addN l k m=l:=if_pos h
  refine⟨rfl,?_⟩
  rw[e]
  exact U4 1 (by omega) rfl rfl (BJ _)
theorem ALH:JU Tryz.prog 100 154 (Q4 MR):=by
 intro args H K h
 unfold Q4 at h
 split at h<;>try exact h.elim
 rename_i a kind n
 refine lT (rest:=[.int .u8 kind,.int .u64 n]) rfl ?_ ?_ h
 ·rintro A B' ⟨k,m,rfl,rfl,hk,hm,hA,hB⟩
  by_cases hs:m=0
  ·subst hs;exact .inl ⟨hA rfl,fun B=>RV knN AZ (n0E k) B⟩
  ·exact .inr ⟨_,BJ _,hB hs,fun B=>RV knN AZ (n0C k m hm hs) B⟩
 ·rintro len vs K ⟨l,k,m,rfl,rfl,hk,hm,hl,hK⟩
  exact⟨_,_,by rw[hl.1];exact BJ _,BJ _,hK,fun B=>Y5 knN AZ (n1C hl k m hm) B⟩
theorem AL3:JU Tryz.prog 100 36 (AIE MR):=by
 intro args H K h
 unfold AIE at h
 split at h<;>try exact h.elim
 ·exact⟨_,H,fun B=>PS (.cons .nilD .nil) (tN [] (fun a ha=>by cases ha) B H),h⟩
 ·rename_i b k k'
  split at h<;>try exact h.elim
  rename_i vs e sz lo ow hg
  split at h<;>try exact h.elim
  rename_i hc
  obtain⟨rfl,rfl,rfl,rfl⟩:=vH hc
  obtain⟨rfl,l,⟨rfl,rfl,hl,hne⟩,ht,hK⟩:=h
  exact⟨_,H,fun B=>fD (pre:=[]) (post:=[]) (fun B H=>tN l ht B H) hg (ACZ l) (BJ l) (by omega) (by simp[QD]) (Nat.le_refl _) rfl rfl rfl B,hK⟩
theorem knB:OM Tryz.prog 100 (WB MR):=M3 (fun x hx=>by simp only[List.mem_singleton]at hx;subst hx;exact AL3) (fun x hx=>by cases hx)
def QR(v:Value)(ins:Lo):RK:=fun v' AC=>v'=v/\AC=ins
theorem b0C:Is (gB0 (real Tryz.prog) MR (QR (.string (bytesOf [])) [some (wrC (.slice none 0 0))])):=⟨by rw[AL6];exact⟨rfl,rfl⟩⟩
theorem b1C{len:Nat}{vs:Lv}{l:List At}(h:isA len vs l)(ht:∀a∈l,a.t<256):Is (gB1 (real Tryz.prog) MR len vs (QR (.string (bytesOf (encS l))) [some (wrC (.slice (some ⟨101,0,none⟩) len len)),some (.cells vs 94 2 true true)])):=
 ⟨by rw[AL7];exact⟨rfl,l,h,ht,rfl,rfl⟩⟩
theorem dS{P:Program}{G:Nat}{f:FuncId}{args:Lv}{v:Value}{ins:Lo}(hv:plain v=true)(hfull:∀i:Nat,ins[i]?≠some none)(hcall:∀B,BM P G B f args (hOf G [] ins) (.returned v) (hOf G [] ins))
  {H:Heap} {ns:List Nat} (hl:ns.length=ins.length) (hnd:ns.Nodup) (hnlt:∀m∈ns,G<=m/\m<H.next)
  (hobj:∀(i:Nat) (o:AA),ins[i]?=some (some o)->∃n:Nat,ns[i]?=some n/\H.get n=some (G8 (tau G ns H.next) o)) (B:Base):BM P G B f (FE (tau G ns H.next) args) H (.returned v) H:=by
 have h2:=qG (upd:=ins) (new:=[]) rfl (fun i h=>h) rfl (fun B=>by rw[List.map_nil,List.append_nil];exact hcall B) hl hnd hnlt hobj B
 simp only[mH,ZL v hv]at h2
 refine jI h2 (fun n o hn=>?_) ?_
 ·show(IW H ns _).get n=some o
  have hpg:=LV ns (ins.map (·.map (G8 (tau G ns H.next)))) H n (by rw[List.length_map];exact hl) hnd
  by_cases hm:n∈ns
  ·obtain⟨i,hi⟩:=List.getElem?_of_mem hm
   rw[hpg.1 i hi,List.getElem?_map]
   have hlt:i<ins.length:=by rw[←hl];exact(List.getElem?_eq_some_iff.1 hi).1
   cases ho:ins[i]with
   |none=>exact absurd (by rw[List.getElem?_eq_getElem hlt,ho]) (hfull i)
   |some o2=>
    have ho2:ins[i]?=some (some o2):=by rw[List.getElem?_eq_getElem hlt,ho]
    obtain⟨m,g1,g2⟩:=hobj i o2 ho2
    rw[hi]at g1;simp only[Option.some.injEq]at g1;subst g1
    rw[ho2]
    simp only[Option.map_some,Option.getD_some]
    rw[g2]at hn;exact hn
  ·rw[hpg.2 hm];exact hn
 ·simp only[List.map_nil,MJ,NS]
theorem AK9{W:How}(hkn:OM Tryz.prog 100 W)(hlp:SN Tryz.prog 100 W){f:FuncId}{args:Lv}{h0:Heap}{v:Value}{ins:Lo}{n:Nat}
  (h:Is (wpe Tryz.prog (real Tryz.prog) W n (.call f args h0) (FD 100 (QR v ins)))) (B:Base):BM Tryz.prog 100 B f args h0 (.returned v) (hOf 100 [] ins):=by
 obtain⟨v',AC,⟨rfl,rfl⟩,h2⟩:=XU okp hkn hlp h.out
 exact h2 B
theorem b0H(B:Base):BM Tryz.prog 100 B 157 [pW] hW0 (.returned (.string (bytesOf []))) hW0:=AK9 knB AZ b0C B
theorem b1H{len:Nat}{vs:Lv}{l:List At}(h:isA len vs l)(ht:∀a∈l,a.t<256)(B:Base):BM Tryz.prog 100 B 157 [pW] (hW1 len vs) (.returned (.string (bytesOf (encS l)))) (hW1 len vs):=AK9 knB AZ (b1C h ht) B
theorem ACV:JU Tryz.prog 100 157 (NC MR):=by
 intro args H K h
 unfold NC at h
 split at h<;>try exact h.elim
 rename_i p
 split at h<;>try exact h.elim
 ·rename_i e sz lo ow hg
  split at h<;>try exact h.elim
  rename_i hc
  simp only[Bool.and_eq_true]at hc
  obtain⟨hp1,hp2⟩:=ALJ hc.2
  obtain⟨hg,h⟩:=h
  refine⟨_,H,fun B=>?_,h⟩
  have hτ:tau 100 [p] H.next 100=p:=MZ (Nat.le_refl _) rfl
  have h2:=dS (G:=100) (ins:=[some (wrC (.slice none 0 0))]) (v := .string (bytesOf [])) rfl (fun i hi=>by cases i<;>simp at hi) b0H (H:=H) (ns:=[p]) rfl (by simp) (fun m hm=>by simp only[List.mem_singleton]at hm;subst hm;exact⟨hp1,hp2⟩) (fun i o hi=>by
   cases i with
   |succ i=>simp at hi
   |zero=>
    simp only[List.getElem?_cons_zero,Option.some.injEq]at hi;subst hi
    exact⟨p,rfl,hg⟩) B
  simp only[FE,pW,F7,hτ]at h2
  exact h2
 ·rename_i b k k' e sz lo ow hg
  split at h<;>try exact h.elim
  rename_i hc
  simp only[Bool.and_eq_true]at hc
  obtain⟨⟨hp1,hp2⟩,⟨hb1,hb2⟩,hne⟩:=ALK hc.2
  obtain⟨rfl,rfl,rfl,rfl⟩:=ADl hc.1
  split at h<;>try exact h.elim
  rename_i vs e sz lo ow hgb
  split at h<;>try exact h.elim
  rename_i hc2
  obtain⟨rfl,rfl,rfl,rfl⟩:=vH hc2
  obtain⟨rfl,l,hl,ht,hK⟩:=h
  have hv:BL 0 vs=true:=by rw[hl.1];exact BJ _
  refine⟨_,H,fun B=>?_,hK⟩
  have hτ:tau 100 [p,b] H.next 100=p:=MZ (Nat.le_refl _) rfl
  have hτ1:tau 100 [p,b] H.next 101=b:=MZ (by omega) rfl
  have h2:=dS (G:=100) (ins:=[some (wrC (.slice (some ⟨101,0,none⟩) k' k')),some (.cells vs 94 2 true true)]) (v := .string (bytesOf (encS l))) rfl (fun i hi=>by rcases i with _|_|i<;>simp at hi) (b1H hl ht) (H:=H) (ns:=[p,b]) rfl (by simpa using hne)
   (fun m hm=>by simp only[List.mem_cons,List.not_mem_nil,or_false]at hm;rcases hm with rfl|rfl<;>omega)
   (fun i o hi=>by
    rcases i with _|_|i
    ·simp only[List.getElem?_cons_zero,Option.some.injEq]at hi;subst hi
     refine⟨p,rfl,?_⟩
     simp only[G8,wrC,FE,F7,hτ1];exact hg
    ·simp only[List.getElem?_cons_succ,List.getElem?_cons_zero,Option.some.injEq]at hi;subst hi
     refine⟨b,rfl,?_⟩
     simp only[G8,KT hv];exact hgb
    ·simp at hi) B
  simp only[FE,pW,F7,hτ]at h2
  exact h2
end
end Go.Proofs.Ob
