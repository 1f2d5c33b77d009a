/- . -/
import Derived.Test.YtblbaohcelldpaaGreatDoorS4
import Derived.Test.YtblbaohcelldpaaGreatDoorWE
import Derived.Test.YtblbaohcelldpaaGreatDoorS5
set_option linter.all false
set_option maxRecDepth 100000
namespace Go.Proofs.Ob
open Go Go.Abs Go.Tlv
noncomputable section
def syB(a:Nat):Sy:=fun b=>match Nat.beq b a with|true=>some true|false=>none
def tRd(s:ByteArray):AA := .cells [.string s] 124 1 false true
def eC:AA := .cells [.int .i64 0] 53 1 false true
def dsC:List Deferred:=[{target := .fn (.func 135) ⟨[]⟩,args:=⟨[pA 101]⟩}]
def pan(e:Int):Exit := .panic [{v := .iface 53 (.int .i64 e),recovered:=false}]
abbrev LAt:=Code->Nat->Lv->List Deferred->Lo->(Nat->Option AA->Prop)->(Int->Prop)->Prop
def AIG(L:LAt):LpS:=AE2 [2,3] fun c n AB ds obs K=>L c n AB ds obs (fun k ob=>K (.exit 0) [mkS 102 k,pA 101] [none,some eC,ob]) (fun e=>K (pan e) [top,pA 101] [none,some eC])
def WD(L:LAt):How:=AP (syB 102) (fun _=>false) [] [(3,(37,([0,2,3,4],AIG L)))] [] []
def WS2:How:=AP (syB 102) (fun _=>false) [] [] [] []
def AOK(N:Nd)(L:LAt)(s:ByteArray)(K:RK):Prop:=wpe Tryz.prog N (WD L) 300 (.call 37 [(.string s)] h0) (FD 100 K)
def ALe(N:Nd)(s:ByteArray)(k:Nat)(ob:Option AA)(last:Int)(back:Bk)(out:Ot):Prop:=
 wpe Tryz.prog N WS2 300 (.code false (AJ Tryz.prog 73 3) (CX 100 37 [0,2,3,4] dsC ([pA 100,mkS 102 k,pA 101,.int .u8 last],[some (tRd s),some eC,ob]))) (A7 100 [0,2,3,4] [2,3] 37 dsC back out)
theorem AJQ(N:Nd)(L:LAt)(s:ByteArray)(K:RK):AOK N L s K=(L (AJ Tryz.prog 73 3) 37 [pA 100,.slice none 0 0,pA 101,.int .u8 0] [(Deferred.mk (Target.fn (Fn.func 135) ⟨[]⟩) (Array.mk [pA 101]))] [dR s,WZ] (fun o0 l1=>N.cmp .neq .i64 0 .i64 0 (K (.tuple (Array.mk [.slice none 0 0,.int .i64 0])) [none,WZ,l1]) (K (.tuple (Array.mk [(.iface 1000000021 (.slice (some ⟨102,0,none⟩) o0 o0)),.int .i64 0])) [none,WZ,l1])) (fun z0=>N.cmp .neq .i64 z0 .i64 0 (K (.tuple (Array.mk [.slice none 0 0,.int .i64 z0])) [none,(some (AA.cells [.int .i64 z0] 53 1 false true))]) (K (.tuple (Array.mk [(.chan (some 0)),.int .i64 0])) [none,(some (AA.cells [.int .i64 z0] 53 1 false true))]))):=by kernel_rfl
theorem AGP(N:Nd)(s:ByteArray)(k:Nat)(ob:Option AA)(last:Int)(back:Bk)(out:Ot):ALe N s k ob last back out=(N.scmp .neq s (bytesOf []) (N.slen s (fun z0=>N.cmp .lss .i64 z0 .i64 3 ((([(Deferred.mk (Target.fn (Fn.func 135) ⟨[]⟩) (Array.mk [pA 101]))]:List Deferred)=[(Deferred.mk (Target.fn (Fn.func 135) ⟨[]⟩) (Array.mk [pA 101]))])/\((true=true)/\(out (Exit.panic [(PanicEntry.mk (.iface 53 (.int .i64 4)) false false)]) [(.iface 1000000021 (.slice (some ⟨102,0,none⟩) k k)),pA 101] [dR s,WZ,ob]))) (N.ssl s none (some 3) (fun s1=>N.ssl s (some 3) none (fun s2=>N.ssl s1 (some 1) none (fun s3=>N.sat s3 0 (fun z4=>N.conv 5 3 .u8 z4 .i64 (fun z5=>N.ari .shl .i64 z5 .u64 8 (fun z6=>N.sat s3 1 (fun z7=>N.conv 5 3 .u8 z7 .i64 (fun z8=>N.ari .or .i64 z6 .i64 z8 (fun z9=>N.sat s1 0 (fun z10=>N.cmp .gtr .u8 z10 .u8 last (N.cmp .gtr .i64 z9 .i64 0 (N.sat s1 0 (fun z11=>N.slen s2 (fun z12=>N.cmp .lss .i64 z12 .i64 z9 ((([(Deferred.mk (Target.fn (Fn.func 135) ⟨[]⟩) (Array.mk [pA 101]))]:List Deferred)=[(Deferred.mk (Target.fn (Fn.func 135) ⟨[]⟩) (Array.mk [pA 101]))])/\((true=true)/\(out (Exit.panic [(PanicEntry.mk (.iface 53 (.int .i64 4)) false false)]) [(.iface 1000000021 (.slice (some ⟨102,0,none⟩) k k)),pA 101] [dR s2,WZ,ob]))) (N.ssl s2 none (some z9) (fun s13=>N.ssl s2 (some z9) none (fun s14=>N.base true k k ob 94 2 (fun l15=>N.appX k l15 1 [.int .u8 z11,.string s13] 2 24 (fun l16 o17=>(([(Deferred.mk (Target.fn (Fn.func 135) ⟨[]⟩) (Array.mk [pA 101]))]:List Deferred)=[(Deferred.mk (Target.fn (Fn.func 135) ⟨[]⟩) (Array.mk [pA 101]))])/\(back [pA 100,(.slice (some ⟨104,0,none⟩) o17 o17),pA 101,.int .u8 z11] [dR s14,WZ,none,qq1 z11 s13,(some (AA.cells l16 94 2 true true))]))))))))) ((([(Deferred.mk (Target.fn (Fn.func 135) ⟨[]⟩) (Array.mk [pA 101]))]:List Deferred)=[(Deferred.mk (Target.fn (Fn.func 135) ⟨[]⟩) (Array.mk [pA 101]))])/\((true=true)/\(out (Exit.panic [(PanicEntry.mk (.iface 53 (.int .i64 3)) false false)]) [(.iface 1000000021 (.slice (some ⟨102,0,none⟩) k k)),pA 101] [dR s2,WZ,ob])))) ((([(Deferred.mk (Target.fn (Fn.func 135) ⟨[]⟩) (Array.mk [pA 101]))]:List Deferred)=[(Deferred.mk (Target.fn (Fn.func 135) ⟨[]⟩) (Array.mk [pA 101]))])/\((true=true)/\(out (Exit.panic [(PanicEntry.mk (.iface 53 (.int .i64 3)) false false)]) [(.iface 1000000021 (.slice (some ⟨102,0,none⟩) k k)),pA 101] [dR s2,WZ,ob])))))))))))))))) ((([(Deferred.mk (Target.fn (Fn.func 135) ⟨[]⟩) (Array.mk [pA 101]))]:List Deferred)=[(Deferred.mk (Target.fn (Fn.func 135) ⟨[]⟩) (Array.mk [pA 101]))])/\(out (Exit.exit 0) [(.iface 1000000021 (.slice (some ⟨102,0,none⟩) k k)),pA 101] [dR s,WZ,ob]))):=by kernel_rfl
def ADZ(L:LAt):LpS:=AE2 [4,5] fun c n AB ds obs K=>L c n AB ds obs (fun k ob=>K (.exit 0) [mkS 102 k,pA 101] [none,some eC,ob]) (fun e=>K (pan e) [top,pA 101] [none,some eC])
def WI2(L:LAt):How:=AP (syB 102) (fun _=>false) [] [(2,(27,([0,1,4,5],ADZ L)))] [] []
def gRL(N:Nd)(L:LAt)(s:ByteArray)(t:Int)(K:RK):Prop:=wpe Tryz.prog N (WI2 L) 300 (.call 150 [(.string s),(.int .i64 t)] h0) (FD 100 K)
def AO9(N:Nd)(s:ByteArray)(t:Int)(k:Nat)(ob:Option AA)(back:Bk)(out:Ot):Prop:=
 wpe Tryz.prog N WS2 300 (.code false (AJ Tryz.prog 226 2) (CX 100 27 [0,1,4,5] dsC ([pA 100,.int .i64 t,mkS 102 k,pA 101],[some (tRd s),some eC,ob]))) (A7 100 [0,1,4,5] [4,5] 27 dsC back out)
theorem AMg(N:Nd)(L:LAt)(s:ByteArray)(t:Int)(K:RK):gRL N L s t K=(L (AJ Tryz.prog 226 2) 27 [pA 100,.int .i64 t,.slice none 0 0,pA 101] [(Deferred.mk (Target.fn (Fn.func 135) ⟨[]⟩) (Array.mk [pA 101]))] [dR s,WZ] (fun o0 l1=>N.cmp .neq .i64 0 .i64 0 (K (.tuple (Array.mk [.slice none 0 0,.int .i64 0])) [none,WZ,l1]) (K (.tuple (Array.mk [(.iface 1000000021 (.slice (some ⟨102,0,none⟩) o0 o0)),.int .i64 0])) [none,WZ,l1])) (fun z0=>N.cmp .neq .i64 z0 .i64 0 (K (.tuple (Array.mk [.slice none 0 0,.int .i64 z0])) [none,(some (AA.cells [.int .i64 z0] 53 1 false true))]) (K (.tuple (Array.mk [(.chan (some 0)),.int .i64 0])) [none,(some (AA.cells [.int .i64 z0] 53 1 false true))]))):=by kernel_rfl
theorem AJ0(N:Nd)(s:ByteArray)(t:Int)(k:Nat)(ob:Option AA)(back:Bk)(out:Ot):AO9 N s t k ob back out=(N.scmp .neq s (bytesOf []) (N.slen s (fun z0=>N.cmp .lss .i64 z0 .i64 2 ((([(Deferred.mk (Target.fn (Fn.func 135) ⟨[]⟩) (Array.mk [pA 101]))]:List Deferred)=[(Deferred.mk (Target.fn (Fn.func 135) ⟨[]⟩) (Array.mk [pA 101]))])/\((true=true)/\(out (Exit.panic [(PanicEntry.mk (.iface 53 (.int .i64 4)) false false)]) [(.iface 1000000021 (.slice (some ⟨102,0,none⟩) k k)),pA 101] [dR s,WZ,ob]))) (N.ssl s none (some 2) (fun s1=>N.ssl s (some 2) none (fun s2=>N.sat s1 0 (fun z3=>N.conv 5 3 .u8 z3 .i64 (fun z4=>N.ari .shl .i64 z4 .u64 8 (fun z5=>N.sat s1 1 (fun z6=>N.conv 5 3 .u8 z6 .i64 (fun z7=>N.ari .or .i64 z5 .i64 z7 (fun z8=>N.cmp .lss .i64 (Int.ofNat k) .i64 t (N.slen s2 (fun z9=>N.cmp .lss .i64 z9 .i64 z8 ((([(Deferred.mk (Target.fn (Fn.func 135) ⟨[]⟩) (Array.mk [pA 101]))]:List Deferred)=[(Deferred.mk (Target.fn (Fn.func 135) ⟨[]⟩) (Array.mk [pA 101]))])/\((true=true)/\(out (Exit.panic [(PanicEntry.mk (.iface 53 (.int .i64 4)) false false)]) [(.iface 1000000021 (.slice (some ⟨102,0,none⟩) k k)),pA 101] [dR s2,WZ,ob]))) (N.ssl s2 none (some z8) (fun s10=>N.ssl s2 (some z8) none (fun s11=>N.base true k k ob 9 1 (fun l12=>N.appX k l12 1 [.string s10] 1 16 (fun l13 o14=>(([(Deferred.mk (Target.fn (Fn.func 135) ⟨[]⟩) (Array.mk [pA 101]))]:List Deferred)=[(Deferred.mk (Target.fn (Fn.func 135) ⟨[]⟩) (Array.mk [pA 101]))])/\(back [pA 100,.int .i64 t,(.slice (some ⟨104,0,none⟩) o14 o14),pA 101] [dR s11,WZ,none,kW s10,(some (AA.cells l13 9 1 true true))])))))))) ((([(Deferred.mk (Target.fn (Fn.func 135) ⟨[]⟩) (Array.mk [pA 101]))]:List Deferred)=[(Deferred.mk (Target.fn (Fn.func 135) ⟨[]⟩) (Array.mk [pA 101]))])/\((true=true)/\(out (Exit.panic [(PanicEntry.mk (.iface 53 (.int .i64 3)) false false)]) [(.iface 1000000021 (.slice (some ⟨102,0,none⟩) k k)),pA 101] [dR s2,WZ,ob])))))))))))))) ((([(Deferred.mk (Target.fn (Fn.func 135) ⟨[]⟩) (Array.mk [pA 101]))]:List Deferred)=[(Deferred.mk (Target.fn (Fn.func 135) ⟨[]⟩) (Array.mk [pA 101]))])/\(out (Exit.exit 0) [(.iface 1000000021 (.slice (some ⟨102,0,none⟩) k k)),pA 101] [dR s,WZ,ob]))):=by kernel_rfl
abbrev LNt:=Code->Nat->Lv->Lo->(Int->Prop)->Prop
def AIH(L:LNt):LpS:=lpS [1,6] fun c n AB obs K=>match AB with
 |_::t::_=>L c n AB obs (fun z=>K (.exit 0) [t,.int .u64 z] [])
 |_=>False
def WN2(L:LNt):How:=AP (fun _=>none) (fun _=>false) [] [(5,(37,([0,1,6,21,22],AIH L)))] [] []
def APb(N:Nd)(L:LNt)(s:ByteArray)(t:Int)(K:Value->Prop):Prop:=wpe Tryz.prog N (WN2 L) 300 (.call 142 [(.string s),(.int .u64 t)] h0) (J6 K)
def APa(N:Nd)(s:ByteArray)(t z n i:Int)(back:Bk)(out:Ot):Prop:=
 wpe Tryz.prog N (AP (fun _=>none) (fun _=>false) [] [] [] []) 300 (.code false (AJ Tryz.prog 142 5) (CX 100 37 [0,1,6,21,22] [] ([.string s,.int .u64 t,.int .u64 z,.int .i64 n,.int .i64 i],[]))) (A7 100 [0,1,6,21,22] [1,6] 37 [] back out)
theorem AJ2(N:Nd)(L:LNt)(s:ByteArray)(t:Int)(K:Value->Prop):APb N L s t K=(N.slen s (fun z0=>N.cmp .gtr .i64 z0 .i64 8 (K (.tuple (Array.mk [.int .u64 0,.int .i64 3]))) (N.scmp .neq s (bytesOf []) (N.sat s 0 (fun z1=>N.cmp .eql .u8 z1 .u8 0 (K (.tuple (Array.mk [.int .u64 0,.int .i64 3]))) (N.slen s (fun z2=>L (AJ Tryz.prog 142 5) 37 [.string s,.int .u64 t,.int .u64 0,.int .i64 z2,.int .i64 0] [] (fun z3=>N.cmp .gtr .u64 z3 .u64 t (K (.tuple (Array.mk [.int .u64 0,.int .i64 3]))) (K (.tuple (Array.mk [.int .u64 z3,.int .i64 0])))))))) (N.slen s (fun z1=>L (AJ Tryz.prog 142 5) 37 [.string s,.int .u64 t,.int .u64 0,.int .i64 z1,.int .i64 0] [] (fun z2=>N.cmp .gtr .u64 z2 .u64 t (K (.tuple (Array.mk [.int .u64 0,.int .i64 3]))) (K (.tuple (Array.mk [.int .u64 z2,.int .i64 0]))))))))):=by kernel_rfl
theorem AJ1(N:Nd)(s:ByteArray)(t z n i:Int)(back:Bk)(out:Ot):APa N s t z n i back out=(N.cmp .lss .i64 i .i64 n (N.ari .shl .u64 z .u64 8 (fun z0=>N.sat s i (fun z1=>N.conv 5 28 .u8 z1 .u64 (fun z2=>N.ari .or .u64 z0 .u64 z2 (fun z3=>N.ari .add .i64 i .i64 1 (fun z4=>nD/\(back [.string s,.int .u64 t,.int .u64 z3,.int .i64 n,.int .i64 z4] []))))))) (nD/\(out (Exit.exit 0) [.int .u64 t,.int .u64 z] []))):=by kernel_rfl
theorem uU8:Tryz.prog.underlying 5=some (.int .u8):=by kernel_rfl
theorem EZ:Tryz.prog.underlying 3=some (.int .i64):=by kernel_rfl
theorem EH:Tryz.prog.underlying 28=some (.int .u64):=by kernel_rfl
theorem AFW:Tryz.prog.underlying 27=some (.int .u32):=by kernel_rfl
def FX(l:List At):Lv:=l.map AAs
def cSt(s:ByteArray):Lv:=[.string s]
def dW(l:List ByteArray):Lv:=l.map fun s => .string s
theorem AFV(l:List ByteArray):DI 1 (rowsOf cSt l)=some (dW l):=by
 induction l with
 |nil=>rfl
 |cons a l ih=>
  show DI 1 (.agg ⟨[.string a]⟩::rowsOf cSt l)=_
  simp only[DI,ih];rfl
theorem lG(n:Nat)(l:List ByteArray):BL n (dW l)=true:=by
 induction l with
 |nil=>rfl
 |cons a l ih=>show(true&&BL n (dW l))=true;rw[ih];rfl
theorem AIY(l:List ByteArray):(dW l).length=l.length:=by simp[dW]
theorem APx{a b:AA}(ha:EC 102 (some a)=true)(hb:EC 102 (some b)=true){AC:Lo}(h0:AC[0]?=some (some a))(h1:AC[1]?=some (some b)):
  ∀(i:Nat) o,([some a,some b]:Lo)[i]?=some (some o)->AC[i]?=some (some o)/\EC (100+2) (some o)=true:=by
 intro i o h
 rcases i with _|_|i
 ·simp only[List.getElem?_cons_zero,Option.some.injEq]at h;subst h;exact⟨h0,ha⟩
 ·simp only[List.getElem?_cons_succ,List.getElem?_cons_zero,Option.some.injEq]at h;subst h;exact⟨h1,hb⟩
 ·simp at h
structure AQ5(s0 s:List UInt8)(last:Nat)(acc:List At):Prop where
 eq:EG 0 s0=XR acc (EG last s)
 la:last<=255
 il:acc.length<=last
def StD(s0:List UInt8):Type:={p:List UInt8×Nat×List At // AQ5 s0 p.1 p.2.1 p.2.2}
def ID(s0:List UInt8)(p:StD s0):Lv×Lo:=
 ([pA 100,mkS 102 p.1.2.2.length,pA 101,.int .u8 (p.1.2.1:Int)],[some (tRd (bytesOf p.1.1)),some eC,mo (BS p.1.2.2) 94 2])
def RD(s0:List UInt8)(e:Exit)(v:Lv)(o:Lo):Prop:=
 ((EG 0 s0).1=0/\e = .exit 0/\v=[mkS 102 (EG 0 s0).2.length,pA 101]/\o=[none,some eC,mo (BS (EG 0 s0).2) 94 2])∨
 ((EG 0 s0).1≠0/\e=pan ((EG 0 s0).1:Int)/\v=[top,pA 101]/\o=[none,some eC])
theorem AAK{s:ByteArray}{x:Value}{ob:Option AA}:Wk 100 102 [x,pA 101] [some (tRd s),some eC,ob] [top,pA 101] [none,some eC]:=
 (EX (.cons (.top _) (DT.refl _)) (.cons (.none _) (F5.refl _))).trans (I1 (k0:=2) (pre:=[none,some eC]) (extra:=[ob]) rfl rfl (fun i o h=>by
  rcases i with _|_|i
  ·simp at h
  ·simp only[List.getElem?_cons_succ,List.getElem?_cons_zero,Option.some.injEq]at h;subst h;rfl
  ·simp at h))
theorem fK{s0:List UInt8}{acc:List At}{e:Nat}{q:Nat×List At}(h:EG 0 s0=XR acc q)(hq:q=(e,[]))(he:e≠0):(EG 0 s0).1≠0/\pan (e:Int)=pan ((EG 0 s0).1:Int):=by
 subst hq
 have:(EG 0 s0).1=e:=by rw[h];unfold XR;simp[he]
 rw[this];exact⟨he,rfl⟩
theorem AM9(s0:List UInt8)(p:StD s0):
  Is (wpe Tryz.prog (real Tryz.prog) WS2 300 (.code false (AJ Tryz.prog 73 3) (CX 100 37 [0,2,3,4] dsC (ID s0 p))) (A7 100 [0,2,3,4] [2,3] 37 dsC
   (fun AB AC=>∃a':StD s0,a'.1.1.length<p.1.1.length/\Wk 100 (100+2) AB AC (ID s0 a').1 (ID s0 a').2/\∀e v o,RD s0 e v o->RD s0 e v o)
   (fun e AB AC=>∃v o,Wk 100 (100+2) AB AC v o/\RD s0 e v o))):=by
 refine⟨?_⟩
 obtain⟨⟨s,last,acc⟩,inv⟩:=p
 have heq:=inv.eq
 have hla:=inv.la
 have hil:=inv.il
 dsimp only at heq hla hil
 show ALe (real Tryz.prog) (bytesOf s) acc.length (mo (BS acc) 94 2) (last:Int) _ _
 rw[AGP]
 rcases s with _|⟨t,_|⟨a,_|⟨b,r⟩⟩⟩
 ·refine FM (fun h=>absurd rfl h) (fun _=>⟨rfl,_,_,EX (DT.refl _) (.cons (.none _) (F5.refl _)),.inl ?_⟩)
  have h0:EG 0 s0=(0,acc):=by rw[heq,QP];unfold XR;simp
  rw[h0];exact⟨rfl,rfl,rfl,rfl⟩
 ·have hp:=fK heq (KO (by simp) (by simp)) (by omega)
  exact FM (fun _=>FC (EL (d:=3) (fun _=>⟨rfl,rfl,_,_,AAK,.inr ⟨hp.1,hp.2,rfl,rfl⟩⟩) (fun h=>absurd h (by simp[AV])))) (fun h=>absurd h (List.cons_ne_nil _ _))
 ·have hp:=fK heq (KO (by simp) (by simp)) (by omega)
  exact FM (fun _=>FC (EL (d:=3) (fun _=>⟨rfl,rfl,_,_,AAK,.inr ⟨hp.1,hp.2,rfl,rfl⟩⟩) (fun h=>absurd h (by simp[AV])))) (fun h=>absurd h (List.cons_ne_nil _ _))
 refine FM (fun _=>FC (EL (d:=3) (fun h=>absurd h (by simp[AV])) (fun _=>?_))) (fun h=>absurd h (List.cons_ne_nil _ _))
 have ht:=t.toNat_lt
 have ha:=a.toNat_lt
 have hb:=b.toNat_lt
 have hn:=eG a b
 refine VA 3 rfl (by simp[AV]) (N8 3 rfl (by simp[AV]) (N8 1 rfl (by simp[AV]) ?_))
 refine PN 0 rfl (b:=a) rfl (BX uU8 EZ (BG (by omega)) (ADv (by omega) ?_))
 refine PN 1 rfl (b:=b) rfl (BX uU8 EZ (BG (by omega)) (AHP (by omega) hb ?_))
 show(real Tryz.prog).sat _ _ _
 refine PN 0 rfl (b:=t) rfl (YD (fun h1=>?_) (fun h1=>?_))
 ·refine YD (m:=EN a b) (d:=0) (fun h2=>?_) (fun h2=>?_)
  ·have hc:¬(t.toNat<=last∨EN a b=0):=by omega
   refine PN 0 rfl (b:=t) rfl (FC (EL (d:=EN a b) (fun h3=>?_) (fun h3=>?_)))
   ·have hp:=fK heq (YK hc h3) (by omega)
    exact⟨rfl,rfl,_,_,AAK,.inr ⟨hp.1,hp.2,rfl,rfl⟩⟩
   ·have h3':EN a b<=r.length:=h3
    have hT:J3=140737488355328:=rfl
    rw[OD hc (by omega),iQ]at heq
    have hacc:(acc++[(⟨t.toNat,bytesOf (r.take (EN a b))⟩:At)]).length=acc.length+1:=by simp
    refine VA (EN a b) rfl h3 (N8 (EN a b) rfl h3 ?_)
    refine D6 (SF _) (by omega) (FV (by omega) rfl rfl (by omega) (by omega) ⟨rfl,⟨⟨r.drop (EN a b),t.toNat,acc++[⟨t.toNat,bytesOf (r.take (EN a b))⟩]⟩,⟨heq,by dsimp only;omega,by dsimp only;omega⟩⟩,?_,?_,fun _ _ _ h=>h⟩)
    ·show(r.drop (EN a b)).length<(t::a::b::r).length
     simp;omega
    ·have hcell:BS acc++[.int .u8 (t.toNat:Int),.string (bytesOf (r.take (EN a b)))]=BS (acc++[⟨t.toNat,bytesOf (r.take (EN a b))⟩]):=by
      rw[V4];rfl
     show Wk 100 (100+2) _ _ ([pA 100]++mkS (100+2) (acc++[(⟨t.toNat,bytesOf (r.take (EN a b))⟩:At)]).length::[pA 101,.int .u8 (t.toNat:Int)]) ([some (tRd (bytesOf (r.drop (EN a b)))),some eC]++[mo (BS (acc++[⟨t.toNat,bytesOf (r.take (EN a b))⟩])) 94 2])
     rw[←hcell,J4 (by simp),hacc]
     exact IU (k0:=2) (j:=4) (va:=[pA 100]) (by omega) rfl (by rw[hcell];exact BJ _) rfl rfl (by omega) rfl (APx rfl rfl rfl rfl)
  ·have hp:=fK heq (OV (.inr (by omega))) (by omega)
   exact⟨rfl,rfl,_,_,AAK,.inr ⟨hp.1,hp.2,rfl,rfl⟩⟩
 ·have hp:=fK heq (OV (.inl h1)) (by omega)
  exact⟨rfl,rfl,_,_,AAK,.inr ⟨hp.1,hp.2,rfl,rfl⟩⟩
def LD(s0:List UInt8):LAt:=fun c n AB ds obs A E=>c=AJ Tryz.prog 73 3/\n=37/\AB=[pA 100,.slice none 0 0,pA 101,.int .u8 (0:Int)]/\ds=dsC/\obs=[some (tRd (bytesOf s0)),some eC]/\
 ((EG 0 s0).1=0->A (EG 0 s0).2.length (mo (BS (EG 0 s0).2) 94 2))/\((EG 0 s0).1≠0->E ((EG 0 s0).1:Int))
theorem lpD(s0:List UInt8):BH Tryz.prog 100 [0,2,3,4] (AIG (LD s0)):=by
 show BH Tryz.prog 100 [0,2,3,4] (AE2 [2,3] _)
 refine AHG okp (W:=WS2) DC AZ ?_
 rintro c n AB ds obs K ⟨hc,hn,hv,hd,ho,hA,hE⟩
 subst hc;subst hn;subst hv;subst hd;subst ho
 refine⟨StD s0,2,300,fun p=>p.1.1.length,ID s0,fun _ e v o=>RD s0 e v o,⟨⟨s0,0,[]⟩,⟨(eH _ (QO _ _)).symm,by dsimp only;omega,by simp⟩⟩,rfl,rfl,?_,?_,AM9 s0⟩
 ·exact IP (va:=[pA 100])
 intro e v o hR
 rcases hR with⟨h1,rfl,rfl,rfl⟩ | ⟨h1,rfl,rfl,rfl⟩
 ·exact hA h1
 ·exact hE h1
def lX(q:Nat×List At):Value := .tuple ⟨[dsl (FX q.2),.int .i64 (q.1:Int)]⟩
theorem ADK{q:Nat×List At}(h:q.2=[]):FZ (.tuple ⟨[.slice none 0 0,.int .i64 (q.1:Int)]⟩) (lX q):=by
 unfold lX;rw[h];exact .tup (.cons .nilD (DT.refl _))
theorem ARs(s0:List UInt8):Is (AOK (real Tryz.prog) (LD s0) (bytesOf s0) (PQ (lX (EG 0 s0)))):=by
 refine⟨?_⟩
 rw[AJQ]
 refine⟨rfl,rfl,rfl,rfl,rfl,fun h=>YO (fun h=>absurd rfl h) (fun _=>?_),fun h=>YO (fun _=>?_) (fun h2=>absurd h2 (by omega))⟩
 ·unfold lX;rw[h]
  exact(AAM (JY 0 2 rfl rfl (ACZ _) (BJ _) (by omega) (List.length_map _).symm)).trans (LB rfl)
 ·exact(EX (.cons (ADK (QO _ _ h)) .nil) (F5.refl _)).trans (LB rfl)
abbrev MDt:=ByteArray->(Lv->Prop)->Prop->Prop->Prop
def fO(M:MDt):Lv->(Value->Prop)->Prop
 | [.string s],K=>M s (fun rs=>K (.tuple ⟨[dsl rs,.int .i64 0]⟩)) (K (.tuple ⟨[dsl [],.int .i64 3]⟩)) (K (.tuple ⟨[dsl [],.int .i64 4]⟩))
 |_,_=>False
def MD:MDt:=fun s A E3 E4=>((EG 0 s.data.toList).1=0->A (FX (EG 0 s.data.toList).2))/\((EG 0 s.data.toList).1=3->E3)/\((EG 0 s.data.toList).1=4->E4)
theorem vQ(q:Nat×List At):below 100 (lX q)=true:=rfl
theorem QZ:FY Tryz.prog 100 37 (fO MD):=by
 intro args K h
 unfold fO at h
 split at h<;>try exact h.elim
 rename_i s
 have hc:∀B H,BM Tryz.prog 100 B 37 [.string s] H (.returned (lX (EG 0 s.data.toList))) H:=fun B H=>by
  have:=GL okp DC (GH (fun x hx=>by simp only[List.mem_singleton]at hx;subst hx;exact lpD s.data.toList)) rfl (vQ _) (ARs s.data.toList) B H
  rw[bytes_eta]at this;exact this
 refine⟨_,hc,?_⟩
 rcases nV _ 0 s.data.toList (Nat.le_refl _)with h0|h0|h0
 ·have:=h.1 h0
  unfold lX;rw[h0];exact this
 ·have:=h.2.1 h0
  unfold lX;rw[QO _ _ (by omega),h0];exact this
 ·have:=h.2.2 h0
  unfold lX;rw[QO _ _ (by omega),h0];exact this
structure AN8(t:Nat)(s0 s:List UInt8)(acc:List ByteArray):Prop where
 eq:HY t 0 s0=XR acc (HY t acc.length s)
 il:acc.length<=t
def StL(t:Nat)(s0:List UInt8):Type:={p:List UInt8×List ByteArray // AN8 t s0 p.1 p.2}
def IL2(t:Nat)(s0:List UInt8)(p:StL t s0):Lv×Lo:=
 ([pA 100,.int .i64 (t:Int),mkS 102 p.1.2.length,pA 101],[some (tRd (bytesOf p.1.1)),some eC,mo (dW p.1.2) 9 1])
def RL2(t:Nat)(s0:List UInt8)(e:Exit)(v:Lv)(o:Lo):Prop:=
 ((HY t 0 s0).1=0/\e = .exit 0/\v=[mkS 102 (HY t 0 s0).2.length,pA 101]/\o=[none,some eC,mo (dW (HY t 0 s0).2) 9 1])∨
 ((HY t 0 s0).1≠0/\e=pan ((HY t 0 s0).1:Int)/\v=[top,pA 101]/\o=[none,some eC])
theorem vN{t:Nat}{s0:List UInt8}{acc:List ByteArray}{e:Nat}{q:Nat×List ByteArray}(h:HY t 0 s0=XR acc q)(hq:q=(e,[]))(he:e≠0):(HY t 0 s0).1≠0/\pan (e:Int)=pan ((HY t 0 s0).1:Int):=by
 subst hq
 have:(HY t 0 s0).1=e:=by rw[h];unfold XR;simp[he]
 rw[this];exact⟨he,rfl⟩
theorem AKQ(t:Nat)(hm:t<=1000)(s0:List UInt8)(p:StL t s0):
  Is (wpe Tryz.prog (real Tryz.prog) WS2 300 (.code false (AJ Tryz.prog 226 2) (CX 100 27 [0,1,4,5] dsC (IL2 t s0 p))) (A7 100 [0,1,4,5] [4,5] 27 dsC
   (fun AB AC=>∃a':StL t s0,a'.1.1.length<p.1.1.length/\Wk 100 (100+2) AB AC (IL2 t s0 a').1 (IL2 t s0 a').2/\∀e v o,RL2 t s0 e v o->RL2 t s0 e v o)
   (fun e AB AC=>∃v o,Wk 100 (100+2) AB AC v o/\RL2 t s0 e v o))):=by
 refine⟨?_⟩
 obtain⟨⟨s,acc⟩,inv⟩:=p
 have heq:=inv.eq
 have hil:=inv.il
 dsimp only at heq hil
 show AO9 (real Tryz.prog) (bytesOf s) (t:Int) acc.length (mo (dW acc) 9 1) _ _
 rw[AJ0]
 rcases s with _|⟨a,_|⟨b,r⟩⟩
 ·refine FM (fun h=>absurd rfl h) (fun _=>⟨rfl,_,_,EX (DT.refl _) (.cons (.none _) (F5.refl _)),.inl ?_⟩)
  have h0:HY t 0 s0=(0,acc):=by rw[heq,WF];unfold XR;simp
  rw[h0];exact⟨rfl,rfl,rfl,rfl⟩
 ·have hp:=vN heq (UN (by simp) (by simp)) (by omega)
  exact FM (fun _=>FC (EL (d:=2) (fun _=>⟨rfl,rfl,_,_,AAK,.inr ⟨hp.1,hp.2,rfl,rfl⟩⟩) (fun h=>absurd h (by simp[AV])))) (fun h=>absurd h (List.cons_ne_nil _ _))
 refine FM (fun _=>FC (EL (d:=2) (fun h=>absurd h (by simp[AV])) (fun _=>?_))) (fun h=>absurd h (List.cons_ne_nil _ _))
 have ha:=a.toNat_lt
 have hb:=b.toNat_lt
 have hn:=eG a b
 refine VA 2 rfl (by simp[AV]) (N8 2 rfl (by simp[AV]) ?_)
 refine PN 0 rfl (b:=a) rfl (BX uU8 EZ (BG (by omega)) (ADv (by omega) ?_))
 refine PN 1 rfl (b:=b) rfl (BX uU8 EZ (BG (by omega)) (AHP (by omega) hb ?_))
 refine EL (m:=acc.length) (d:=t) (fun h1=>?_) (fun h1=>?_)
 ·refine FC (EL (d:=EN a b) (fun h3=>?_) (fun h3=>?_))
  ·have hp:=vN heq (aZ (by omega) h3) (by omega)
   exact⟨rfl,rfl,_,_,AAK,.inr ⟨hp.1,hp.2,rfl,rfl⟩⟩
  ·have h3':EN a b<=r.length:=h3
   have hT:J3=140737488355328:=rfl
   rw[TF (by omega) (by omega),iQ]at heq
   have hacc:(acc++[bytesOf (r.take (EN a b))]).length=acc.length+1:=by simp
   rw[←hacc]at heq
   refine VA (EN a b) rfl h3 (N8 (EN a b) rfl h3 ?_)
   refine D6 (by rw[AIY,Nat.mul_one]) (by omega) (FV (by omega) rfl rfl (by omega) (by omega) ⟨rfl,⟨⟨r.drop (EN a b),acc++[bytesOf (r.take (EN a b))]⟩,⟨heq,by dsimp only;omega⟩⟩,?_,?_,fun _ _ _ h=>h⟩)
   ·show(r.drop (EN a b)).length<(a::b::r).length
    simp;omega
   ·have hcell:dW acc++[.string (bytesOf (r.take (EN a b)))]=dW (acc++[bytesOf (r.take (EN a b))]):=by simp[dW]
    show Wk 100 (100+2) _ _ ([pA 100,.int .i64 (t:Int)]++mkS (100+2) (acc++[bytesOf (r.take (EN a b))]).length::[pA 101]) ([some (tRd (bytesOf (r.drop (EN a b)))),some eC]++[mo (dW (acc++[bytesOf (r.take (EN a b))])) 9 1])
    rw[←hcell,J4 (by simp),hacc]
    exact IU (k0:=2) (j:=4) (va:=[pA 100,.int .i64 (t:Int)]) (by omega) rfl (by rw[hcell];exact lG _ _) rfl rfl (by omega) rfl (APx rfl rfl rfl rfl)
 ·have hp:=vN heq (X5 h1) (by omega)
  exact⟨rfl,rfl,_,_,AAK,.inr ⟨hp.1,hp.2,rfl,rfl⟩⟩
def LL2(t:Nat)(s0:List UInt8):LAt:=fun c n AB ds obs A E=>c=AJ Tryz.prog 226 2/\n=27/\AB=[pA 100,.int .i64 (t:Int),.slice none 0 0,pA 101]/\ds=dsC/\obs=[some (tRd (bytesOf s0)),some eC]/\
 ((HY t 0 s0).1=0->A (HY t 0 s0).2.length (mo (dW (HY t 0 s0).2) 9 1))/\((HY t 0 s0).1≠0->E ((HY t 0 s0).1:Int))
theorem ARU(t:Nat)(hm:t<=1000)(s0:List UInt8):BH Tryz.prog 100 [0,1,4,5] (ADZ (LL2 t s0)):=by
 show BH Tryz.prog 100 [0,1,4,5] (AE2 [4,5] _)
 refine AHG okp (W:=WS2) DC AZ ?_
 rintro c n AB ds obs K ⟨hc,hn,hv,hd,ho,hA,hE⟩
 subst hc;subst hn;subst hv;subst hd;subst ho
 refine⟨StL t s0,2,300,fun p=>p.1.1.length,IL2 t s0,fun _ e v o=>RL2 t s0 e v o,⟨⟨s0,[]⟩,⟨(eH _ (TE _ _ _)).symm,by simp⟩⟩,rfl,rfl,?_,?_,AKQ t hm s0⟩
 ·exact IP (va:=[pA 100,.int .i64 (t:Int)])
 intro e v o hR
 rcases hR with⟨h1,rfl,rfl,rfl⟩ | ⟨h1,rfl,rfl,rfl⟩
 ·exact hA h1
 ·exact hE h1
def bM(q:Nat×List ByteArray):Value := .tuple ⟨[dsl (rowsOf cSt q.2),.int .i64 (q.1:Int)]⟩
theorem AFD{q:Nat×List ByteArray}(h:q.2=[]):FZ (.tuple ⟨[.slice none 0 0,.int .i64 (q.1:Int)]⟩) (bM q):=by
 unfold bM;rw[h];exact .tup (.cons .nilD (DT.refl _))
theorem rlC(t:Nat)(s0:List UInt8):Is (gRL (real Tryz.prog) (LL2 t s0) (bytesOf s0) (t:Int) (PQ (bM (HY t 0 s0)))):=by
 refine⟨?_⟩
 rw[AMg]
 refine⟨rfl,rfl,rfl,rfl,rfl,fun h=>YO (fun h=>absurd rfl h) (fun _=>?_),fun h=>YO (fun _=>?_) (fun h2=>absurd h2 (by omega))⟩
 ·unfold bM;rw[h]
  exact(AAM (JY 0 2 rfl rfl (AFV _) (lG _ _) (by omega) (AQ _ _).symm)).trans (LB rfl)
 ·exact(EX (.cons (AFD (TE _ _ _ h)) .nil) (F5.refl _)).trans (LB rfl)
abbrev ZW:=ByteArray->Int->(Lv->Prop)->Prop->Prop->Prop
def sRL(M:ZW):Lv->(Value->Prop)->Prop
 | [.string s,.int .i64 t],K=>M s t (fun rs=>K (.tuple ⟨[dsl rs,.int .i64 0]⟩)) (K (.tuple ⟨[dsl [],.int .i64 3]⟩)) (K (.tuple ⟨[dsl [],.int .i64 4]⟩))
 |_,_=>False
def MRL:ZW:=fun s m A E3 E4=>∃t:Nat,m=t/\t<=1000/\((HY t 0 s.data.toList).1=0->A (rowsOf cSt (HY t 0 s.data.toList).2))/\((HY t 0 s.data.toList).1=3->E3)/\((HY t 0 s.data.toList).1=4->E4)
theorem AAm(q:Nat×List ByteArray):below 100 (bM q)=true:=rfl
theorem AFm:FY Tryz.prog 100 150 (sRL MRL):=by
 intro args K h
 unfold sRL at h
 split at h<;>try exact h.elim
 rename_i s m
 obtain⟨t,rfl,ht,hA,hE3,hE4⟩:=h
 have hc:∀B H,BM Tryz.prog 100 B 150 [.string s,.int .i64 (t:Int)] H (.returned (bM (HY t 0 s.data.toList))) H:=fun B H=>by
  have:=GL okp DC (GH (fun x hx=>by simp only[List.mem_singleton]at hx;subst hx;exact ARU t ht s.data.toList)) rfl (AAm _) (rlC t s.data.toList) B H
  rw[bytes_eta]at this;exact this
 refine⟨_,hc,?_⟩
 rcases qJ _ t 0 s.data.toList (Nat.le_refl _)with h0|h0|h0
 ·have:=hA h0
  unfold bM;rw[h0];exact this
 ·have:=hE3 h0
  unfold bM;rw[TE _ _ _ (by omega),h0];exact this
 ·have:=hE4 h0
  unfold bM;rw[TE _ _ _ (by omega),h0];exact this
def IN(s:ByteArray)(t:Nat)(i:{i:Nat // i<=s.data.toList.length}):Lv×Lo:=
 ([.string s,.int .u64 (t:Int),.int .u64 (PW (s.data.toList.take i.1):Int),.int .i64 (s.data.toList.length:Int),.int .i64 (i.1:Int)],[])
def RN(s:ByteArray)(t:Nat)(e:Exit)(v:Lv)(o:Lo):Prop:=e = .exit 0/\v=[.int .u64 (t:Int),.int .u64 (PW s.data.toList:Int)]/\o=[]
theorem ASe{l:List UInt8}(h:l.length<=7):PW l<72057594037927936:=by
 have h1:=lI l
 have h2:256 ^ l.length<=256 ^ 7:=Nat.pow_le_pow_right (by omega) h
 have h3:(256:Nat) ^ 7=72057594037927936:=by decide
 omega
theorem ANc(s:ByteArray)(t:Nat)(h8:s.data.toList.length<=8)(i:{i:Nat // i<=s.data.toList.length}):
  Is (wpe Tryz.prog (real Tryz.prog) (AP (fun _=>none) (fun _=>false) [] [] [] []) 300 (.code false (AJ Tryz.prog 142 5) (CX 100 37 [0,1,6,21,22] [] (IN s t i))) (A7 100 [0,1,6,21,22] [1,6] 37 []
   (fun AB AC=>∃a':{i:Nat // i<=s.data.toList.length},s.data.toList.length-a'.1<s.data.toList.length-i.1/\Wk 100 (100+0) AB AC (IN s t a').1 (IN s t a').2/\∀e v o,RN s t e v o->RN s t e v o)
   (fun e AB AC=>∃v o,Wk 100 (100+0) AB AC v o/\RN s t e v o))):=by
 refine⟨?_⟩
 obtain⟨i,hi⟩:=i
 show APa (real Tryz.prog) s (t:Int) (PW (s.data.toList.take i):Int) (s.data.toList.length:Int) (i:Int) _ _
 rw[AJ1]
 refine EL (fun hlt=>?_) (fun hge=>?_)
 ·have hx:s.data.toList[i]?=some s.data.toList[i]:=List.getElem?_eq_getElem hlt
  generalize s.data.toList[i]=b at hx
  have hb:=b.toNat_lt
  have h7:=ASe (l:=s.data.toList.take i) (by rw[List.length_take];omega)
  refine AKq h7 (PN i rfl hx (BX uU8 EH (AF5 (by omega)) (AMJ h7 hb (BZ (by omega) ⟨rfl,⟨i+1,hlt⟩,?_,?_,fun _ _ _ h=>h⟩))))
  ·show s.data.toList.length-(i+1)<s.data.toList.length-i
   omega
  ·have:PW (s.data.toList.take (i+1))=PW (s.data.toList.take i)*256+b.toNat:=by rw[List.take_add_one,hx];exact dY _ _
   show Wk 100 (100+0) _ _ [.string s,.int .u64 (t:Int),.int .u64 (PW (s.data.toList.take (i+1)):Int),_,_] []
   rw[this]
   exact Wk.refl _ _ _ _
 ·have e:i=s.data.toList.length:=by omega
  subst e
  rw[List.take_length]
  exact⟨rfl,_,_,Wk.refl _ _ _ _,rfl,rfl,rfl⟩
def LN(s:ByteArray)(t:Nat):LNt:=fun c n AB obs A=>c=AJ Tryz.prog 142 5/\n=37/\AB=[.string s,.int .u64 (t:Int),.int .u64 (0:Int),.int .i64 (s.data.toList.length:Int),.int .i64 (0:Int)]/\obs=[]/\s.data.toList.length<=8/\A (PW s.data.toList:Int)
theorem lpN(s:ByteArray)(t:Nat):BH Tryz.prog 100 [0,1,6,21,22] (AIH (LN s t)):=by
 show BH Tryz.prog 100 [0,1,6,21,22] (lpS [1,6] _)
 refine FQ okp (W:=AP (fun _=>none) (fun _=>false) [] [] [] []) DC AZ ?_
 intro c n AB obs K h
 split at h<;>try exact h.elim
 obtain⟨hc,hn,hv,ho,h8,hA⟩:=h
 subst hc;subst hn;subst ho
 simp only[List.cons.injEq]at hv
 obtain⟨rfl,rfl,rfl⟩:=hv
 refine⟨{i:Nat // i<=s.data.toList.length},0,300,fun i=>s.data.toList.length-i.1,IN s t,fun _ e v o=>RN s t e v o,⟨0,Nat.zero_le _⟩,rfl,Wk.refl _ _ _ _,?_,ANc s t h8⟩
 intro e v o hR
 obtain⟨rfl,rfl,rfl⟩:=hR
 exact hA
def ASu(o:Option Nat):Value:=match o with
 |some n => .tuple ⟨[.int .u64 (n:Int),.int .i64 0]⟩
 |none => .tuple ⟨[.int .u64 0,.int .i64 3]⟩
theorem AAq{s:List UInt8}{t:Nat}(h:8<s.length∨s[0]?=some 0):UZ s t=none:=by unfold UZ;rw[if_pos h]
theorem AAr{s:List UInt8}{t:Nat}(h:t<PW s):UZ s t=none:=by
 unfold UZ;rw[if_pos h];split<;>rfl
theorem ADQ{s:List UInt8}{t:Nat}(h1:¬8<s.length)(h2:s[0]?≠some 0)(h:¬t<PW s):UZ s t=some (PW s):=by
 unfold UZ
 rw[if_neg (fun h=>h.elim h1 h2),if_neg h]
theorem ASw(s:ByteArray)(t:Nat):Is (APb (real Tryz.prog) (LN s t) s (t:Int) (fun v=>v=ASu (UZ s.data.toList t))):=by
 refine⟨?_⟩
 rw[AJ2]
 refine FC (YD (d:=8) (fun h=>by rw[AAq (.inl h)];rfl) (fun h8=>FM (fun hne=>?_) (fun he=>?_)))
 ·have hx:∃b,s.data.toList[0]?=some b:=by
   cases h:s.data.toList with
   |nil=>exact absurd h hne
   |cons b l=>exact⟨b,rfl⟩
  obtain⟨b,hb⟩:=hx
  refine PN 0 rfl hb (DZ (d:=0) (fun h0=>?_) (fun h0=>?_))
  ·have:b=0:=by apply UInt8.toNat_inj.1;exact h0
   subst this
   rw[AAq (.inr hb)];rfl
  ·have h2:s.data.toList[0]?≠some 0:=by
    rw[hb];intro e
    simp only[Option.some.injEq]at e
    subst e;exact h0 rfl
   exact FC ⟨rfl,rfl,rfl,rfl,h8,YD (fun h=>by rw[AAr h];rfl) (fun h=>by rw[ADQ (by omega) h2 (by omega)];rfl)⟩
 ·have he':s.data.toList=[]:=he
  have h2:s.data.toList[0]?≠some 0:=by rw[he'];simp
  exact FC ⟨rfl,rfl,rfl,rfl,h8,YD (fun h=>by rw[AAr h];rfl) (fun h=>by rw[ADQ (by omega) h2 (by omega)];rfl)⟩
abbrev MNt:=ByteArray->Int->(Int->Prop)->Prop->Prop
def sRN(M:MNt):Lv->(Value->Prop)->Prop
 | [.string s,.int .u64 t],K=>M s t (fun n=>K (.tuple ⟨[.int .u64 n,.int .i64 0]⟩)) (K (.tuple ⟨[.int .u64 0,.int .i64 3]⟩))
 |_,_=>False
def MRN:MNt:=fun s m A E=>∃t:Nat,m=t/\(∀n:Nat,UZ s.data.toList t=some n->A (n:Int))/\(UZ s.data.toList t=none->E)
theorem WV:FY Tryz.prog 100 142 (sRN MRN):=by
 intro args K h
 unfold sRN at h
 split at h<;>try exact h.elim
 rename_i s m
 obtain⟨t,rfl,hA,hE⟩:=h
 refine⟨_,fun B H=>kQ okp DC (GH (fun x hx=>by simp only[List.mem_singleton]at hx;subst hx;exact lpN s t)) rfl (ASw s t) B H,?_⟩
 cases h0:UZ s.data.toList t with
 |none=>exact hE h0
 |some n=>exact hA n h0
end
end Go.Proofs.Ob
