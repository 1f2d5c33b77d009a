/- . -/
import Derived.Test.YtblbaohcelldpaaGreatDoorQH
set_option linter.all false
set_option maxRecDepth 100000
namespace Go.Proofs.Ob
open Go Go.Abs Go.Tlv
noncomputable section
def AW5:List (Nat×List Nat):=[(2,[6]),(44,[6]),(3,[8]),(4,[8]),(6,[2,6]),(9,[2,3]),(10,[3]),(11,[10]),(13,[11]),(15,[12]),(17,[13]),(18,[13]),(19,[14]),(21,[15]),(23,[16]),(25,[17]),(12,[1]),(14,[1]),(16,[1]),(20,[1]),(22,[1]),(24,[1]),(26,[1]),(27,[1]),(28,[1]),(29,[1]),(34,[1]),(45,[1]),(30,[1,6,7]),(31,[1,2,6]),(32,[1,2,9]),(33,[1,2,9]),(35,[1,6]),(46,[1,6]),(37,[9]),(38,[4]),(39,[2,4,6]),(40,[4,8]),(41,[4,5,8]),(42,[5,13])]
def chH(N:Nd)(k:Int)(K:RK):List (Nat×List Nat)->Prop
 | []=>K (.slice none 0 0) []
 |(c,l)::r=>N.cmp .eql .u8 k .u8 (c:Int) (K (.slice (some ⟨100,0,none⟩) l.length l.length) [some (.cells (wF l) 5 1 false true)]) (chH N k K r)
def AUU(k:Nat):List (Nat×List Nat)->List Nat
 | []=>[]
 |(c,l)::r=>if k=c then l else AUU k r
def gRH(N:Nd)(k:Int)(K:RK):Prop:=wpe Tryz.prog N (AP Z0 Zp [] [] [] []) 1000 (.call 33 [(.int .u8 k)] h0) (FD 100 K)
theorem AXl(N:Nd)(k:Int)(K:RK):gRH N k K=chH N k K AW5:=by kernel_rfl
theorem chC(k:Nat):∀r:List (Nat×List Nat),chH (real Tryz.prog) (k:Int) (PQ (dsl (rowsOf cU8 (AUU k r)))) r
 | []=>(EX (.cons .nilD .nil) (F5.refl _)).trans (LB rfl)
 |(c,l)::r=>by
  by_cases h:k=c
  ·refine DZ (fun _=>?_) (fun h2=>absurd h h2)
   rw[AUU,if_pos h]
   exact(rA (G:=100) (n0:=100) (i:=0) (AY:=rowsOf cU8 l) (AB:=[.slice (some ⟨100,0,none⟩) l.length l.length]) (AC:=[some (.cells (wF l) 5 1 false true)]) (vals':=[dsl (rowsOf cU8 l)]) rfl (AQZ l) (ACk l) (by omega) rfl (fun j v v' h1 h2=>by
    cases j with
    |zero=>
     simp only[List.getElem?_cons_zero,Option.some.injEq]at h1 h2
     subst h1;subst h2
     exact .inr ⟨rfl,l.length,by rw[AQ];exact Nat.le_refl _,.inl (by rw[AQ])⟩
    |succ j=>simp at h1)).trans (LB rfl)
  ·refine DZ (fun h2=>absurd h2 h) (fun _=>?_)
   rw[AUU,if_neg h]
   exact chC k r
theorem AWg(k:Nat)(hk:k<256):AUU k AW5=YL k 17:=by
 have h:∀k:Fin 256,AUU k.val AW5=YL k.val 17:=by decide +kernel
 exact h ⟨k,hk⟩
theorem rhC(k:Nat)(hk:k<256):Is (gRH (real Tryz.prog) (k:Int) (PQ (dsl (rowsOf cU8 (YL k 17))))):=by
 refine⟨?_⟩
 rw[AXl,←AWg k hk]
 exact chC k AW5
theorem AXw:FY Tryz.prog 100 33 (sHs AQ8):=by
 intro args K h
 unfold sHs at h
 split at h<;>try exact h.elim
 obtain⟨k,rfl,hk,hK⟩:=h
 exact⟨_,fun B H=>GL okp DC AZ rfl rfl (rhC k hk) B H,hK⟩
def AXf(L:LQt):LpS:=lpS [4] fun c n AB obs K=>L c n AB obs (K (.exit 0) [top] []) (K .ret [.bool false] [])
def gTy(N:Nd)(L:LQt)(r r2:Lv)(K:Value->Prop):Prop:=wpe Tryz.prog N (AP Z0 Zp [] [(4,(26,([0,1,5],AXf L)))] [] []) 300 (.call 32 [(dsl r),(dsl r2)] h0) (J6 K)
theorem AXq(N:Nd)(L:LQt)(r r2:Lv)(K:Value->Prop):gTy N L r r2 K=N.dlen r fun n=>N.dlen r2 fun m=>N.cmp .neq .i64 n .i64 m (K (.bool false)) (L (AJ Tryz.prog 32 4) 26 [dsl r,dsl r2,.int .i64 0] [] (K (.bool true)) (K (.bool false))):=by kernel_rfl
def AXP(N:Nd)(r r2:Lv)(i:Int)(back:Bk)(out:Ot):Prop:=
 wpe Tryz.prog N (AP Z0 Zp [] [] [] []) 300 (.code false (AJ Tryz.prog 32 4) (CX 100 26 [0,1,5] [] ([dsl r,dsl r2,.int .i64 i],[]))) (A7 100 [0,1,5] [4] 26 [] back out)
theorem AWN(N:Nd)(r r2:Lv)(i:Int)(back:Bk)(out:Ot):AXP N r r2 i back out=N.dlen r fun n=>N.cmp .lss .i64 i .i64 n (N.dget r i 1 fun ca=>N.rdI .u8 ca 0 fun za=>N.dget r2 i 1 fun cb=>N.rdI .u8 cb 0 fun zb=>N.cmp .neq .u8 za .u8 zb (nD/\out .ret [.bool false] [])
 (N.ari .add .i64 i .i64 1 fun j=>nD/\back [dsl r,dsl r2,.int .i64 j] [])) (nD/\out (.exit 0) [top] []):=by kernel_rfl
def ITy(l m:List Nat)(i:StQ l m):Lv×Lo:=([dsl (rowsOf cU8 l),dsl (rowsOf cU8 m),.int .i64 (i.1:Int)],[])
def LTy(l m:List Nat):LQt:=fun code n AB obs A E=>code=AJ Tryz.prog 32 4/\n=26/\AB=[dsl (rowsOf cU8 l),dsl (rowsOf cU8 m),.int .i64 0]/\obs=[]/\l.length=m.length/\(l=m->A)/\(l≠m->E)
theorem AX5(l m:List Nat)(hl:l.length<1000000000)(hm:l.length=m.length)(i:StQ l m):Is (wpe Tryz.prog (real Tryz.prog) (AP Z0 Zp [] [] [] []) 300 (.code false (AJ Tryz.prog 32 4) (CX 100 26 [0,1,5] [] (ITy l m i))) (A7 100 [0,1,5] [4] 26 []
   (fun AB AC=>∃a':StQ l m,l.length-a'.1<l.length-i.1/\Wk 100 (100+0) AB AC (ITy l m a').1 (ITy l m a').2/\∀e v o,RQ l m e v o->RQ l m e v o)
   (fun e AB AC=>∃v o,Wk 100 (100+0) AB AC v o/\RQ l m e v o))):=by
 refine⟨?_⟩
 obtain⟨i,inv⟩:=i
 have hi:=inv.le
 show AXP (real Tryz.prog) (rowsOf cU8 l) (rowsOf cU8 m) (i:Int) _ _
 rw[AWN]
 refine BI l.length (AQ _ _) (EL (fun hlt=>?_) (fun hge=>?_))
 ·have ha:l[i]?=some l[i]:=List.getElem?_eq_getElem hlt
  have hlt2:i<m.length:=by omega
  have hb2:m[i]?=some m[i]:=List.getElem?_eq_getElem hlt2
  generalize l[i]=a at ha
  generalize m[i]=b at hb2
  have hms:l.length-(i+1)<l.length-i:=by omega
  refine DK i rfl (CL ha) rfl (CG rfl (DK i rfl (CL hb2) rfl (CG rfl (MP (fun h=>?_) (fun h=>?_)))))
  ·exact⟨rfl,_,_,Wk.refl _ _ _ _,.inr ⟨fun e=>h (by rw[e,hb2]at ha;simpa using ha.symm),rfl,rfl,rfl⟩⟩
  ·have he:a=b:=h
   subst he
   exact BZ (by omega) ⟨rfl,⟨i+1,⟨hlt,M4 inv.eq ha hb2⟩⟩,hms,Wk.refl _ _ _ _,fun _ _ _ h=>h⟩
 ·have e:i=l.length:=by omega
  have h:=inv.eq
  rw[e,List.take_length,hm,List.take_length]at h
  exact⟨rfl,[top],[],Wk.refl _ _ _ _,.inl ⟨h,rfl,rfl,rfl⟩⟩
theorem AYe(l m:List Nat)(hl:l.length<1000000000):BH Tryz.prog 100 [0,1,5] (AXf (LTy l m)):=by
 show BH Tryz.prog 100 [0,1,5] (lpS [4] _)
 refine FQ okp (W:=AP Z0 Zp [] [] [] []) DC AZ ?_
 rintro cc n AB obs K ⟨hc,hn,hv,ho,hm,hA,hE⟩
 subst hc;subst hn;subst hv;subst ho
 refine⟨StQ l m,0,300,fun a=>l.length-a.1,ITy l m,fun _ e v o=>RQ l m e v o,⟨0,⟨Nat.zero_le _,rfl⟩⟩,rfl,Wk.refl _ _ _ _,?_,AX5 l m hl hm⟩
 intro e v o hR
 rcases hR with⟨h1,rfl,rfl,rfl⟩ | ⟨h1,rfl,rfl,rfl⟩
 ·exact hA h1
 ·exact hE h1
theorem tyC(l m:List Nat):Is (gTy (real Tryz.prog) (LTy l m) (rowsOf cU8 l) (rowsOf cU8 m) (fun v=>∃b:Bool,v = .bool b/\(b=true↔l=m))):=by
 refine⟨?_⟩
 rw[AXq]
 exact BI l.length (AQ _ _) (BI m.length (AQ _ _) (MP (fun h=>⟨false,rfl,CS (fun z:List Nat=>z.length) h⟩) (fun h=>⟨rfl,rfl,rfl,rfl,h,fun h=>⟨true,rfl,fun _=>h,fun _=>rfl⟩,fun h=>⟨false,rfl,CS id h⟩⟩)))
theorem tyH(l m:List Nat)(hl:l.length<1000000000):∃b:Bool,(b=true↔l=m)/\∀B H,BM Tryz.prog 100 B 32 [dsl (rowsOf cU8 l),dsl (rowsOf cU8 m)] H (.returned (.bool b)) H:=
 IZ DC (GH (fun z hz=>by simp only[List.mem_singleton]at hz;subst hz;exact AYe l m hl)) rfl (tyC l m)
def onF(x:A9)(ts:List Nat):A9:=ts.foldl (fun m t=>TW m x t) (LC x.a0 x.a1)
theorem AWo(x:A9)(ts:List Nat)(t:Nat):onF x (ts++[t])=TW (onF x ts) x t:=by unfold onF;rw[List.foldl_append];rfl
def chO(N:Nd)(t:Int)(x m:A9)(B:A9->Prop):List Nat->Prop
 | []=>B (TW m x 17)
 |k::r=>N.cmp .eql .u8 t .u8 (k:Int) (B (TW m x k)) (chO N t x m B r)
def ATL:List Nat:=[1,2,3,4,5,6,7,8,9,10,11,12,13,14,15,16]
def ATM:List Nat:=[1,2,3,4,5,6,7,8,9,10,11,12,13,14,15,16,17]
abbrev LOn:=Code->Nat->Lv->Lo->(A9->Prop)->Prop
def AXd(L:LOn):LpS:=lpS [2,3] fun c n AB obs K=>L c n AB obs fun m=>K (.exit 0) [pA 101,pA 102] [none,rZ,some (cM m)]
def gOn(N:Nd)(MH:MHs)(L:LOn)(x:A9)(K:Value->Prop):Prop:=wpe Tryz.prog N (AP Z0 Zp [] [(4,(108,([1,2,3,4,5],AXd L)))] [(33,sHs MH)] []) 300 (.call 53 [F8 x] h0) (J6 K)
theorem AXk(N:Nd)(MH:MHs)(L:LOn)(x:A9)(K:Value->Prop):gOn N MH L x K=MH (x.a0:Int) fun rs=>L (AJ Tryz.prog 53 4) 108 [pA 100,pA 101,pA 102,dsl rs,.int .i64 0] [some (cM x),rZ,rZk (x.a0:Int) (x.a1:Int)] fun m=>K (F8 m):=by kernel_rfl
def AXM(N:Nd)(x m:A9)(rs:Lv)(i:Int)(back:Bk)(out:Ot):Prop:=
 wpe Tryz.prog N (AP Z0 Zp [] [] [] []) 300 (.code false (AJ Tryz.prog 53 4) (CX 100 108 [1,2,3,4,5] [] ([pA 100,pA 101,pA 102,dsl rs,.int .i64 i],[some (cM x),rZ,some (cM m)]))) (A7 100 [1,2,3,4,5] [2,3] 108 [] back out)
def nxO(N:Nd)(x:A9)(rs:Lv)(i:Int)(back:Bk)(m:A9):Prop:=N.ari .add .i64 i .i64 1 fun j=>nD/\back [pA 100,pA 101,pA 102,dsl rs,.int .i64 j] [some (cM x),rZ,some (cM m)]
theorem AWK(N:Nd)(x m:A9)(rs:Lv)(i:Int)(back:Bk)(out:Ot):AXM N x m rs i back out=N.dlen rs fun n=>N.cmp .lss .i64 i .i64 n (N.dget rs i 1 fun c=>N.rdI .u8 c 0 fun t=>chO N t x m (nxO N x rs i back) ATL) (nD/\out (.exit 0) [pA 101,pA 102] [some (cM x),rZ,some (cM m)]):=by kernel_rfl
theorem AXK{t:Nat}{x m:A9}{B:A9->Prop}(h:B (TW m x t)):∀r:List Nat,t∈r∨t=17->chO (real Tryz.prog) (t:Int) x m B r
 | [],ht=>by rcases ht with ht|rfl;cases ht;exact h
 |k::r,ht=>DZ (fun e=>e ▸ h) (fun e=>AXK h r (ht.elim (fun h => .inl ((List.mem_cons.1 h).resolve_left e)) .inr))
theorem AX9{t:Nat}(h:t∈ATM):t∈ATL∨t=17:=by
 simp only[ATM,ATL,List.mem_cons,List.not_mem_nil,or_false]at h ⊢
 omega
structure AWH(x:A9)(ts:List Nat) where
 m:A9
 i:Nat
 le:i<=ts.length
 eq:m=onF x (ts.take i)
def IOn(x:A9)(ts:List Nat)(p:AWH x ts):Lv×Lo:=([pA 100,pA 101,pA 102,dsl (rowsOf cU8 ts),.int .i64 (p.i:Int)],[some (cM x),rZ,some (cM p.m)])
def ROn(x:A9)(ts:List Nat)(e:Exit)(v:Lv)(o:Lo):Prop:=e = .exit 0/\v=[pA 101,pA 102]/\o=[none,rZ,some (cM (onF x ts))]
theorem AX3(x:A9)(ts:List Nat)(hts:ts.length<1000)(h17:∀t∈ts,t∈ATM)(p:AWH x ts):
  Is (wpe Tryz.prog (real Tryz.prog) (AP Z0 Zp [] [] [] []) 300 (.code false (AJ Tryz.prog 53 4) (CX 100 108 [1,2,3,4,5] [] (IOn x ts p))) (A7 100 [1,2,3,4,5] [2,3] 108 []
   (fun AB AC=>∃a':AWH x ts,ts.length-a'.i<ts.length-p.i/\Wk 100 (100+3) AB AC (IOn x ts a').1 (IOn x ts a').2/\∀e v o,ROn x ts e v o->ROn x ts e v o)
   (fun e AB AC=>∃v o,Wk 100 (100+3) AB AC v o/\ROn x ts e v o))):=by
 refine⟨?_⟩
 obtain⟨m,i,le,eq⟩:=p
 show AXM (real Tryz.prog) x m (rowsOf cU8 ts) (i:Int) _ _
 rw[AWK]
 refine BI ts.length (AQ _ _) (EL (fun hlt=>?_) (fun hge=>?_))
 ·have ha:ts[i]?=some ts[i]:=List.getElem?_eq_getElem hlt
  have hm:=List.getElem_mem hlt
  generalize ts[i]=t at ha hm
  have hms:ts.length-(i+1)<ts.length-i:=by omega
  refine DK i rfl (CL ha) rfl (CG (z:=(t:Int)) rfl (AXK ?_ ATL (AX9 (h17 t hm))))
  exact BZ (by omega) ⟨rfl,⟨TW m x t,i+1,hlt,by rw[List.take_add_one,ha,eq];exact(AWo _ _ _).symm⟩,hms,Wk.refl _ _ _ _,fun _ _ _ h=>h⟩
 ·have e:i=ts.length:=by omega
  rw[e,List.take_length]at eq
  subst eq
  exact⟨rfl,_,_,EX (DT.refl _) (.cons (.none _) (F5.refl _)),rfl,rfl,rfl⟩
def AXE(x:A9):LOn:=fun c n AB obs A=>∃ts:List Nat,ts.length<1000/\(∀t∈ts,t∈ATM)/\c=AJ Tryz.prog 53 4/\n=108/\AB=[pA 100,pA 101,pA 102,dsl (rowsOf cU8 ts),.int .i64 (0:Int)]/\obs=[some (cM x),rZ,rZk (x.a0:Int) (x.a1:Int)]/\A (onF x ts)
theorem AXD(kd xid:Nat):iV (rZk (kd:Int) (xid:Int)) (some (cM (LC kd xid))) := .cells (by repeat first|exact .nil|refine .cons (.refl _) ?_|refine .cons .nilD ?_)
theorem AYa(x:A9):BH Tryz.prog 100 [1,2,3,4,5] (AXd (AXE x)):=by
 show BH Tryz.prog 100 [1,2,3,4,5] (lpS [2,3] _)
 refine FQ okp (W:=AP Z0 Zp [] [] [] []) DC AZ ?_
 rintro c n AB obs K ⟨ts,hts,h17,hc,hn,hv,ho,hA⟩
 subst hc;subst hn;subst hv;subst ho
 refine⟨AWH x ts,3,300,fun a=>ts.length-a.i,IOn x ts,fun _ e v o=>ROn x ts e v o,⟨LC x.a0 x.a1,0,Nat.zero_le _,rfl⟩,rfl,EX (DT.refl _) (.cons (.refl _) (.cons (.refl _) (.cons (AXD _ _) .nil))),?_,AX3 x ts hts h17⟩
 rintro e v o ⟨rfl,rfl,rfl⟩
 exact hA
def ATK(x:A9):A9:=onF x (YL x.a0 17)
theorem AW9{t:Nat}(h1:1<=t)(h2:t<=17):t∈ATM:=by
 have h:∀t:Fin 18,1<=t.val->t.val∈ATM:=by decide
 exact h ⟨t,by omega⟩ h1
theorem onC{x:A9}(hx:x.a0<256):Is (gOn (real Tryz.prog) AQ8 (AXE x) x (fun v=>v=F8 (ATK x))):=by
 refine⟨?_⟩
 rw[AXk]
 exact⟨x.a0,rfl,hx,YL x.a0 17,Nat.lt_of_le_of_lt (AHj _ _) (by decide),fun t ht=>let h:=(ALC _ _ _).1 ht;AW9 h.1 h.2.1,rfl,rfl,rfl,rfl,rfl⟩
theorem AXU{x:A9}(hx:x.a0<256)(B:Base)(H:Heap):BM Tryz.prog 100 B 53 [F8 x] H (.returned (F8 (ATK x))) H:=
 kQ okp (EY (pu1 AXw)) (lp1 (AYa x)) rfl (onC hx) B H
def ATH(L:LLt):LpS:=lpS [1,4,5] fun c n AB obs K=>match AB with
 |bx::l::_=>L c n AB obs (fun k ob=>K (.exit 0) [bx,l,mkS (100+obs.length) k] (obs++[ob]))
 |_=>False
def ATX(M:Mr)(MB:MBt)(f:Nat):PuL:=[(f,sB MB),(219,AU5 M),(223,AU6 M),(26,AVK M)]
def AUR(N:Nd)(M:Mr)(MB:MBt)(MS:MSt)(L:LLt)(id size lo lw lu so sw:Int)(arms:Lv)(ot:Int)(K:RK):Prop:=wpe Tryz.prog N (AP sy1 Sp0 [(122,ND MS)] [(14,(71,([1,4,5,6],ATH L)))] (ATX M MB 55) []) 300 (.call 123 [.agg ⟨[.int .i64 id,.int .i64 size,.int .i64 lo,.int .i64 lw,.int .i64 lu,.int .i64 so,.int .i64 sw,dsl arms,.int .i64 ot]⟩] h0) (FD 100 K)
def AUi(N:Nd)(M:Mr)(MF:PSt)(id size lo lw lu so sw:Int)(arms:Lv)(ot:Int)(rs:Lv)(k:Nat)(ob:Option AA)(i:Int)(back:Bk)(out:Ot):Prop:=
 wpe Tryz.prog N (AP sy1 Sp0 [] [] [(220,sF MF)] []) 300 (.code false (AJ Tryz.prog 123 14) (CX 100 71 [1,4,5,6] [] ([pX,dsl rs,mkS 101 k,.int .i64 i],[some (.cells [.int .i64 id,.int .i64 size,.int .i64 lo,.int .i64 lw,.int .i64 lu,.int .i64 so,.int .i64 sw,dsl arms,.int .i64 ot] 32 9 false true),ob]))) (A7 100 [1,4,5,6] [1,4,5] 71 [] back out)
theorem AUZ(N:Nd)(M:Mr)(MB:MBt)(MS:MSt)(L:LLt)(id size lo lw lu so sw:Int)(arms:Lv)(ot:Int)(K:RK):AUR N M MB MS L id size lo lw lu so sw arms ot K=(MB (.agg (Array.mk [.int .i64 id,.int .i64 size,.int .i64 lo,.int .i64 lw,.int .i64 lu,.int .i64 so,.int .i64 sw,dsl arms,.int .i64 ot])) (fun b0=>branch b0
 (N.conv 3 28 .i64 id .u64 (fun z1=>M.nu [] 1 z1 (fun l2=>N.conv 3 28 .i64 size .u64 (fun z3=>M.nu l2 2 z3 (fun l4=>N.conv 3 28 .i64 lo .u64 (fun z5=>M.nu l4 3 z5 (fun l6=>N.conv 3 28 .i64 lw .u64 (fun z7=>M.nu l6 4 z7 (fun l8=>N.conv 3 28 .i64 lu .u64 (fun z9=>M.nu l8 5 z9 (fun l10=>N.conv 3 28 .i64 so .u64 (fun z11=>M.nu l10 6 z11 (fun l12=>N.conv 3 28 .i64 sw .u64 (fun z13=>M.nu l12 7 z13 (fun l14=>N.conv 3 28 .i64 ot .u64 (fun z15=>M.nu l14 8 z15 (fun l16=>L (AJ Tryz.prog 123 14) 71 [pA 100,dsl l16,.slice none 0 0,.int .i64 0] [qq3 id size lo lw lu so sw arms ot] (fun o17 l18=>(o17=o17)/\(MS o17 l18 (fun s19 z20=>M.tx l16 9 s19 (fun l21=>M.en l21 (fun s22 z23=>K (.tuple (Array.mk [.string s22,.int .i64 0])) [qq3 id size lo lw lu so sw arms ot,l18]))))))))))))))))))))))
 (K (.tuple (Array.mk [.string (bytesOf []),.int .i64 3])) [qq3 id size lo lw lu so sw arms ot]))):=by kernel_rfl
theorem AUJ(N:Nd)(M:Mr)(MF:PSt)(id size lo lw lu so sw:Int)(arms:Lv)(ot:Int)(rs:Lv)(k:Nat)(ob:Option AA)(i:Int)(back:Bk)(out:Ot):AUi N M MF id size lo lw lu so sw arms ot rs k ob i back out=(N.dlen arms (fun o0=>N.cmp .lss .i64 i .i64 (Int.ofNat o0) (N.dget arms i 2 (fun l1=>N.rdI .u32 l1 0 (fun z2=>N.rdI .i64 l1 1 (fun z3=>MF (.agg (Array.mk [.int .u32 z2,.int .i64 z3])) (fun s4=>N.base true k k ob 9 1 (fun l5=>N.appX k l5 1 [.string s4] 1 16 (fun l6 o7=>N.ari .add .i64 i .i64 1 (fun z8=>nD/\(back [pA 100,dsl rs,(.slice (some ⟨103,0,none⟩) o7 o7),.int .i64 z8] [qq3 id size lo lw lu so sw arms ot,none,TK s4,(some (AA.cells l6 9 1 true true))]))))))))) (nD/\(out (Exit.exit 0) [pA 100,dsl rs,(.iface 1000000021 (.slice (some ⟨101,0,none⟩) k k))] [qq3 id size lo lw lu so sw arms ot,ob])))):=by kernel_rfl
def AUd(N:Nd)(M:Mr)(MB:MBt)(id base node off wid:Int)(K:RK):Prop:=wpe Tryz.prog N (AP S0 Sp0 [] [] (ATX M MB 56) []) 300 (.call 124 [.agg ⟨[.int .i64 id,.int .u8 base,.int .i64 node,.int .i64 off,.int .i64 wid]⟩] h0) (FD 100 K)
theorem AUF(N:Nd)(M:Mr)(MB:MBt)(id base node off wid:Int)(K:RK):AUd N M MB id base node off wid K=(MB (.agg (Array.mk [.int .i64 id,.int .u8 base,.int .i64 node,.int .i64 off,.int .i64 wid])) (fun b0=>branch b0
 (N.conv 3 28 .i64 id .u64 (fun z1=>M.nu [] 1 z1 (fun l2=>N.conv 5 28 .u8 base .u64 (fun z3=>M.nu l2 2 z3 (fun l4=>N.conv 3 28 .i64 node .u64 (fun z5=>M.nu l4 3 z5 (fun l6=>N.conv 3 28 .i64 off .u64 (fun z7=>M.nu l6 4 z7 (fun l8=>N.conv 3 28 .i64 wid .u64 (fun z9=>M.nu l8 5 z9 (fun l10=>M.en l10 (fun s11 z12=>K (.tuple (Array.mk [.string s11,.int .i64 0])) [WY id base node off wid]))))))))))))
 (K (.tuple (Array.mk [.string (bytesOf []),.int .i64 3])) [WY id base node off wid]))):=by kernel_rfl
def AUj(N:Nd)(M:Mr)(MB:MBt)(MS:MSt)(L:LLt)(id kind:Int)(keys:Lv)(cap miss:Int)(K:RK):Prop:=wpe Tryz.prog N (AP sy1 Sp0 [(122,ND MS)] [(8,(52,([1,4,5,6],ATH L)))] (ATX M MB 57) []) 300 (.call 125 [.agg ⟨[.int .i64 id,.int .u8 kind,dsl keys,.int .i64 cap,.int .i64 miss]⟩] h0) (FD 100 K)
def ATU(N:Nd)(M:Mr)(MF:PSt)(id kind:Int)(keys:Lv)(cap miss:Int)(rs:Lv)(k:Nat)(ob:Option AA)(i:Int)(back:Bk)(out:Ot):Prop:=
 wpe Tryz.prog N (AP sy1 Sp0 [] [] [(121,AU4 M)] []) 300 (.code false (AJ Tryz.prog 125 8) (CX 100 52 [1,4,5,6] [] ([pX,dsl rs,mkS 101 k,.int .i64 i],[some (.cells [.int .i64 id,.int .u8 kind,dsl keys,.int .i64 cap,.int .i64 miss] 37 5 false true),ob]))) (A7 100 [1,4,5,6] [1,4,5] 52 [] back out)
theorem AUK(N:Nd)(M:Mr)(MB:MBt)(MS:MSt)(L:LLt)(id kind:Int)(keys:Lv)(cap miss:Int)(K:RK):AUj N M MB MS L id kind keys cap miss K=(MB (.agg (Array.mk [.int .i64 id,.int .u8 kind,dsl keys,.int .i64 cap,.int .i64 miss])) (fun b0=>branch b0
 (N.conv 3 28 .i64 id .u64 (fun z1=>M.nu [] 1 z1 (fun l2=>N.conv 5 28 .u8 kind .u64 (fun z3=>M.nu l2 2 z3 (fun l4=>L (AJ Tryz.prog 125 8) 52 [pA 100,dsl l4,.slice none 0 0,.int .i64 0] [qq4 id kind keys cap miss] (fun o5 l6=>(o5=o5)/\(MS o5 l6 (fun s7 z8=>M.tx l4 3 s7 (fun l9=>N.conv 3 28 .i64 cap .u64 (fun z10=>M.nu l9 4 z10 (fun l11=>N.conv 3 28 .i64 miss .u64 (fun z12=>M.nu l11 5 z12 (fun l13=>M.en l13 (fun s14 z15=>K (.tuple (Array.mk [.string s14,.int .i64 0])) [qq4 id kind keys cap miss,l6]))))))))))))))
 (K (.tuple (Array.mk [.string (bytesOf []),.int .i64 3])) [qq4 id kind keys cap miss]))):=by kernel_rfl
theorem AUk(N:Nd)(M:Mr)(MF:PSt)(id kind:Int)(keys:Lv)(cap miss:Int)(rs:Lv)(k:Nat)(ob:Option AA)(i:Int)(back:Bk)(out:Ot):ATU N M MF id kind keys cap miss rs k ob i back out=(N.dlen keys (fun o0=>N.cmp .lss .i64 i .i64 (Int.ofNat o0) (N.dget keys i 1 (fun l1=>N.rdI .i64 l1 0 (fun z2=>N.conv 3 28 .i64 z2 .u64 (fun z3=>M.nb z3 (fun s4=>N.base true k k ob 9 1 (fun l5=>N.appX k l5 1 [.string s4] 1 16 (fun l6 o7=>N.ari .add .i64 i .i64 1 (fun z8=>nD/\(back [pA 100,dsl rs,(.slice (some ⟨103,0,none⟩) o7 o7),.int .i64 z8] [qq4 id kind keys cap miss,none,TK s4,(some (AA.cells l6 9 1 true true))]))))))))) (nD/\(out (Exit.exit 0) [pA 100,dsl rs,(.iface 1000000021 (.slice (some ⟨101,0,none⟩) k k))] [qq4 id kind keys cap miss,ob])))):=by kernel_rfl
def AUb(N:Nd)(M:Mr)(MB:MBt)(MS:MSt)(L:LLt)(tab:Int)(key oth:ByteArray)(len prio blk:Int)(args:Lv)(idle hard cook:Int)(tell:Bool)(K:RK):Prop:=wpe Tryz.prog N (AP sy1 Sp0 [(122,ND MS)] [(12,(77,([1,4,5,6],ATH L)))] (ATX M MB 58) []) 300 (.call 126 [.agg ⟨[.int .i64 tab,.string key,.string oth,.int .i64 len,.int .i64 prio,.int .i64 blk,dsl args,.int .i64 idle,.int .i64 hard,.int .u64 cook,.bool tell]⟩] h0) (FD 100 K)
def ATS(N:Nd)(M:Mr)(MF:PSt)(tab:Int)(key oth:ByteArray)(len prio blk:Int)(args:Lv)(idle hard cook:Int)(tell:Bool)(rs:Lv)(k:Nat)(ob:Option AA)(i:Int)(back:Bk)(out:Ot):Prop:=
 wpe Tryz.prog N (AP sy1 Sp0 [] [] [(121,AU4 M)] []) 300 (.code false (AJ Tryz.prog 126 12) (CX 100 77 [1,4,5,6] [] ([pX,dsl rs,mkS 101 k,.int .i64 i],[some (.cells [.int .i64 tab,.string key,.string oth,.int .i64 len,.int .i64 prio,.int .i64 blk,dsl args,.int .i64 idle,.int .i64 hard,.int .u64 cook,.bool tell] 39 11 false true),ob]))) (A7 100 [1,4,5,6] [1,4,5] 77 [] back out)
theorem AUE(N:Nd)(M:Mr)(MB:MBt)(MS:MSt)(L:LLt)(tab:Int)(key oth:ByteArray)(len prio blk:Int)(args:Lv)(idle hard cook:Int)(tell:Bool)(K:RK):AUb N M MB MS L tab key oth len prio blk args idle hard cook tell K=(MB (.agg (Array.mk [.int .i64 tab,.string key,.string oth,.int .i64 len,.int .i64 prio,.int .i64 blk,dsl args,.int .i64 idle,.int .i64 hard,.int .u64 cook,.bool tell])) (fun b0=>branch b0
 (N.conv 3 28 .i64 tab .u64 (fun z1=>M.nu [] 1 z1 (fun l2=>M.tx l2 2 key (fun l3=>M.tx l3 3 oth (fun l4=>N.conv 3 28 .i64 len .u64 (fun z5=>M.nu l4 4 z5 (fun l6=>N.conv 3 28 .i64 prio .u64 (fun z7=>M.nu l6 5 z7 (fun l8=>N.conv 3 28 .i64 blk .u64 (fun z9=>M.nu l8 6 z9 (fun l10=>L (AJ Tryz.prog 126 12) 77 [pA 100,dsl l10,.slice none 0 0,.int .i64 0] [qq0 tab key oth len prio blk args idle hard cook tell] (fun o11 l12=>(o11=o11)/\(MS o11 l12 (fun s13 z14=>M.tx l10 7 s13 (fun l15=>N.conv 2 28 .i64 idle .u64 (fun z16=>M.nu l15 8 z16 (fun l17=>N.conv 2 28 .i64 hard .u64 (fun z18=>M.nu l17 9 z18 (fun l19=>M.nu l19 10 cook (fun l20=>branch tell
 (M.nu l20 11 1 (fun l21=>M.en l21 (fun s22 z23=>K (.tuple (Array.mk [.string s22,.int .i64 0])) [qq0 tab key oth len prio blk args idle hard cook tell,l12])))
 (M.en l20 (fun s21 z22=>K (.tuple (Array.mk [.string s21,.int .i64 0])) [qq0 tab key oth len prio blk args idle hard cook tell,l12]))))))))))))))))))))))
 (K (.tuple (Array.mk [.string (bytesOf []),.int .i64 3])) [qq0 tab key oth len prio blk args idle hard cook tell]))):=by kernel_rfl
theorem AUc(N:Nd)(M:Mr)(MF:PSt)(tab:Int)(key oth:ByteArray)(len prio blk:Int)(args:Lv)(idle hard cook:Int)(tell:Bool)(rs:Lv)(k:Nat)(ob:Option AA)(i:Int)(back:Bk)(out:Ot):ATS N M MF tab key oth len prio blk args idle hard cook tell rs k ob i back out=(N.dlen args (fun o0=>N.cmp .lss .i64 i .i64 (Int.ofNat o0) (N.dget args i 1 (fun l1=>N.rdI .u64 l1 0 (fun z2=>M.nb z2 (fun s3=>N.base true k k ob 9 1 (fun l4=>N.appX k l4 1 [.string s3] 1 16 (fun l5 o6=>N.ari .add .i64 i .i64 1 (fun z7=>nD/\(back [pA 100,dsl rs,(.slice (some ⟨103,0,none⟩) o6 o6),.int .i64 z7] [qq0 tab key oth len prio blk args idle hard cook tell,none,TK s3,(some (AA.cells l5 9 1 true true))])))))))) (nD/\(out (Exit.exit 0) [pA 100,dsl rs,(.iface 1000000021 (.slice (some ⟨101,0,none⟩) k k))] [qq0 tab key oth len prio blk args idle hard cook tell,ob])))):=by kernel_rfl
def AT8(N:Nd)(M:Mr)(MB:MBt)(MS:MSt)(L:LLt)(id:Int)(code:Lv)(K:RK):Prop:=wpe Tryz.prog N (AP sy1 Sp0 [(122,ND MS)] [(7,(36,([1,4,5,6],ATH L)))] (ATX M MB 59) []) 300 (.call 127 [.agg ⟨[.int .i64 id,dsl code]⟩] h0) (FD 100 K)
def ATQ(N:Nd)(M:Mr)(MF:PSt)(id:Int)(code rs:Lv)(k:Nat)(ob:Option AA)(i:Int)(back:Bk)(out:Ot):Prop:=
 wpe Tryz.prog N (AP sy1 Sp0 [] [] [(224,sF MF)] []) 300 (.code false (AJ Tryz.prog 127 7) (CX 100 36 [1,4,5,6] [] ([pX,dsl rs,mkS 101 k,.int .i64 i],[some (.cells [.int .i64 id,dsl code] 42 2 false true),ob]))) (A7 100 [1,4,5,6] [1,4,5] 36 [] back out)
theorem AUD(N:Nd)(M:Mr)(MB:MBt)(MS:MSt)(L:LLt)(id:Int)(code:Lv)(K:RK):AT8 N M MB MS L id code K=(MB (.agg (Array.mk [.int .i64 id,dsl code])) (fun b0=>branch b0
 (N.conv 3 28 .i64 id .u64 (fun z1=>M.nu [] 1 z1 (fun l2=>L (AJ Tryz.prog 127 7) 36 [pA 100,dsl l2,.slice none 0 0,.int .i64 0] [qq8 id code] (fun o3 l4=>(o3=o3)/\(MS o3 l4 (fun s5 z6=>M.tx l2 2 s5 (fun l7=>M.en l7 (fun s8 z9=>K (.tuple (Array.mk [.string s8,.int .i64 0])) [qq8 id code,l4]))))))))
 (K (.tuple (Array.mk [.string (bytesOf []),.int .i64 3])) [qq8 id code]))):=by kernel_rfl
theorem AT9(N:Nd)(M:Mr)(MF:PSt)(id:Int)(code rs:Lv)(k:Nat)(ob:Option AA)(i:Int)(back:Bk)(out:Ot):ATQ N M MF id code rs k ob i back out=(N.dlen code (fun o0=>N.cmp .lss .i64 i .i64 (Int.ofNat o0) (N.dget code i 7 (fun l1=>N.rdI .u8 l1 0 (fun z2=>N.rdI .i64 l1 1 (fun z3=>N.rdI .u8 l1 2 (fun z4=>N.rdI .u64 l1 3 (fun z5=>N.rdI .u8 l1 4 (fun z6=>N.rdI .u64 l1 5 (fun z7=>N.rdI .i64 l1 6 (fun z8=>MF (.agg (Array.mk [.int .u8 z2,.int .i64 z3,.int .u8 z4,.int .u64 z5,.int .u8 z6,.int .u64 z7,.int .i64 z8])) (fun s9=>N.base true k k ob 9 1 (fun l10=>N.appX k l10 1 [.string s9] 1 16 (fun l11 o12=>N.ari .add .i64 i .i64 1 (fun z13=>nD/\(back [pA 100,dsl rs,(.slice (some ⟨103,0,none⟩) o12 o12),.int .i64 z13] [qq8 id code,none,TK s9,(some (AA.cells l11 9 1 true true))])))))))))))))) (nD/\(out (Exit.exit 0) [pA 100,dsl rs,(.iface 1000000021 (.slice (some ⟨101,0,none⟩) k k))] [qq8 id code,ob])))):=by kernel_rfl
def AUe(N:Nd)(M:Mr)(MB:MBt)(MS:MSt)(L:LLt)(id kind fld:Int)(bks:Lv)(K:RK):Prop:=wpe Tryz.prog N (AP sy1 Sp0 [(122,ND MS)] [(9,(46,([1,4,5,6],ATH L)))] (ATX M MB 60) []) 300 (.call 128 [.agg ⟨[.int .i64 id,.int .u8 kind,.int .i64 fld,dsl bks]⟩] h0) (FD 100 K)
def ATT(N:Nd)(M:Mr)(MF:PSt)(id kind fld:Int)(bks rs:Lv)(k:Nat)(ob:Option AA)(i:Int)(back:Bk)(out:Ot):Prop:=
 wpe Tryz.prog N (AP sy1 Sp0 [] [] [(225,sF MF)] []) 300 (.code false (AJ Tryz.prog 128 9) (CX 100 46 [1,4,5,6] [] ([pX,dsl rs,mkS 101 k,.int .i64 i],[some (.cells [.int .i64 id,.int .u8 kind,.int .i64 fld,dsl bks] 45 4 false true),ob]))) (A7 100 [1,4,5,6] [1,4,5] 46 [] back out)
theorem AUG(N:Nd)(M:Mr)(MB:MBt)(MS:MSt)(L:LLt)(id kind fld:Int)(bks:Lv)(K:RK):AUe N M MB MS L id kind fld bks K=(MB (.agg (Array.mk [.int .i64 id,.int .u8 kind,.int .i64 fld,dsl bks])) (fun b0=>branch b0
 (N.conv 3 28 .i64 id .u64 (fun z1=>M.nu [] 1 z1 (fun l2=>N.conv 5 28 .u8 kind .u64 (fun z3=>M.nu l2 2 z3 (fun l4=>N.conv 3 28 .i64 fld .u64 (fun z5=>M.nu l4 3 z5 (fun l6=>L (AJ Tryz.prog 128 9) 46 [pA 100,dsl l6,.slice none 0 0,.int .i64 0] [qq5 id kind fld bks] (fun o7 l8=>(o7=o7)/\(MS o7 l8 (fun s9 z10=>M.tx l6 4 s9 (fun l11=>M.en l11 (fun s12 z13=>K (.tuple (Array.mk [.string s12,.int .i64 0])) [qq5 id kind fld bks,l8]))))))))))))
 (K (.tuple (Array.mk [.string (bytesOf []),.int .i64 3])) [qq5 id kind fld bks]))):=by kernel_rfl
theorem AUf(N:Nd)(M:Mr)(MF:PSt)(id kind fld:Int)(bks rs:Lv)(k:Nat)(ob:Option AA)(i:Int)(back:Bk)(out:Ot):ATT N M MF id kind fld bks rs k ob i back out=(N.dlen bks (fun o0=>N.cmp .lss .i64 i .i64 (Int.ofNat o0) (N.dget bks i 2 (fun l1=>N.rdI .u64 l1 0 (fun z2=>N.rdI .i64 l1 1 (fun z3=>MF (.agg (Array.mk [.int .u64 z2,.int .i64 z3])) (fun s4=>N.base true k k ob 9 1 (fun l5=>N.appX k l5 1 [.string s4] 1 16 (fun l6 o7=>N.ari .add .i64 i .i64 1 (fun z8=>nD/\(back [pA 100,dsl rs,(.slice (some ⟨103,0,none⟩) o7 o7),.int .i64 z8] [qq5 id kind fld bks,none,TK s4,(some (AA.cells l6 9 1 true true))]))))))))) (nD/\(out (Exit.exit 0) [pA 100,dsl rs,(.iface 1000000021 (.slice (some ⟨101,0,none⟩) k k))] [qq5 id kind fld bks,ob])))):=by kernel_rfl
def AUh(N:Nd)(M:Mr)(MB:MBt)(id rate burst:Int)(K:RK):Prop:=wpe Tryz.prog N (AP S0 Sp0 [] [] (ATX M MB 61) []) 300 (.call 129 [.agg ⟨[.int .i64 id,.int .i64 rate,.int .i64 burst]⟩] h0) (FD 100 K)
theorem AUI(N:Nd)(M:Mr)(MB:MBt)(id rate burst:Int)(K:RK):AUh N M MB id rate burst K=(MB (.agg (Array.mk [.int .i64 id,.int .i64 rate,.int .i64 burst])) (fun b0=>branch b0
 (N.conv 3 28 .i64 id .u64 (fun z1=>M.nu [] 1 z1 (fun l2=>N.conv 2 28 .i64 rate .u64 (fun z3=>M.nu l2 2 z3 (fun l4=>N.conv 2 28 .i64 burst .u64 (fun z5=>M.nu l4 3 z5 (fun l6=>M.en l6 (fun s7 z8=>K (.tuple (Array.mk [.string s7,.int .i64 0])) [TJ id rate burst]))))))))
 (K (.tuple (Array.mk [.string (bytesOf []),.int .i64 3])) [TJ id rate burst]))):=by kernel_rfl
def AUS(N:Nd)(M:Mr)(MB:MBt)(id size:Int)(K:RK):Prop:=wpe Tryz.prog N (AP S0 Sp0 [] [] (ATX M MB 62) []) 300 (.call 130 [.agg ⟨[.int .i64 id,.int .i64 size]⟩] h0) (FD 100 K)
theorem AU0(N:Nd)(M:Mr)(MB:MBt)(id size:Int)(K:RK):AUS N M MB id size K=(MB (.agg (Array.mk [.int .i64 id,.int .i64 size])) (fun b0=>branch b0
 (N.conv 3 28 .i64 id .u64 (fun z1=>M.nu [] 1 z1 (fun l2=>N.conv 3 28 .i64 size .u64 (fun z3=>M.nu l2 2 z3 (fun l4=>M.en l4 (fun s5 z6=>K (.tuple (Array.mk [.string s5,.int .i64 0])) [WZ id size]))))))
 (K (.tuple (Array.mk [.string (bytesOf []),.int .i64 3])) [WZ id size]))):=by kernel_rfl
end
end Go.Proofs.Ob
