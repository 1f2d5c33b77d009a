/- . -/
import Derived.Test.YtblbaohcelldpaaGreatDoorQ4
set_option linter.all false
set_option maxRecDepth 100000
namespace Go.Proofs.Ob
open Go Go.Abs Go.Tlv
noncomputable section
abbrev LQt:=Code->Nat->Lv->Lo->Prop->Prop->Prop
def AN3(L:LQt):LpS:=lpS [4] fun c n AB obs K=>L c n AB obs (K (.exit 0) [top] []) (K .ret [.bool false] [])
def IQ{α:Type}(c:α->Lv)(l m:List α)(i:StQ l m):Lv×Lo:=([dsl (rowsOf c l),dsl (rowsOf c m),.int .i64 (l.length:Int),.int .i64 (i.1:Int)],[])
def RQ{α:Type}(l m:List α)(e:Exit)(v:Lv)(o:Lo):Prop:=(l=m/\e = .exit 0/\v=[top]/\o=[])∨(l≠m/\e = .ret/\v=[.bool false]/\o=[])
def LQr{α:Type}(f:Nat)(c:α->Lv)(l m:List α):LQt:=fun code n AB obs A E=>code=AJ Tryz.prog f 4/\n=26/\AB=[dsl (rowsOf c l),dsl (rowsOf c m),.int .i64 (l.length:Int),.int .i64 0]/\obs=[]/\(l=m->A)/\(l≠m->E)
theorem lpQ{α:Type}{f:Nat}{c:α->Lv}{l m:List α}(h:∀i:StQ l m,Is (wpe Tryz.prog (real Tryz.prog) (AP Z0 Zp [] [] [] []) 300 (.code false (AJ Tryz.prog f 4) (CX 100 26 [0,1,12,13] [] (IQ c l m i))) (A7 100 [0,1,12,13] [4] 26 []
   (fun AB AC=>∃a':StQ l m,l.length-a'.1<l.length-i.1/\Wk 100 (100+0) AB AC (IQ c l m a').1 (IQ c l m a').2/\∀e v o,RQ l m e v o->RQ l m e v o)
   (fun e AB AC=>∃v o,Wk 100 (100+0) AB AC v o/\RQ l m e v o)))):BH Tryz.prog 100 [0,1,12,13] (AN3 (LQr f c l m)):=by
 show BH Tryz.prog 100 [0,1,12,13] (lpS [4] _)
 refine FQ okp (W:=AP Z0 Zp [] [] [] []) DC AZ ?_
 rintro cc n AB obs K ⟨hc,hn,hv,ho,hA,hE⟩
 subst hc;subst hn;subst hv;subst ho
 refine⟨StQ l m,0,300,fun a=>l.length-a.1,IQ c l m,fun _ e v o=>RQ l m e v o,⟨0,⟨Nat.zero_le _,rfl⟩⟩,rfl,Wk.refl _ _ _ _,?_,h⟩
 intro e v o hR
 rcases hR with⟨h1,rfl,rfl,rfl⟩ | ⟨h1,rfl,rfl,rfl⟩
 ·exact hA h1
 ·exact hE h1
abbrev MEq:=Lv->Lv->Prop->Prop->Prop
def sEq(M:MEq):Lv->(Value->Prop)->Prop
 | [.iface t (.agg ⟨a⟩),.iface t' (.agg ⟨b⟩)],K=>match Nat.beq t mkD&&Nat.beq t' mkD with
  |true=>M a b (K (.bool true)) (K (.bool false))
  |false=>False
 |_,_=>False
def ATJ{α:Type}(c:α->Lv):MEq:=fun a b A E=>∃l m:List α,a=rowsOf c l/\b=rowsOf c m/\l.length<1000000000/\(l=m->A)/\(l≠m->E)
theorem AF4{α:Type}{c:α->Lv}{f:FuncId}(h:∀l m:List α,l.length<1000000000->∃b:Bool,(b=true↔l=m)/\∀B H,BM Tryz.prog 100 B f [dsl (rowsOf c l),dsl (rowsOf c m)] H (.returned (.bool b)) H):FY Tryz.prog 100 f (sEq (ATJ c)):=by
 intro args K hs
 unfold sEq at hs
 split at hs<;>try exact hs.elim
 rename_i t a t' b
 split at hs<;>try exact hs.elim
 rename_i ht
 simp only[Bool.and_eq_true]at ht
 obtain rfl:=Nat.eq_of_beq_eq_true ht.1
 obtain rfl:=Nat.eq_of_beq_eq_true ht.2
 obtain⟨l,m,rfl,rfl,hl,hA,hE⟩:=hs
 obtain⟨q,h1,h2⟩:=h l m hl
 refine⟨.bool q,h2,?_⟩
 cases q with
 |true=>exact hA (h1.1 rfl)
 |false=>exact hE (fun h=>by have:=h1.2 h;cases this)
def AOR(N:Nd)(L:LQt)(r r2:Lv)(K:Value->Prop):Prop:=wpe Tryz.prog N (AP Z0 Zp [] [(4,(26,([0,1,12,13],AN3 L)))] [] []) 300 (.call 63 [(dsl r),(dsl r2)] h0) (J6 K)
theorem ANT(N:Nd)(L:LQt)(r r2:Lv)(K:Value->Prop):AOR N L r r2 K=N.dlen r fun n=>N.dlen r2 fun m=>N.cmp .neq .i64 n .i64 m (K (.bool false)) (N.dlen r fun n=>L (AJ Tryz.prog 63 4) 26 [dsl r,dsl r2,.int .i64 n,.int .i64 0] [] (K (.bool true)) (K (.bool false))):=by kernel_rfl
def ANA(N:Nd)(r r2:Lv)(n i:Int)(back:Bk)(out:Ot):Prop:=
 wpe Tryz.prog N (AP Z0 Zp [] [] [] []) 300 (.code false (AJ Tryz.prog 63 4) (CX 100 26 [0,1,12,13] [] ([dsl r,dsl r2,.int .i64 n,.int .i64 i],[]))) (A7 100 [0,1,12,13] [4] 26 [] back out)
theorem AMa(N:Nd)(r r2:Lv)(n i:Int)(back:Bk)(out:Ot):ANA N r r2 n i back out=N.cmp .lss .i64 i .i64 n (N.dget r i 1 fun ca=>N.rdI .u64 ca 0 fun za0=>N.dget r2 i 1 fun cb=>N.rdI .u64 cb 0 fun zb0=>N.cmp .neq .u64 za0 .u64 zb0 (nD/\out .ret [.bool false] []) (N.ari .add .i64 i .i64 1 fun j=>nD/\back [dsl r,dsl r2,.int .i64 n,.int .i64 j] [])) (nD/\out (.exit 0) [top] []):=by kernel_rfl
theorem AQU(l m:List Nat)(hl:l.length<1000000000)(hm:l.length=m.length)(i:StQ l m):Is (wpe Tryz.prog (real Tryz.prog) (AP Z0 Zp [] [] [] []) 300 (.code false (AJ Tryz.prog 63 4) (CX 100 26 [0,1,12,13] [] (IQ DJ l m i))) (A7 100 [0,1,12,13] [4] 26 []
   (fun AB AC=>∃a':StQ l m,l.length-a'.1<l.length-i.1/\Wk 100 (100+0) AB AC (IQ DJ l m a').1 (IQ DJ l m a').2/\∀e v o,RQ l m e v o->RQ l m e v o)
   (fun e AB AC=>∃v o,Wk 100 (100+0) AB AC v o/\RQ l m e v o))):=by
 refine⟨?_⟩
 obtain⟨i,inv⟩:=i
 have hi:=inv.le
 show ANA (real Tryz.prog) (rowsOf DJ l) (rowsOf DJ m) (l.length:Int) (i:Int) _ _
 rw[AMa]
 refine EL (fun hlt=>?_) (fun hge=>?_)
 ·have ha:l[i]?=some l[i]:=List.getElem?_eq_getElem hlt
  have hlt2:i<m.length:=by omega
  have hb2:m[i]?=some m[i]:=List.getElem?_eq_getElem hlt2
  generalize l[i]=a at ha
  generalize m[i]=b at hb2
  have hms:l.length-(i+1)<l.length-i:=by omega
  refine DK i rfl (CL ha) rfl (CG rfl (DK i rfl (CL hb2) rfl (CG rfl (MP (fun h=>?_) (fun h=>?_)))))
  ·have hne:a≠b:=h
   exact⟨rfl,_,_,Wk.refl _ _ _ _,.inr ⟨fun e=>hne (by rw[e,hb2]at ha;simpa using ha.symm),rfl,rfl,rfl⟩⟩
  ·have he:a=b:=h
   subst he
   exact BZ (by omega) ⟨rfl,⟨i+1,⟨hlt,M4 inv.eq ha hb2⟩⟩,hms,Wk.refl _ _ _ _,fun _ _ _ h=>h⟩
 ·have e:i=l.length:=by omega
  have h:=inv.eq
  rw[e,List.take_length,hm,List.take_length]at h
  exact⟨rfl,[top],[],Wk.refl _ _ _ _,.inl ⟨h,rfl,rfl,rfl⟩⟩
theorem ARD(l m:List Nat):Is (AOR (real Tryz.prog) (LQr 63 DJ l m) (rowsOf DJ l) (rowsOf DJ m) (fun v=>∃b:Bool,v = .bool b/\(b=true↔l=m))):=by
 refine⟨?_⟩
 rw[ANT]
 exact BI l.length (AQ _ _) (BI m.length (AQ _ _) (MP (fun h=>⟨false,rfl,CS (fun z:List Nat=>z.length) h⟩) (fun _=>BI l.length (AQ _ _) ⟨rfl,rfl,rfl,rfl,fun h=>⟨true,rfl,fun _=>h,fun _=>rfl⟩,fun h=>⟨false,rfl,CS id h⟩⟩)))
def AON(N:Nd)(r r2:Lv)(X:Prop)(K:Value->Prop):Prop:=wpe Tryz.prog N (AP Z0 Zp [] [(4,(26,([0,1,12,13],fun _ _ _ _ _ _=>False)))] [] []) 300 (.call 63 [(dsl r),(dsl r2)] h0) (J6 K)
theorem ANP(N:Nd)(r r2:Lv)(X:Prop)(K:Value->Prop):AON N r r2 X K=N.dlen r fun n=>N.dlen r2 fun m=>N.cmp .neq .i64 n .i64 m (K (.bool false)) (N.dlen r fun _=>False):=by kernel_rfl
theorem ARG(l m:List Nat)(hm:¬l.length=m.length):Is (AON (real Tryz.prog) (rowsOf DJ l) (rowsOf DJ m) True (fun v=>∃b:Bool,v = .bool b/\(b=true↔l=m))):=by
 refine⟨?_⟩
 rw[ANP]
 exact BI l.length (AQ _ _) (BI m.length (AQ _ _) (MP (fun h=>⟨false,rfl,CS (fun z:List Nat=>z.length) h⟩) (fun h=>absurd h hm)))
theorem ART{sy:Sy}{kn:KnL}{pu:PuL}:SN Tryz.prog 100 (AP sy Zp kn [(4,(26,([0,1,12,13],fun _ _ _ _ _ _=>False)))] pu []):=GH (fun x hx=>by simp only[List.mem_singleton]at hx;subst hx;exact fun c n AB ds h Q hF=>hF.elim)
theorem ARF(l m:List Nat)(hl:l.length<1000000000):∃b:Bool,(b=true↔l=m)/\∀B H,BM Tryz.prog 100 B 63 [dsl (rowsOf DJ l),dsl (rowsOf DJ m)] H (.returned (.bool b)) H:=by
 by_cases hm:l.length=m.length
 ·exact IZ DC (GH (fun z hz=>by simp only[List.mem_singleton]at hz;subst hz;exact lpQ (AQU l m hl hm))) rfl (ARD l m)
 ·exact IZ DC ART rfl (ARG l m hm)
theorem ANH:FY Tryz.prog 100 63 (sEq (ATJ DJ)):=AF4 ARF
def AOP(N:Nd)(L:LQt)(r r2:Lv)(K:Value->Prop):Prop:=wpe Tryz.prog N (AP Z0 Zp [] [(4,(26,([0,1,12,13],AN3 L)))] [] []) 300 (.call 131 [(dsl r),(dsl r2)] h0) (J6 K)
theorem ANQ(N:Nd)(L:LQt)(r r2:Lv)(K:Value->Prop):AOP N L r r2 K=N.dlen r fun n=>N.dlen r2 fun m=>N.cmp .neq .i64 n .i64 m (K (.bool false)) (N.dlen r fun n=>L (AJ Tryz.prog 131 4) 26 [dsl r,dsl r2,.int .i64 n,.int .i64 0] [] (K (.bool true)) (K (.bool false))):=by kernel_rfl
def ANy(N:Nd)(r r2:Lv)(n i:Int)(back:Bk)(out:Ot):Prop:=
 wpe Tryz.prog N (AP Z0 Zp [] [] [] []) 300 (.code false (AJ Tryz.prog 131 4) (CX 100 26 [0,1,12,13] [] ([dsl r,dsl r2,.int .i64 n,.int .i64 i],[]))) (A7 100 [0,1,12,13] [4] 26 [] back out)
theorem AL8(N:Nd)(r r2:Lv)(n i:Int)(back:Bk)(out:Ot):ANy N r r2 n i back out=N.cmp .lss .i64 i .i64 n (N.dget r i 2 fun ca=>N.rdI .u32 ca 0 fun za0=>N.rdI .i64 ca 1 fun za1=>N.dget r2 i 2 fun cb=>N.rdI .u32 cb 0 fun zb0=>N.rdI .i64 cb 1 fun zb1=>N.agEq .neq 61 [.int .u32 za0,.int .i64 za1] [.int .u32 zb0,.int .i64 zb1] (nD/\out .ret [.bool false] []) (N.ari .add .i64 i .i64 1 fun j=>nD/\back [dsl r,dsl r2,.int .i64 n,.int .i64 j] [])) (nD/\out (.exit 0) [top] []):=by kernel_rfl
theorem AQS(l m:List Arm)(hl:l.length<1000000000)(hm:l.length=m.length)(i:StQ l m):Is (wpe Tryz.prog (real Tryz.prog) (AP Z0 Zp [] [] [] []) 300 (.code false (AJ Tryz.prog 131 4) (CX 100 26 [0,1,12,13] [] (IQ D7 l m i))) (A7 100 [0,1,12,13] [4] 26 []
   (fun AB AC=>∃a':StQ l m,l.length-a'.1<l.length-i.1/\Wk 100 (100+0) AB AC (IQ D7 l m a').1 (IQ D7 l m a').2/\∀e v o,RQ l m e v o->RQ l m e v o)
   (fun e AB AC=>∃v o,Wk 100 (100+0) AB AC v o/\RQ l m e v o))):=by
 refine⟨?_⟩
 obtain⟨i,inv⟩:=i
 have hi:=inv.le
 show ANy (real Tryz.prog) (rowsOf D7 l) (rowsOf D7 m) (l.length:Int) (i:Int) _ _
 rw[AL8]
 refine EL (fun hlt=>?_) (fun hge=>?_)
 ·have ha:l[i]?=some l[i]:=List.getElem?_eq_getElem hlt
  have hlt2:i<m.length:=by omega
  have hb2:m[i]?=some m[i]:=List.getElem?_eq_getElem hlt2
  generalize l[i]=a at ha
  generalize m[i]=b at hb2
  have hms:l.length-(i+1)<l.length-i:=by omega
  refine DK i rfl (CL ha) rfl (CG rfl (CG rfl (DK i rfl (CL hb2) rfl (CG rfl (CG rfl (eF (ps:=[((a.v:Int),(b.v:Int)),(a.nx,b.nx)]) (by kernel_rfl) (by kernel_rfl) rfl rfl (fun h=>?_) (fun h=>?_)))))))
  ·have hne:a≠b:=(fun e=>by rw[(AGs a b).2 e]at h;cases h)
   exact⟨rfl,_,_,Wk.refl _ _ _ _,.inr ⟨fun e=>hne (by rw[e,hb2]at ha;simpa using ha.symm),rfl,rfl,rfl⟩⟩
  ·have he:a=b:=(AGs a b).1 h
   subst he
   exact BZ (by omega) ⟨rfl,⟨i+1,⟨hlt,M4 inv.eq ha hb2⟩⟩,hms,Wk.refl _ _ _ _,fun _ _ _ h=>h⟩
 ·have e:i=l.length:=by omega
  have h:=inv.eq
  rw[e,List.take_length,hm,List.take_length]at h
  exact⟨rfl,[top],[],Wk.refl _ _ _ _,.inl ⟨h,rfl,rfl,rfl⟩⟩
theorem ARx(l m:List Arm):Is (AOP (real Tryz.prog) (LQr 131 D7 l m) (rowsOf D7 l) (rowsOf D7 m) (fun v=>∃b:Bool,v = .bool b/\(b=true↔l=m))):=by
 refine⟨?_⟩
 rw[ANQ]
 exact BI l.length (AQ _ _) (BI m.length (AQ _ _) (MP (fun h=>⟨false,rfl,CS (fun z:List Arm=>z.length) h⟩) (fun _=>BI l.length (AQ _ _) ⟨rfl,rfl,rfl,rfl,fun h=>⟨true,rfl,fun _=>h,fun _=>rfl⟩,fun h=>⟨false,rfl,CS id h⟩⟩)))
def AOL(N:Nd)(r r2:Lv)(X:Prop)(K:Value->Prop):Prop:=wpe Tryz.prog N (AP Z0 Zp [] [(4,(26,([0,1,12,13],fun _ _ _ _ _ _=>False)))] [] []) 300 (.call 131 [(dsl r),(dsl r2)] h0) (J6 K)
theorem ANN(N:Nd)(r r2:Lv)(X:Prop)(K:Value->Prop):AOL N r r2 X K=N.dlen r fun n=>N.dlen r2 fun m=>N.cmp .neq .i64 n .i64 m (K (.bool false)) (N.dlen r fun _=>False):=by kernel_rfl
theorem ARz(l m:List Arm)(hm:¬l.length=m.length):Is (AOL (real Tryz.prog) (rowsOf D7 l) (rowsOf D7 m) True (fun v=>∃b:Bool,v = .bool b/\(b=true↔l=m))):=by
 refine⟨?_⟩
 rw[ANN]
 exact BI l.length (AQ _ _) (BI m.length (AQ _ _) (MP (fun h=>⟨false,rfl,CS (fun z:List Arm=>z.length) h⟩) (fun h=>absurd h hm)))
theorem ARR{sy:Sy}{kn:KnL}{pu:PuL}:SN Tryz.prog 100 (AP sy Zp kn [(4,(26,([0,1,12,13],fun _ _ _ _ _ _=>False)))] pu []):=GH (fun x hx=>by simp only[List.mem_singleton]at hx;subst hx;exact fun c n AB ds h Q hF=>hF.elim)
theorem ARy(l m:List Arm)(hl:l.length<1000000000):∃b:Bool,(b=true↔l=m)/\∀B H,BM Tryz.prog 100 B 131 [dsl (rowsOf D7 l),dsl (rowsOf D7 m)] H (.returned (.bool b)) H:=by
 by_cases hm:l.length=m.length
 ·exact IZ DC (GH (fun z hz=>by simp only[List.mem_singleton]at hz;subst hz;exact lpQ (AQS l m hl hm))) rfl (ARx l m)
 ·exact IZ DC ARR rfl (ARz l m hm)
theorem AQQ:FY Tryz.prog 100 131 (sEq (ATJ D7)):=AF4 ARy
def AOQ(N:Nd)(L:LQt)(r r2:Lv)(K:Value->Prop):Prop:=wpe Tryz.prog N (AP Z0 Zp [] [(4,(26,([0,1,12,13],AN3 L)))] [] []) 300 (.call 132 [(dsl r),(dsl r2)] h0) (J6 K)
theorem ANR(N:Nd)(L:LQt)(r r2:Lv)(K:Value->Prop):AOQ N L r r2 K=N.dlen r fun n=>N.dlen r2 fun m=>N.cmp .neq .i64 n .i64 m (K (.bool false)) (N.dlen r fun n=>L (AJ Tryz.prog 132 4) 26 [dsl r,dsl r2,.int .i64 n,.int .i64 0] [] (K (.bool true)) (K (.bool false))):=by kernel_rfl
def ANz(N:Nd)(r r2:Lv)(n i:Int)(back:Bk)(out:Ot):Prop:=
 wpe Tryz.prog N (AP Z0 Zp [] [] [] []) 300 (.code false (AJ Tryz.prog 132 4) (CX 100 26 [0,1,12,13] [] ([dsl r,dsl r2,.int .i64 n,.int .i64 i],[]))) (A7 100 [0,1,12,13] [4] 26 [] back out)
theorem AL9(N:Nd)(r r2:Lv)(n i:Int)(back:Bk)(out:Ot):ANz N r r2 n i back out=N.cmp .lss .i64 i .i64 n (N.dget r i 1 fun ca=>N.rdI .i64 ca 0 fun za0=>N.dget r2 i 1 fun cb=>N.rdI .i64 cb 0 fun zb0=>N.cmp .neq .i64 za0 .i64 zb0 (nD/\out .ret [.bool false] []) (N.ari .add .i64 i .i64 1 fun j=>nD/\back [dsl r,dsl r2,.int .i64 n,.int .i64 j] [])) (nD/\out (.exit 0) [top] []):=by kernel_rfl
theorem AQT(l m:List Int)(hl:l.length<1000000000)(hm:l.length=m.length)(i:StQ l m):Is (wpe Tryz.prog (real Tryz.prog) (AP Z0 Zp [] [] [] []) 300 (.code false (AJ Tryz.prog 132 4) (CX 100 26 [0,1,12,13] [] (IQ EM l m i))) (A7 100 [0,1,12,13] [4] 26 []
   (fun AB AC=>∃a':StQ l m,l.length-a'.1<l.length-i.1/\Wk 100 (100+0) AB AC (IQ EM l m a').1 (IQ EM l m a').2/\∀e v o,RQ l m e v o->RQ l m e v o)
   (fun e AB AC=>∃v o,Wk 100 (100+0) AB AC v o/\RQ l m e v o))):=by
 refine⟨?_⟩
 obtain⟨i,inv⟩:=i
 have hi:=inv.le
 show ANz (real Tryz.prog) (rowsOf EM l) (rowsOf EM m) (l.length:Int) (i:Int) _ _
 rw[AL9]
 refine EL (fun hlt=>?_) (fun hge=>?_)
 ·have ha:l[i]?=some l[i]:=List.getElem?_eq_getElem hlt
  have hlt2:i<m.length:=by omega
  have hb2:m[i]?=some m[i]:=List.getElem?_eq_getElem hlt2
  generalize l[i]=a at ha
  generalize m[i]=b at hb2
  have hms:l.length-(i+1)<l.length-i:=by omega
  refine DK i rfl (CL ha) rfl (CG rfl (DK i rfl (CL hb2) rfl (CG rfl (YO (fun h=>?_) (fun h=>?_)))))
  ·have hne:a≠b:=h
   exact⟨rfl,_,_,Wk.refl _ _ _ _,.inr ⟨fun e=>hne (by rw[e,hb2]at ha;simpa using ha.symm),rfl,rfl,rfl⟩⟩
  ·have he:a=b:=h
   subst he
   exact BZ (by omega) ⟨rfl,⟨i+1,⟨hlt,M4 inv.eq ha hb2⟩⟩,hms,Wk.refl _ _ _ _,fun _ _ _ h=>h⟩
 ·have e:i=l.length:=by omega
  have h:=inv.eq
  rw[e,List.take_length,hm,List.take_length]at h
  exact⟨rfl,[top],[],Wk.refl _ _ _ _,.inl ⟨h,rfl,rfl,rfl⟩⟩
theorem ARA(l m:List Int):Is (AOQ (real Tryz.prog) (LQr 132 EM l m) (rowsOf EM l) (rowsOf EM m) (fun v=>∃b:Bool,v = .bool b/\(b=true↔l=m))):=by
 refine⟨?_⟩
 rw[ANR]
 exact BI l.length (AQ _ _) (BI m.length (AQ _ _) (MP (fun h=>⟨false,rfl,CS (fun z:List Int=>z.length) h⟩) (fun _=>BI l.length (AQ _ _) ⟨rfl,rfl,rfl,rfl,fun h=>⟨true,rfl,fun _=>h,fun _=>rfl⟩,fun h=>⟨false,rfl,CS id h⟩⟩)))
def AOM(N:Nd)(r r2:Lv)(X:Prop)(K:Value->Prop):Prop:=wpe Tryz.prog N (AP Z0 Zp [] [(4,(26,([0,1,12,13],fun _ _ _ _ _ _=>False)))] [] []) 300 (.call 132 [(dsl r),(dsl r2)] h0) (J6 K)
theorem ANO(N:Nd)(r r2:Lv)(X:Prop)(K:Value->Prop):AOM N r r2 X K=N.dlen r fun n=>N.dlen r2 fun m=>N.cmp .neq .i64 n .i64 m (K (.bool false)) (N.dlen r fun _=>False):=by kernel_rfl
theorem ARC(l m:List Int)(hm:¬l.length=m.length):Is (AOM (real Tryz.prog) (rowsOf EM l) (rowsOf EM m) True (fun v=>∃b:Bool,v = .bool b/\(b=true↔l=m))):=by
 refine⟨?_⟩
 rw[ANO]
 exact BI l.length (AQ _ _) (BI m.length (AQ _ _) (MP (fun h=>⟨false,rfl,CS (fun z:List Int=>z.length) h⟩) (fun h=>absurd h hm)))
theorem ARS{sy:Sy}{kn:KnL}{pu:PuL}:SN Tryz.prog 100 (AP sy Zp kn [(4,(26,([0,1,12,13],fun _ _ _ _ _ _=>False)))] pu []):=GH (fun x hx=>by simp only[List.mem_singleton]at hx;subst hx;exact fun c n AB ds h Q hF=>hF.elim)
theorem ARB(l m:List Int)(hl:l.length<1000000000):∃b:Bool,(b=true↔l=m)/\∀B H,BM Tryz.prog 100 B 132 [dsl (rowsOf EM l),dsl (rowsOf EM m)] H (.returned (.bool b)) H:=by
 by_cases hm:l.length=m.length
 ·exact IZ DC (GH (fun z hz=>by simp only[List.mem_singleton]at hz;subst hz;exact lpQ (AQT l m hl hm))) rfl (ARA l m)
 ·exact IZ DC ARS rfl (ARC l m hm)
theorem AQR:FY Tryz.prog 100 132 (sEq (ATJ EM)):=AF4 ARB
def ALi(N:Nd)(L:LQt)(r r2:Lv)(K:Value->Prop):Prop:=wpe Tryz.prog N (AP Z0 Zp [] [(4,(26,([0,1,12,13],AN3 L)))] [] []) 300 (.call 133 [(dsl r),(dsl r2)] h0) (J6 K)
theorem ALj(N:Nd)(L:LQt)(r r2:Lv)(K:Value->Prop):ALi N L r r2 K=N.dlen r fun n=>N.dlen r2 fun m=>N.cmp .neq .i64 n .i64 m (K (.bool false)) (N.dlen r fun n=>L (AJ Tryz.prog 133 4) 26 [dsl r,dsl r2,.int .i64 n,.int .i64 0] [] (K (.bool true)) (K (.bool false))):=by kernel_rfl
def AJn(N:Nd)(r r2:Lv)(n i:Int)(back:Bk)(out:Ot):Prop:=
 wpe Tryz.prog N (AP Z0 Zp [] [] [] []) 300 (.code false (AJ Tryz.prog 133 4) (CX 100 26 [0,1,12,13] [] ([dsl r,dsl r2,.int .i64 n,.int .i64 i],[]))) (A7 100 [0,1,12,13] [4] 26 [] back out)
theorem AJU(N:Nd)(r r2:Lv)(n i:Int)(back:Bk)(out:Ot):AJn N r r2 n i back out=N.cmp .lss .i64 i .i64 n (N.dget r i 7 fun ca=>N.rdI .u8 ca 0 fun za0=>N.rdI .i64 ca 1 fun za1=>N.rdI .u8 ca 2 fun za2=>N.rdI .u64 ca 3 fun za3=>N.rdI .u8 ca 4 fun za4=>N.rdI .u64 ca 5 fun za5=>N.rdI .i64 ca 6 fun za6=>N.dget r2 i 7 fun cb=>N.rdI .u8 cb 0 fun zb0=>N.rdI .i64 cb 1 fun zb1=>N.rdI .u8 cb 2 fun zb2=>N.rdI .u64 cb 3 fun zb3=>N.rdI .u8 cb 4 fun zb4=>N.rdI .u64 cb 5 fun zb5=>N.rdI .i64 cb 6 fun zb6=>N.agEq .neq 66 [.int .u8 za0,.int .i64 za1,.int .u8 za2,.int .u64 za3,.int .u8 za4,.int .u64 za5,.int .i64 za6] [.int .u8 zb0,.int .i64 zb1,.int .u8 zb2,.int .u64 zb3,.int .u8 zb4,.int .u64 zb5,.int .i64 zb6] (nD/\out .ret [.bool false] []) (N.ari .add .i64 i .i64 1 fun j=>nD/\back [dsl r,dsl r2,.int .i64 n,.int .i64 j] [])) (nD/\out (.exit 0) [top] []):=by kernel_rfl
theorem AN2(l m:List Instr)(hl:l.length<1000000000)(hm:l.length=m.length)(i:StQ l m):Is (wpe Tryz.prog (real Tryz.prog) (AP Z0 Zp [] [] [] []) 300 (.code false (AJ Tryz.prog 133 4) (CX 100 26 [0,1,12,13] [] (IQ BN l m i))) (A7 100 [0,1,12,13] [4] 26 []
   (fun AB AC=>∃a':StQ l m,l.length-a'.1<l.length-i.1/\Wk 100 (100+0) AB AC (IQ BN l m a').1 (IQ BN l m a').2/\∀e v o,RQ l m e v o->RQ l m e v o)
   (fun e AB AC=>∃v o,Wk 100 (100+0) AB AC v o/\RQ l m e v o))):=by
 refine⟨?_⟩
 obtain⟨i,inv⟩:=i
 have hi:=inv.le
 show AJn (real Tryz.prog) (rowsOf BN l) (rowsOf BN m) (l.length:Int) (i:Int) _ _
 rw[AJU]
 refine EL (fun hlt=>?_) (fun hge=>?_)
 ·have ha:l[i]?=some l[i]:=List.getElem?_eq_getElem hlt
  have hlt2:i<m.length:=by omega
  have hb2:m[i]?=some m[i]:=List.getElem?_eq_getElem hlt2
  generalize l[i]=a at ha
  generalize m[i]=b at hb2
  have hms:l.length-(i+1)<l.length-i:=by omega
  refine DK i rfl (CL ha) rfl (CG rfl (CG rfl (CG rfl (CG rfl (CG rfl (CG rfl (CG rfl (DK i rfl (CL hb2) rfl (CG rfl (CG rfl (CG rfl (CG rfl (CG rfl (CG rfl (CG rfl (eF (ps:=[((a.op:Int),(b.op:Int)),(a.to,b.to),((a.ak:Int),(b.ak:Int)),((a.an:Int),(b.an:Int)),((a.bk:Int),(b.bk:Int)),((a.bn:Int),(b.bn:Int)),(a.n,b.n)]) (by kernel_rfl) (by kernel_rfl) rfl rfl (fun h=>?_) (fun h=>?_)))))))))))))))))
  ·have hne:a≠b:=(fun e=>by rw[(sD a b).2 e]at h;cases h)
   exact⟨rfl,_,_,Wk.refl _ _ _ _,.inr ⟨fun e=>hne (by rw[e,hb2]at ha;simpa using ha.symm),rfl,rfl,rfl⟩⟩
  ·have he:a=b:=(sD a b).1 h
   subst he
   exact BZ (by omega) ⟨rfl,⟨i+1,⟨hlt,M4 inv.eq ha hb2⟩⟩,hms,Wk.refl _ _ _ _,fun _ _ _ h=>h⟩
 ·have e:i=l.length:=by omega
  have h:=inv.eq
  rw[e,List.take_length,hm,List.take_length]at h
  exact⟨rfl,[top],[],Wk.refl _ _ _ _,.inl ⟨h,rfl,rfl,rfl⟩⟩
theorem AOD(l m:List Instr):Is (ALi (real Tryz.prog) (LQr 133 BN l m) (rowsOf BN l) (rowsOf BN m) (fun v=>∃b:Bool,v = .bool b/\(b=true↔l=m))):=by
 refine⟨?_⟩
 rw[ALj]
 exact BI l.length (AQ _ _) (BI m.length (AQ _ _) (MP (fun h=>⟨false,rfl,CS (fun z:List Instr=>z.length) h⟩) (fun _=>BI l.length (AQ _ _) ⟨rfl,rfl,rfl,rfl,fun h=>⟨true,rfl,fun _=>h,fun _=>rfl⟩,fun h=>⟨false,rfl,CS id h⟩⟩)))
def ALf(N:Nd)(r r2:Lv)(X:Prop)(K:Value->Prop):Prop:=wpe Tryz.prog N (AP Z0 Zp [] [(4,(26,([0,1,12,13],fun _ _ _ _ _ _=>False)))] [] []) 300 (.call 133 [(dsl r),(dsl r2)] h0) (J6 K)
theorem ALg(N:Nd)(r r2:Lv)(X:Prop)(K:Value->Prop):ALf N r r2 X K=N.dlen r fun n=>N.dlen r2 fun m=>N.cmp .neq .i64 n .i64 m (K (.bool false)) (N.dlen r fun _=>False):=by kernel_rfl
theorem AOF(l m:List Instr)(hm:¬l.length=m.length):Is (ALf (real Tryz.prog) (rowsOf BN l) (rowsOf BN m) True (fun v=>∃b:Bool,v = .bool b/\(b=true↔l=m))):=by
 refine⟨?_⟩
 rw[ALg]
 exact BI l.length (AQ _ _) (BI m.length (AQ _ _) (MP (fun h=>⟨false,rfl,CS (fun z:List Instr=>z.length) h⟩) (fun h=>absurd h hm)))
theorem APo{sy:Sy}{kn:KnL}{pu:PuL}:SN Tryz.prog 100 (AP sy Zp kn [(4,(26,([0,1,12,13],fun _ _ _ _ _ _=>False)))] pu []):=GH (fun x hx=>by simp only[List.mem_singleton]at hx;subst hx;exact fun c n AB ds h Q hF=>hF.elim)
theorem AOE(l m:List Instr)(hl:l.length<1000000000):∃b:Bool,(b=true↔l=m)/\∀B H,BM Tryz.prog 100 B 133 [dsl (rowsOf BN l),dsl (rowsOf BN m)] H (.returned (.bool b)) H:=by
 by_cases hm:l.length=m.length
 ·exact IZ DC (GH (fun z hz=>by simp only[List.mem_singleton]at hz;subst hz;exact lpQ (AN2 l m hl hm))) rfl (AOD l m)
 ·exact IZ DC APo rfl (AOF l m hm)
theorem ANZ:FY Tryz.prog 100 133 (sEq (ATJ BN)):=AF4 AOE
def AJm(N:Nd)(L:LQt)(r r2:Lv)(K:Value->Prop):Prop:=wpe Tryz.prog N (AP Z0 Zp [] [(4,(26,([0,1,12,13],AN3 L)))] [] []) 300 (.call 134 [(dsl r),(dsl r2)] h0) (J6 K)
theorem AJT(N:Nd)(L:LQt)(r r2:Lv)(K:Value->Prop):AJm N L r r2 K=N.dlen r fun n=>N.dlen r2 fun m=>N.cmp .neq .i64 n .i64 m (K (.bool false)) (N.dlen r fun n=>L (AJ Tryz.prog 134 4) 26 [dsl r,dsl r2,.int .i64 n,.int .i64 0] [] (K (.bool true)) (K (.bool false))):=by kernel_rfl
def AGR(N:Nd)(r r2:Lv)(n i:Int)(back:Bk)(out:Ot):Prop:=
 wpe Tryz.prog N (AP Z0 Zp [] [] [] []) 300 (.code false (AJ Tryz.prog 134 4) (CX 100 26 [0,1,12,13] [] ([dsl r,dsl r2,.int .i64 n,.int .i64 i],[]))) (A7 100 [0,1,12,13] [4] 26 [] back out)
theorem AJk(N:Nd)(r r2:Lv)(n i:Int)(back:Bk)(out:Ot):AGR N r r2 n i back out=N.cmp .lss .i64 i .i64 n (N.dget r i 2 fun ca=>N.rdI .u64 ca 0 fun za0=>N.rdI .i64 ca 1 fun za1=>N.dget r2 i 2 fun cb=>N.rdI .u64 cb 0 fun zb0=>N.rdI .i64 cb 1 fun zb1=>N.agEq .neq 181 [.int .u64 za0,.int .i64 za1] [.int .u64 zb0,.int .i64 zb1] (nD/\out .ret [.bool false] []) (N.ari .add .i64 i .i64 1 fun j=>nD/\back [dsl r,dsl r2,.int .i64 n,.int .i64 j] [])) (nD/\out (.exit 0) [top] []):=by kernel_rfl
theorem AM8(l m:List DN)(hl:l.length<1000000000)(hm:l.length=m.length)(i:StQ l m):Is (wpe Tryz.prog (real Tryz.prog) (AP Z0 Zp [] [] [] []) 300 (.code false (AJ Tryz.prog 134 4) (CX 100 26 [0,1,12,13] [] (IQ BB l m i))) (A7 100 [0,1,12,13] [4] 26 []
   (fun AB AC=>∃a':StQ l m,l.length-a'.1<l.length-i.1/\Wk 100 (100+0) AB AC (IQ BB l m a').1 (IQ BB l m a').2/\∀e v o,RQ l m e v o->RQ l m e v o)
   (fun e AB AC=>∃v o,Wk 100 (100+0) AB AC v o/\RQ l m e v o))):=by
 refine⟨?_⟩
 obtain⟨i,inv⟩:=i
 have hi:=inv.le
 show AGR (real Tryz.prog) (rowsOf BB l) (rowsOf BB m) (l.length:Int) (i:Int) _ _
 rw[AJk]
 refine EL (fun hlt=>?_) (fun hge=>?_)
 ·have ha:l[i]?=some l[i]:=List.getElem?_eq_getElem hlt
  have hlt2:i<m.length:=by omega
  have hb2:m[i]?=some m[i]:=List.getElem?_eq_getElem hlt2
  generalize l[i]=a at ha
  generalize m[i]=b at hb2
  have hms:l.length-(i+1)<l.length-i:=by omega
  refine DK i rfl (CL ha) rfl (CG rfl (CG rfl (DK i rfl (CL hb2) rfl (CG rfl (CG rfl (eF (ps:=[((a.w:Int),(b.w:Int)),(a.b,b.b)]) (by kernel_rfl) (by kernel_rfl) rfl rfl (fun h=>?_) (fun h=>?_)))))))
  ·have hne:a≠b:=(fun e=>by rw[(jD a b).2 e]at h;cases h)
   exact⟨rfl,_,_,Wk.refl _ _ _ _,.inr ⟨fun e=>hne (by rw[e,hb2]at ha;simpa using ha.symm),rfl,rfl,rfl⟩⟩
  ·have he:a=b:=(jD a b).1 h
   subst he
   exact BZ (by omega) ⟨rfl,⟨i+1,⟨hlt,M4 inv.eq ha hb2⟩⟩,hms,Wk.refl _ _ _ _,fun _ _ _ h=>h⟩
 ·have e:i=l.length:=by omega
  have h:=inv.eq
  rw[e,List.take_length,hm,List.take_length]at h
  exact⟨rfl,[top],[],Wk.refl _ _ _ _,.inl ⟨h,rfl,rfl,rfl⟩⟩
theorem ANK(l m:List DN):Is (AJm (real Tryz.prog) (LQr 134 BB l m) (rowsOf BB l) (rowsOf BB m) (fun v=>∃b:Bool,v = .bool b/\(b=true↔l=m))):=by
 refine⟨?_⟩
 rw[AJT]
 exact BI l.length (AQ _ _) (BI m.length (AQ _ _) (MP (fun h=>⟨false,rfl,CS (fun z:List DN=>z.length) h⟩) (fun _=>BI l.length (AQ _ _) ⟨rfl,rfl,rfl,rfl,fun h=>⟨true,rfl,fun _=>h,fun _=>rfl⟩,fun h=>⟨false,rfl,CS id h⟩⟩)))
def AJl(N:Nd)(r r2:Lv)(X:Prop)(K:Value->Prop):Prop:=wpe Tryz.prog N (AP Z0 Zp [] [(4,(26,([0,1,12,13],fun _ _ _ _ _ _=>False)))] [] []) 300 (.call 134 [(dsl r),(dsl r2)] h0) (J6 K)
theorem AJR(N:Nd)(r r2:Lv)(X:Prop)(K:Value->Prop):AJl N r r2 X K=N.dlen r fun n=>N.dlen r2 fun m=>N.cmp .neq .i64 n .i64 m (K (.bool false)) (N.dlen r fun _=>False):=by kernel_rfl
theorem ANM(l m:List DN)(hm:¬l.length=m.length):Is (AJl (real Tryz.prog) (rowsOf BB l) (rowsOf BB m) True (fun v=>∃b:Bool,v = .bool b/\(b=true↔l=m))):=by
 refine⟨?_⟩
 rw[AJR]
 exact BI l.length (AQ _ _) (BI m.length (AQ _ _) (MP (fun h=>⟨false,rfl,CS (fun z:List DN=>z.length) h⟩) (fun h=>absurd h hm)))
theorem ANX{sy:Sy}{kn:KnL}{pu:PuL}:SN Tryz.prog 100 (AP sy Zp kn [(4,(26,([0,1,12,13],fun _ _ _ _ _ _=>False)))] pu []):=GH (fun x hx=>by simp only[List.mem_singleton]at hx;subst hx;exact fun c n AB ds h Q hF=>hF.elim)
theorem ANL(l m:List DN)(hl:l.length<1000000000):∃b:Bool,(b=true↔l=m)/\∀B H,BM Tryz.prog 100 B 134 [dsl (rowsOf BB l),dsl (rowsOf BB m)] H (.returned (.bool b)) H:=by
 by_cases hm:l.length=m.length
 ·exact IZ DC (GH (fun z hz=>by simp only[List.mem_singleton]at hz;subst hz;exact lpQ (AM8 l m hl hm))) rfl (ANK l m)
 ·exact IZ DC ANX rfl (ANM l m hm)
theorem AMP:FY Tryz.prog 100 134 (sEq (ATJ BB)):=AF4 ANL
end
end Go.Proofs.Ob
