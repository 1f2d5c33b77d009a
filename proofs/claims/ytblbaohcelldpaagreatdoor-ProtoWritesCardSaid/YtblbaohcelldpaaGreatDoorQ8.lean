/- . -/
import Derived.Test.YtblbaohcelldpaaGreatDoorQ4
import Derived.Test.YtblbaohcelldpaaGreatDoorQ6
set_option linter.all false
set_option maxRecDepth 100000
namespace Go.Proofs.Ob
open Go Go.Abs Go.Tlv
noncomputable section
abbrev MAs:=Value->(Lv->Prop)->Prop->Prop
def sAs(M:MAs):Lv->(Value->Prop)->Prop
 | [a],K=>M a (fun rs=>K (.tuple ⟨[dsl rs,.bool true]⟩)) (K noV)
 |_,_=>False
abbrev MEn:=Lv->(ByteArray->Int->Prop)->Prop
def ANf(M:MEn):Lv->(Value->Prop)->Prop
 | [.iface t (.agg ⟨rs⟩)],K=>match Nat.beq t mkD with
  |true=>M rs fun s e=>K (.tuple ⟨[.string s,.int .i64 e]⟩)
  |false=>False
 |_,_=>False
def ASO(N:Nd)(M:MAs)(x:A9)(K:Value->Prop):Prop:=wpe Tryz.prog N (AP Z0 Zp [] [] [(35,sAs M)] []) 300 (.call 18 [F8 x] h0) (J6 K)
theorem AQv(N:Nd)(M:MAs)(x:A9)(K:Value->Prop):ASO N M x K=M (F8 x) (fun _=>K (.bool true)) (K (.bool false)):=by kernel_rfl
def ABd(s:ByteArray)(e:Int):Value := .tuple ⟨[.string s,.int .i64 e]⟩
def AOO(N:Nd)(M:MAs)(ME:MEn)(x:A9)(K:Value->Prop):Prop:=wpe Tryz.prog N (AP Z0 Zp [] [] [(35,sAs M),(36,ANf ME)] []) 300 (.call 16 [F8 x] h0) (J6 K)
theorem AJS(N:Nd)(M:MAs)(ME:MEn)(x:A9)(K:Value->Prop):AOO N M ME x K=M (F8 x) (fun rs=>ME rs fun s e=>N.cmp .neq .i64 e .i64 0 (K (ABd (bytesOf []) 5)) (N.slen s fun n=>N.ari .add .i64 5 .i64 n fun z=>N.cmp .gtr .i64 z .i64 16384 (K (ABd (bytesOf []) 5))
 (N.ari .shr .u32 (x.a1:Int) .u64 24 fun z1=>N.conv 27 5 .u32 z1 .u8 fun b1=>N.ari .shr .u32 (x.a1:Int) .u64 16 fun z2=>N.conv 27 5 .u32 z2 .u8 fun b2=>N.ari .shr .u32 (x.a1:Int) .u64 8 fun z3=>N.conv 27 5 .u32 z3 .u8 fun b3=>N.conv 27 5 .u32 (x.a1:Int) .u8 fun b4=>N.str [(x.a0:Int),b1,b2,b3,b4] fun h=>N.cat h s fun r=>K (ABd r 0)))) (K (ABd (bytesOf []) 3)):=by kernel_rfl
def ANJ:MAs:=fun a A E=>∃x:A9,a=F8 x/\okP x/\(QF x=true->A ((JV x).map AAs))/\(QF x=false->E)
theorem AQP:FY Tryz.prog 100 35 (sAs ANJ):=by
 intro args K h
 unfold sAs at h
 split at h<;>try exact h.elim
 obtain⟨x,rfl,hx,hA,hE⟩:=h
 refine⟨_,ARb hx,?_⟩
 unfold sK
 cases hm:QF x with
 |true=>rw[if_pos rfl];exact hA hm
 |false=>rw[if_neg (by simp)];exact hE hm
def AOc:MEn:=fun rs K=>∃l:List At,rs=l.map AAs/\(∀a∈l,a.t<256)/\K (bytesOf (encS l)) (JB 0 l:Int)
theorem ASs:FY Tryz.prog 100 36 (ANf AOc):=by
 intro args K h
 unfold ANf at h
 split at h<;>try exact h.elim
 rename_i t rs
 split at h<;>try exact h.elim
 rename_i ht
 obtain rfl:=Nat.eq_of_beq_eq_true ht
 obtain⟨l,rfl,hl,hK⟩:=h
 exact⟨_,tN l hl,hK⟩
theorem ATm{x:A9}(hx:okP x):Is (ASO (real Tryz.prog) ANJ x (fun v=>v = .bool (QF x))):=by
 refine⟨?_⟩
 rw[AQv]
 exact⟨x,rfl,hx,fun h=>by rw[h],fun h=>by rw[h]⟩
theorem ATn{x:A9}(hx:okP x)(B:Base)(H:Heap):BM Tryz.prog 100 B 18 [F8 x] H (.returned (.bool (QF x))) H:=
 kQ okp (EY (pu1 AQP)) AZ rfl (ATm hx) B H
theorem ABY{m t:Nat}{K:Int->Prop}(hk:K ((m / 2 ^ (min t 32):Nat):Int)):(real Tryz.prog).ari .shr .u32 (m:Int) .u64 (t:Int) K:=by
 refine⟨((m / 2 ^ (min t 32):Nat):Int),?_,hk⟩
 have e:((m:Int)).fdiv (2 ^ (min (t:Int).toNat IntKind.u32.bits))=((m / 2 ^ (min t 32):Nat):Int):=by
  rw[Int.toNat_natCast,Int.fdiv_eq_ediv_of_nonneg _ (Int.pow_nonneg (by omega))]
  show(m:Int) / 2 ^ (min t 32)=_
  rw[Int.natCast_ediv,Int.natCast_pow];rfl
 have h0:(0:Int)<=(t:Int):=by omega
 simp only[H8,e,decide_eq_true h0]
theorem t27:Tryz.prog.underlying 27=some (.int .u32):=by kernel_rfl
theorem ACS(x:A9):∀a∈JV x,a.t<256:=fun a ha=>by have:=aG 17 0 a ha;omega
theorem ARv{x:A9}(hx:okP x):Is (AOO (real Tryz.prog) ANJ AOc x (fun v=>v=ABd (bytesOf (J7 x)) (P9 x))):=by
 refine⟨?_⟩
 rw[AJS]
 refine⟨x,rfl,hx,fun hm=>⟨JV x,rfl,ACS x,MP (d:=0) (fun h=>?_) (fun h=>FC (YN (by omega) ?_ (dB (fun h2=>?_) (fun h2=>?_))))⟩,fun hm=>?_⟩
 ·have e:P9 x=5:=by unfold P9;rw[if_pos hm,if_neg h]
  unfold J7;rw[e];rfl
 ·have hb:(encS (JV x)).length<=20000000:=by
   unfold encS
   rw[if_pos h]
   have:=jG (JV x) 0 (ACS x) h
   omega
  rw[AV];omega
 ·rw[AV]at h2
  have e:P9 x=5:=by unfold P9;rw[if_pos hm,if_pos h,if_pos (by omega)]
  unfold J7;rw[e];rfl
 ·rw[AV]at h2
  have e:P9 x=0:=by unfold P9;rw[if_pos hm,if_pos h,if_neg (by omega)]
  refine ABY (t:=24) (UV t27 t5 (ABY (t:=16) (UV t27 t5 (ABY (t:=8) (UV t27 t5 (UV t27 t5 (VP (AAS ?_ ?_))))))))
  ·simp only[AV,List.length_map,List.length_cons,List.length_nil];omega
  ·have hb:J7 x=AJo x++encS (JV x):=by unfold J7;rw[if_pos e]
   rw[e,hb]
   simp only[AV,List.map_cons,List.map_nil,Int.toNat_natCast]
   rfl
 ·have e:P9 x=3:=AL4.2 hm
  unfold J7;rw[e];rfl
theorem ARw{x:A9}(hx:okP x)(B:Base)(H:Heap):BM Tryz.prog 100 B 16 [F8 x] H (.returned (ABd (bytesOf (J7 x)) (P9 x))) H:=
 kQ okp (EY (ZF AQP ASs)) AZ rfl (ARv hx) B H
def ALm(N:Nd)(x:A9)(K:Value->Prop):Prop:=wpe Tryz.prog N (AP Z0 Zp [] [] [] []) 300 (.call 23 [F8 x] h0) (J6 K)
theorem AG1(N:Nd)(x:A9)(K:Value->Prop):ALm N x K=N.slen x.a9 fun z=>N.minI .min ⟨[3,3]⟩ 3 .i64 20000 z fun z0=>N.dlen (rowsOf D7 x.n.arms) fun z1=>N.ari .add .i64 z0 .i64 z1 fun y1=>N.dlen (rowsOf EM x.t.keys) fun z2=>N.ari .add .i64 y1 .i64 z2 fun y2=>N.dlen (rowsOf DJ x.e.args) fun z3=>N.ari .add .i64 y2 .i64 z3 fun y3=>N.dlen (rowsOf BN x.b.code) fun z4=>N.ari .add .i64 y3 .i64 z4 fun y4=>N.dlen (rowsOf BB x.g.bks) fun z5=>N.ari .add .i64 y4 .i64 z5 fun y5=>N.dlen (rowsOf DJ x.a10) fun z6=>N.ari .add .i64 y5 .i64 z6 fun n=>N.cmp .geq .i64 n .i64 20000 (K (.bool true)) (N.slen x.e.key fun k=>N.cmp .gtr .i64 k .i64 2000 (K (.bool true)) (N.slen x.e.oth fun o=>N.cmp .gtr .i64 o .i64 2000 (K (.bool true)) (K (.bool false)))):=by kernel_rfl
def AI0(x:A9):Nat:=min 20000 x.a9.data.toList.length+x.n.arms.length+x.t.keys.length+x.e.args.length+x.b.code.length+x.g.bks.length+x.a10.length
def WC(x:A9):Bool:=decide (20000<=AI0 x)||(decide (2000<x.e.key.data.toList.length)||decide (2000<x.e.oth.data.toList.length))
theorem APm{x:A9}(hx:lnP x):Is (ALm (real Tryz.prog) x (fun v=>v = .bool (WC x))):=by
 refine⟨?_⟩
 rw[AG1]
 obtain⟨h1,h2,h3,h4,h5,h6⟩:=hx
 refine FC (AMI ?_)
 have e:(if (x.a9.data.toList.length:Int)<20000 then(x.a9.data.toList.length:Int)else 20000)=((min 20000 x.a9.data.toList.length:Nat):Int):=by
  split<;>omega
 rw[e]
 have hm:min 20000 x.a9.data.toList.length<=20000:=Nat.min_le_left _ _
 have hs:AI0 x=min 20000 x.a9.data.toList.length+x.n.arms.length+x.t.keys.length+x.e.args.length+x.b.code.length+x.g.bks.length+x.a10.length:=rfl
 generalize min 20000 x.a9.data.toList.length=q at hm hs
 refine BI _ (AQ _ _) (YN (by omega) (by omega) (BI _ (AQ _ _) (YN (by omega) (by omega) (BI _ (AQ _ _) (YN (by omega) (by omega) (BI _ (AQ _ _) (YN (by omega) (by omega) (BI _ (AQ _ _) (YN (by omega) (by omega) (BI _ (AQ _ _) (YN (by omega) (by omega) ?_)))))))))))
 refine N7 (fun h=>?_) (fun h=>FC (dB (fun h2=>?_) (fun h2=>FC (dB (fun h3=>?_) (fun h3=>?_)))))
 ·unfold WC;rw[decide_eq_true (show 20000<=AI0 x by omega)];rfl
 ·unfold WC;rw[decide_eq_true (show 2000<x.e.key.data.toList.length by omega)];simp
 ·unfold WC;rw[decide_eq_true (show 2000<x.e.oth.data.toList.length by omega)];simp
 ·unfold WC;rw[decide_eq_false (show ¬20000<=AI0 x by omega),decide_eq_false (show ¬2000<x.e.key.data.toList.length by omega),decide_eq_false (show ¬2000<x.e.oth.data.toList.length by omega)];rfl
abbrev ML1:=Value->Prop->Prop->Prop
def sL1(M:ML1):Lv->(Value->Prop)->Prop
 | [a],K=>M a (K (.bool true)) (K (.bool false))
 |_,_=>False
def sAw:Lv->(Value->Prop)->Prop
 | [],K=>K (.bool true)
 |_,_=>False
theorem ASo:FY Tryz.prog 100 11 sAw:=by
 intro args K h
 unfold sAw at h
 split at h<;>try exact h.elim
 exact⟨_,ALX,h⟩
def ALT:ML1:=fun a A E=>∃x:A9,a=F8 x/\lnP x/\(WC x=true->A)/\(WC x=false->E)
theorem ASt:FY Tryz.prog 100 23 (sL1 ALT):=by
 intro args K h
 unfold sL1 at h
 split at h<;>try exact h.elim
 obtain⟨x,rfl,hx,hA,hE⟩:=h
 refine⟨.bool (WC x),fun B H=>kQ okp DC AZ rfl (APm hx) B H,?_⟩
 cases hb:WC x with
 |true=>exact hA hb
 |false=>exact hE hb
abbrev ME1:=Value->(ByteArray->Int->Prop)->Prop
def sE1(M:ME1):Lv->(Value->Prop)->Prop
 | [a],K=>M a fun s e=>K (ABd s e)
 |_,_=>False
def AK8:ME1:=fun a K=>∃x:A9,a=F8 x/\okP x/\K (bytesOf (J7 x)) (P9 x:Int)
theorem ASr:FY Tryz.prog 100 16 (sE1 AK8):=by
 intro args K h
 unfold sE1 at h
 split at h<;>try exact h.elim
 obtain⟨x,rfl,hx,hK⟩:=h
 exact⟨_,ARw hx,hK⟩
def AQs:ML1:=fun a A E=>∃x:A9,a=F8 x/\okP x/\(QF x=true->A)/\(QF x=false->E)
theorem ATB:FY Tryz.prog 100 18 (sL1 AQs):=by
 intro args K h
 unfold sL1 at h
 split at h<;>try exact h.elim
 obtain⟨x,rfl,hx,hA,hE⟩:=h
 refine⟨.bool (QF x),ATn hx,?_⟩
 cases hb:QF x with
 |true=>exact hA hb
 |false=>exact hE hb
theorem ANG{x:A9}(h:WC x=false)(hr:rgP x):okP x:=by
 unfold WC at h
 simp only[Bool.or_eq_false_iff,decide_eq_false_iff_not]at h
 have h1:=h.1
 unfold AI0 at h1
 obtain⟨rn,rf,rt,re,rb,rg,rm,rr⟩:=hr.m
 exact⟨hr.a0,hr.a1,hr.a7,hr.a8,by omega,hr.w,⟨by unfold KQ;omega,trivial⟩,⟨trivial,trivial⟩,⟨by unfold JF;omega,trivial⟩,⟨by unfold JD;omega,re.1,re.2.1⟩,
  ⟨by unfold JC;omega,fun y hy=>⟨(rb y hy).2.2.1,(rb y hy).2.2.2.2⟩⟩,⟨by unfold JE;omega,rg.2⟩,⟨trivial,trivial⟩,⟨trivial,trivial⟩⟩
def AW6(N:Nd)(k z:Int)(K:Value->Prop):Prop:=wpe Tryz.prog N (AP Z0 Zp [] [] [] []) 300 (.call 27 [(.int .u8 k),(.int .u32 z)] h0) (J6 K)
theorem AWa(N:Nd)(k z:Int)(K:Value->Prop):AW6 N k z K=N.ari .quo .u32 z .u32 16777216 fun q1=>N.conv 27 5 .u32 q1 .u8 fun b1=>N.ari .quo .u32 z .u32 65536 fun q2=>N.ari .rem .u32 q2 .u32 256 fun r2=>N.conv 27 5 .u32 r2 .u8 fun b2=>N.ari .quo .u32 z .u32 256 fun q3=>N.ari .rem .u32 q3 .u32 256 fun r3=>N.conv 27 5 .u32 r3 .u8 fun b3=>N.ari .rem .u32 z .u32 256 fun r4=>N.conv 27 5 .u32 r4 .u8 fun b4=>N.str [k,b1,b2,b3,b4] fun s=>K (.string s):=by kernel_rfl
def hdB(k z:Nat):List UInt8:=[UInt8.ofNat k,UInt8.ofNat (z / 16777216 % 256),UInt8.ofNat (z / 65536 % 256),UInt8.ofNat (z / 256 % 256),UInt8.ofNat (z % 256)]
theorem AU1{m d:Nat}{K:Int->Prop}(hd:0<d)(hm:m<4294967296)(hk:K ((m / d:Nat):Int)):(real Tryz.prog).ari .quo .u32 (m:Int) .u32 (d:Int) K:=by
 refine⟨((m / d:Nat):Int),?_,hk⟩
 have hlt:m / d<4294967296:=Nat.lt_of_le_of_lt (Nat.div_le_self _ _) hm
 have e:IntKind.u32.wrap ((m:Int).tdiv (d:Int))=((m / d:Nat):Int):=by
  rw[←Int.ofNat_tdiv]
  generalize m / d=q at hlt ⊢
  simp[IntKind.wrap,IntKind.signed,IntKind.bits];omega
 have hne:¬((d:Int)=0):=by omega
 simp only[H8,e,decide_eq_false hne];rfl
theorem AXR(k z:Nat)(hk:k<256)(hz:z<4294967296):Is (AW6 (real Tryz.prog) (k:Int) (z:Int) (fun v=>v = .string (bytesOf (hdB k z)))):=by
 refine⟨?_⟩
 rw[AWa]
 refine AU1 (d:=16777216) (by omega) hz (UV t27 t5 (AU1 (d:=65536) (by omega) hz (APs (d:=256) (by omega) (UV t27 t5 (AU1 (d:=256) (by omega) hz (APs (d:=256) (by omega) (UV t27 t5 (APs (d:=256) (by omega) (UV t27 t5 (VP ?_))))))))))
 simp only[List.map_cons,List.map_nil,Int.toNat_natCast,Nat.mod_mod]
 rfl
abbrev MHd:=Int->Int->(ByteArray->Prop)->Prop
def sHd(M:MHd):Lv->(Value->Prop)->Prop
 | [.int .u8 k,.int .u32 z],K=>M k z fun s=>K (.string s)
 |_,_=>False
def MHr:MHd:=fun a b K=>∃k z:Nat,a=k/\b=z/\k<256/\z<4294967296/\K (bytesOf (hdB k z))
theorem AYj:FY Tryz.prog 100 27 (sHd MHr):=by
 intro args K h
 unfold sHd at h
 split at h<;>try exact h.elim
 obtain⟨k,z,rfl,rfl,hk,hz,hK⟩:=h
 exact⟨_,fun B H=>kQ okp DC AZ rfl (AXR k z hk hz) B H,hK⟩
theorem bc{op:Bool}{X Y:Prop}{a b:Bool}(h1:a=b->X)(h2:a≠b->Y):(real Tryz.prog).bcmp .eql a b X Y := .inl ⟨rfl,fun h=>h1 (by simpa using h),fun h=>h2 (by simpa using h)⟩
theorem ATD:FY Tryz.prog 100 30 (sSm (AD4 F8 okP Eq)):=ANI fun x y hx _=>ASd x y hx
def AQc(L:LQt):LpS:=lpS [4] fun c n AB obs K=>L c n AB obs (K (.exit 0) [top] []) (K .ret [.bool false] [])
def gNs(N:Nd)(L:LQt)(r r2:Lv)(K:Value->Prop):Prop:=wpe Tryz.prog N (AP Z0 Zp [] [(4,(26,([0,1,5],AQc L)))] [] []) 300 (.call 41 [(dsl r),(dsl r2)] h0) (J6 K)
theorem AMc(N:Nd)(L:LQt)(r r2:Lv)(K:Value->Prop):gNs N L r r2 K=N.dlen r fun n=>N.dlen r2 fun m=>N.cmp .neq .i64 n .i64 m (K (.bool false)) (L (AJ Tryz.prog 41 4) 26 [dsl r,dsl r2,.int .i64 0] [] (K (.bool true)) (K (.bool false))):=by kernel_rfl
def AOT(N:Nd)(r r2:Lv)(i:Int)(back:Bk)(out:Ot):Prop:=
 wpe Tryz.prog N (AP Z0 Zp [] [] [] []) 300 (.code false (AJ Tryz.prog 41 4) (CX 100 26 [0,1,5] [] ([dsl r,dsl r2,.int .i64 i],[]))) (A7 100 [0,1,5] [4] 26 [] back out)
theorem AJV(N:Nd)(r r2:Lv)(i:Int)(back:Bk)(out:Ot):AOT N r r2 i back out=N.dlen r fun n=>N.cmp .lss .i64 i .i64 n (N.dget r i 1 fun ca=>N.rdI .u64 ca 0 fun za=>N.dget r2 i 1 fun cb=>N.rdI .u64 cb 0 fun zb=>N.cmp .neq .u64 za .u64 zb (nD/\out .ret [.bool false] [])
 (N.ari .add .i64 i .i64 1 fun j=>nD/\back [dsl r,dsl r2,.int .i64 j] [])) (nD/\out (.exit 0) [top] []):=by kernel_rfl
def INs(l m:List Nat)(i:StQ l m):Lv×Lo:=([dsl (rowsOf DJ l),dsl (rowsOf DJ m),.int .i64 (i.1:Int)],[])
def LNs(l m:List Nat):LQt:=fun code n AB obs A E=>code=AJ Tryz.prog 41 4/\n=26/\AB=[dsl (rowsOf DJ l),dsl (rowsOf DJ m),.int .i64 0]/\obs=[]/\l.length=m.length/\(l=m->A)/\(l≠m->E)
theorem AP7(l m:List Nat)(hl:l.length<1000000000)(hm:l.length=m.length)(i:StQ l m):Is (wpe Tryz.prog (real Tryz.prog) (AP Z0 Zp [] [] [] []) 300 (.code false (AJ Tryz.prog 41 4) (CX 100 26 [0,1,5] [] (INs l m i))) (A7 100 [0,1,5] [4] 26 []
   (fun AB AC=>∃a':StQ l m,l.length-a'.1<l.length-i.1/\Wk 100 (100+0) AB AC (INs l m a').1 (INs l m a').2/\∀e v o,RQ l m e v o->RQ l m e v o)
   (fun e AB AC=>∃v o,Wk 100 (100+0) AB AC v o/\RQ l m e v o))):=by
 refine⟨?_⟩
 obtain⟨i,inv⟩:=i
 have hi:=inv.le
 show AOT (real Tryz.prog) (rowsOf DJ l) (rowsOf DJ m) (i:Int) _ _
 rw[AJV]
 refine BI l.length (AQ _ _) (EL (fun hlt=>?_) (fun hge=>?_))
 ·have ha:l[i]?=some l[i]:=List.getElem?_eq_getElem hlt
  have hlt2:i<m.length:=by omega
  have hb2:m[i]?=some m[i]:=List.getElem?_eq_getElem hlt2
  generalize l[i]=a at ha
  generalize m[i]=b at hb2
  have hms:l.length-(i+1)<l.length-i:=by omega
  refine DK i rfl (CL ha) rfl (CG rfl (DK i rfl (CL hb2) rfl (CG rfl (MP (fun h=>?_) (fun h=>?_)))))
  ·exact⟨rfl,_,_,Wk.refl _ _ _ _,.inr ⟨fun e=>h (by rw[e,hb2]at ha;simpa using ha.symm),rfl,rfl,rfl⟩⟩
  ·have he:a=b:=h
   subst he
   exact BZ (by omega) ⟨rfl,⟨i+1,⟨hlt,M4 inv.eq ha hb2⟩⟩,hms,Wk.refl _ _ _ _,fun _ _ _ h=>h⟩
 ·have e:i=l.length:=by omega
  have h:=inv.eq
  rw[e,List.take_length,hm,List.take_length]at h
  exact⟨rfl,[top],[],Wk.refl _ _ _ _,.inl ⟨h,rfl,rfl,rfl⟩⟩
theorem ARW(l m:List Nat)(hl:l.length<1000000000):BH Tryz.prog 100 [0,1,5] (AQc (LNs l m)):=by
 show BH Tryz.prog 100 [0,1,5] (lpS [4] _)
 refine FQ okp (W:=AP Z0 Zp [] [] [] []) DC AZ ?_
 rintro cc n AB obs K ⟨hc,hn,hv,ho,hm,hA,hE⟩
 subst hc;subst hn;subst hv;subst ho
 refine⟨StQ l m,0,300,fun a=>l.length-a.1,INs l m,fun _ e v o=>RQ l m e v o,⟨0,⟨Nat.zero_le _,rfl⟩⟩,rfl,Wk.refl _ _ _ _,?_,AP7 l m hl hm⟩
 intro e v o hR
 rcases hR with⟨h1,rfl,rfl,rfl⟩ | ⟨h1,rfl,rfl,rfl⟩
 ·exact hA h1
 ·exact hE h1
theorem nsC(l m:List Nat):Is (gNs (real Tryz.prog) (LNs l m) (rowsOf DJ l) (rowsOf DJ m) (fun v=>∃b:Bool,v = .bool b/\(b=true↔l=m))):=by
 refine⟨?_⟩
 rw[AMc]
 exact BI l.length (AQ _ _) (BI m.length (AQ _ _) (MP (fun h=>⟨false,rfl,CS (fun z:List Nat=>z.length) h⟩) (fun h=>⟨rfl,rfl,rfl,rfl,h,fun h=>⟨true,rfl,fun _=>h,fun _=>rfl⟩,fun h=>⟨false,rfl,CS id h⟩⟩)))
theorem nsH(l m:List Nat)(hl:l.length<1000000000):∃b:Bool,(b=true↔l=m)/\∀B H,BM Tryz.prog 100 B 41 [dsl (rowsOf DJ l),dsl (rowsOf DJ m)] H (.returned (.bool b)) H:=
 IZ DC (GH (fun z hz=>by simp only[List.mem_singleton]at hz;subst hz;exact ARW l m hl)) rfl (nsC l m)
theorem ARO:∀x∈puR ALU (ATJ DJ),FY Tryz.prog 100 x.1 x.2:=fun x hx=>by
 simp only[puR,List.mem_cons,List.not_mem_nil,or_false]at hx
 rcases hx with rfl|rfl|rfl|rfl|rfl|rfl|rfl|rfl|rfl
 ·exact AF4 nsH
 ·exact VB AKU
 ·exact VB fun x y _=>AIR x y
 ·exact VB AIX
 ·exact VB AIP
 ·exact VB AIN
 ·exact VB AIT
 ·exact VB fun x y _=>AIV x y
 ·exact VB fun x y _=>AKW x y
theorem AMT(x y:A9)(hx:okP x):∃b:Bool,(b=true↔x=y)/\∀B H,BM Tryz.prog 100 B 22 [F8 x,F8 y] H (.returned (.bool b)) H:=IZ (EY ARO) AZ rfl (AMS x y hx)
theorem APS:FY Tryz.prog 100 22 (sSm (AD4 F8 okP Eq)):=ANI fun x y hx _=>AMT x y hx
def cU8(t:Nat):Lv:=[.int .u8 (t:Int)]
def YL(k:Nat):Nat->List Nat
 | 0=>[]
 |n+1=>YL k n++(if hasB k (n+1)=true then[n+1]else[])
theorem ALC(k t:Nat):∀n,t∈YL k n↔1<=t/\t<=n/\hasB k t=true
 | 0=>by simp[YL];omega
 |n+1=>by
  rw[YL,List.mem_append,ALC k t n]
  by_cases h:hasB k (n+1)=true
  ·rw[if_pos h,List.mem_singleton]
   constructor
   ·rintro (⟨a,b,c⟩ | rfl)
    ·exact⟨a,by omega,c⟩
    ·exact⟨by omega,by omega,h⟩
   ·rintro ⟨a,b,c⟩
    by_cases e:t=n+1
    ·exact .inr e
    ·exact .inl ⟨a,by omega,c⟩
  ·rw[if_neg h]
   constructor
   ·rintro (⟨a,b,c⟩ | h2)
    ·exact⟨a,by omega,c⟩
    ·cases h2
   ·rintro ⟨a,b,c⟩
    by_cases e:t=n+1
    ·exact absurd (e ▸ c) h
    ·exact .inl ⟨a,by omega,c⟩
theorem AHj(k:Nat):∀n,(YL k n).length<=n
 | 0=>Nat.le_refl 0
 |n+1=>by
  have:=AHj k n
  rw[YL,List.length_append]
  split<;>simp<;>omega
def wF(l:List Nat):Lv:=l.flatMap cU8
theorem AQj(l m:List Nat):wF (l++m)=wF l++wF m:=by simp[wF]
theorem ALQ:∀l:List Nat,(wF l).length=l.length
 | []=>rfl
 |a::l=>by show(wF l).length+1=_;rw[ALQ l];rfl
theorem ACk:∀l:List Nat,BL 0 (wF l)=true
 | []=>rfl
 |a::l=>by show(true&&BL 0 (wF l))=true;rw[ACk l];rfl
theorem AQZ:∀l:List Nat,DI 1 (rowsOf cU8 l)=some (wF l)
 | []=>rfl
 |a::l=>by
  show DI 1 (.agg ⟨[.int .u8 (a:Int)]⟩::rowsOf cU8 l)=_
  simp only[DI,AQZ l];rfl
abbrev LHs:=Code->Nat->Lv->Lo->(Nat->Option AA->Prop)->Prop
def ATa(L:LHs):LpS:=lpS [3] fun c n AB obs K=>L c n AB obs (fun k ob=>K (.exit 0) [mkS 100 k] [ob])
def syH:Sy:=fun b=>match Nat.beq b 100 with|true=>some true|false=>none
def ASN(N:Nd)(L:LHs)(k:Int)(K:RK):Prop:=wpe Tryz.prog N (AP syH Zp [] [(3,(17,([0,3,4],ATa L)))] [] []) 300 (.call 13 [(.int .u8 k)] h0) (FD 100 K)
theorem AQu(N:Nd)(L:LHs)(k:Int)(K:RK):ASN N L k K=L (AJ Tryz.prog 13 3) 17 [.int .u8 k,.slice none 0 0,.int .u8 1] [] (fun n ob=>K (mkS 100 n) [ob]):=by kernel_rfl
def AQ0(N:Nd)(M:MOf)(k t:Int)(n:Nat)(ob:Option AA)(back:Bk)(out:Ot):Prop:=
 wpe Tryz.prog N (AP syH Zp [] [] [(34,sOf M)] []) 300 (.code false (AJ Tryz.prog 13 3) (CX 100 17 [0,3,4] [] ([.int .u8 k,mkS 100 n,.int .u8 t],[ob]))) (A7 100 [0,3,4] [3] 17 [] back out)
theorem AOS(N:Nd)(M:MOf)(k t:Int)(n:Nat)(ob:Option AA)(back:Bk)(out:Ot):AQ0 N M k t n ob back out=N.cmp .leq .u8 t .u8 17 (M k t (N.base true n n ob 5 1 fun vs=>N.appX n vs 1 [.int .u8 t] 1 1 fun vs' n'=>N.ari .add .u8 t .u8 1 fun t'=>nD/\back [.int .u8 k,.slice (some ⟨102,0,none⟩) n' n',.int .u8 t'] [none,some (.cells [.int .u8 t] 5 1 false true),some (.cells vs' 5 1 true true)])
 (N.ari .add .u8 t .u8 1 fun t'=>nD/\back [.int .u8 k,mkS 100 n,.int .u8 t'] [ob])) (nD/\out (.exit 0) [mkS 100 n] [ob]):=by kernel_rfl
theorem ANF{m:Nat}{K:Int->Prop}(h:m+1<256)(hk:K ((m+1:Nat):Int)):(real Tryz.prog).ari .add .u8 (m:Int) .u8 (1:Int) K:=by
 refine⟨((m+1:Nat):Int),?_,hk⟩
 have e:fP .u8 ((m:Int)+1)=((m+1:Nat):Int):=by
  rw[AD1]
  simp[IntKind.wrap,IntKind.signed,IntKind.bits];omega
 simp only[H8,e];rfl
structure AQr(t:Nat):Prop where
 lo:1<=t
 hi:t<=18
def IH(k:Nat)(t:{t:Nat // AQr t}):Lv×Lo:=([.int .u8 (k:Int),mkS 100 (YL k (t.1-1)).length,.int .u8 (t.1:Int)],[mo (wF (YL k (t.1-1))) 5 1])
def RH(k:Nat)(e:Exit)(v:Lv)(o:Lo):Prop:=e = .exit 0/\v=[mkS 100 (YL k 17).length]/\o=[mo (wF (YL k 17)) 5 1]
theorem ATF(k:Nat)(hk:k<256)(t:{t:Nat // AQr t}):Is (wpe Tryz.prog (real Tryz.prog) (AP syH Zp [] [] [(34,sOf MOr)] []) 300 (.code false (AJ Tryz.prog 13 3) (CX 100 17 [0,3,4] [] (IH k t))) (A7 100 [0,3,4] [3] 17 []
   (fun AB AC=>∃a':{t:Nat // AQr t},18-a'.1<18-t.1/\Wk 100 (100+0) AB AC (IH k a').1 (IH k a').2/\∀e v o,RH k e v o->RH k e v o)
   (fun e AB AC=>∃v o,Wk 100 (100+0) AB AC v o/\RH k e v o))):=by
 refine⟨?_⟩
 obtain⟨t,lo,hi⟩:=t
 show AQ0 (real Tryz.prog) MOr (k:Int) (t:Int) (YL k (t-1)).length (mo (wF (YL k (t-1))) 5 1) _ _
 rw[AOS]
 have hT:J3=140737488355328:=rfl
 have hlen:=AHj k (t-1)
 have hs:YL k t=YL k (t-1)++(if hasB k t=true then[t]else[]):=by
  have:YL k (t-1+1)=YL k (t-1)++(if hasB k (t-1+1)=true then[t-1+1]else[]):=rfl
  rw[show t-1+1=t by omega]at this;exact this
 refine SL (d:=17) (fun h17=>⟨k,t,rfl,rfl,hk,by omega,fun h=>?_,fun h=>?_⟩) (fun h17=>?_)
 ·rw[if_pos h]at hs
  have hv:wF (YL k t)=wF (YL k (t-1))++[.int .u8 (t:Int)]:=by rw[hs,AQj];rfl
  have hl:(YL k t).length=(YL k (t-1)).length+1:=by rw[hs];simp
  refine D6 (by rw[ALQ,Nat.mul_one]) (by omega) (FV (by omega) rfl rfl (by omega) (by omega) (ANF (by omega) ⟨rfl,⟨t+1,by omega,by omega⟩,by show 18-(t+1)<18-t;omega,?_,fun _ _ _ h=>h⟩))
  show Wk 100 (100+0) _ _ ([.int .u8 (k:Int)]++mkS (100+0) (YL k (t+1-1)).length::_) ([]++[mo (wF (YL k (t+1-1))) 5 1])
  rw[Nat.add_sub_cancel,J4 (by rw[hv];simp),hv,hl]
  exact IU (k0:=0) (j:=2) (va:=[.int .u8 (k:Int)]) (by omega) rfl (by rw[←hv];exact ACk _) rfl rfl (by omega) rfl (fun i o h=>by simp at h)
 ·rw[if_neg (by rw[h];simp),List.append_nil]at hs
  refine ANF (by omega) ⟨rfl,⟨t+1,by omega,by omega⟩,by show 18-(t+1)<18-t;omega,?_,fun _ _ _ h=>h⟩
  show Wk 100 (100+0) _ _ [.int .u8 (k:Int),mkS 100 (YL k (t+1-1)).length,.int .u8 ((t+1:Nat):Int)] [mo (wF (YL k (t+1-1))) 5 1]
  rw[Nat.add_sub_cancel,hs];exact Wk.refl _ _ _ _
 ·have e:t=18:=by omega
  subst e
  exact⟨rfl,_,_,Wk.refl _ _ _ _,rfl,rfl,rfl⟩
def LHr(k:Nat):LHs:=fun c n AB obs A=>c=AJ Tryz.prog 13 3/\n=17/\AB=[.int .u8 (k:Int),.slice none 0 0,.int .u8 1]/\obs=[]/\A (YL k 17).length (mo (wF (YL k 17)) 5 1)
theorem lpH(k:Nat)(hk:k<256):BH Tryz.prog 100 [0,3,4] (ATa (LHr k)):=by
 show BH Tryz.prog 100 [0,3,4] (lpS [3] _)
 refine FQ okp (W:=AP syH Zp [] [] [(34,sOf MOr)] []) (EY (pu1 AN0)) AZ ?_
 rintro c n AB obs K ⟨hc,hn,hv,ho,hA⟩
 subst hc;subst hn;subst hv;subst ho
 refine⟨{t:Nat // AQr t},0,300,fun a=>18-a.1,IH k,fun _ e v o=>RH k e v o,⟨1,by omega,by omega⟩,rfl,?_,?_,ATF k hk⟩
 ·exact IP (va:=[.int .u8 (k:Int)])
 ·intro e v o h
  obtain⟨rfl,rfl,rfl⟩:=h
  exact hA
theorem ATg(k:Nat):Is (ASN (real Tryz.prog) (LHr k) (k:Int) (PQ (dsl (rowsOf cU8 (YL k 17))))):=by
 refine⟨?_⟩
 rw[AQu]
 refine⟨rfl,rfl,rfl,rfl,?_⟩
 have h1:Wk 100 100 [mkS 100 (YL k 17).length] [mo (wF (YL k 17)) 5 1] _ _:=JY (G:=100) 0 0 (AY:=rowsOf cU8 (YL k 17)) rfl rfl (AQZ _) (ACk _) (by omega) (by rw[AQ])
 exact h1.trans (LB rfl)
abbrev MHs:=Int->(Lv->Prop)->Prop
def sHs(M:MHs):Lv->(Value->Prop)->Prop
 | [.int .u8 k],K=>M k fun rs=>K (dsl rs)
 |_,_=>False
def AQ8:MHs:=fun a K=>∃k:Nat,a=k/\k<256/\K (rowsOf cU8 (YL k 17))
theorem ATA:FY Tryz.prog 100 13 (sHs AQ8):=by
 intro args K h
 unfold sHs at h
 split at h<;>try exact h.elim
 obtain⟨k,rfl,hk,hK⟩:=h
 exact⟨_,fun B H=>GL okp DC (lp1 (lpH k hk)) rfl rfl (ATg k) B H,hK⟩
def TW(x y:A9):Nat->A9
 | 1=>{x with a2:=y.a2}
 | 2=>{x with a3:=y.a3}
 | 3=>{x with a4:=y.a4}
 | 4=>{x with a5:=y.a5}
 | 5=>{x with a6:=y.a6}
 | 6=>{x with a7:=y.a7}
 | 7=>{x with a8:=y.a8}
 | 8=>{x with a9:=y.a9}
 | 9=>{x with a10:=y.a10}
 | 10=>{x with n:=y.n}
 | 11=>{x with f:=y.f}
 | 12=>{x with t:=y.t}
 | 13=>{x with e:=y.e}
 | 14=>{x with b:=y.b}
 | 15=>{x with g:=y.g}
 | 16=>{x with m:=y.m}
 |_=>{x with r:=y.r}
theorem AWW(x y:A9)(t:Nat):(TW x y t).a0=x.a0:=by unfold TW;split<;>rfl
theorem AWX(x y:A9)(t:Nat):(TW x y t).a1=x.a1:=by unfold TW;split<;>rfl
theorem AWs(x y:A9):∀k,k≠1->J5 (TW x y 1) k=J5 x k
 | 0,_=>rfl
 | 1,h=>absurd rfl h
 | 2,_=>rfl
 | 3,_=>rfl
 | 4,_=>rfl
 | 5,_=>rfl
 | 6,_=>rfl
 | 7,_=>rfl
 | 8,_=>rfl
 | 9,_=>rfl
 | 10,_=>rfl
 | 11,_=>rfl
 | 12,_=>rfl
 | 13,_=>rfl
 | 14,_=>rfl
 | 15,_=>rfl
 | 16,_=>rfl
 | 17,_=>rfl
 |k+18,_=>(AAf (.inr (by omega))).trans (AAf (.inr (by omega))).symm
theorem AWt(x y:A9):∀k,k≠2->J5 (TW x y 2) k=J5 x k
 | 0,_=>rfl
 | 1,_=>rfl
 | 2,h=>absurd rfl h
 | 3,_=>rfl
 | 4,_=>rfl
 | 5,_=>rfl
 | 6,_=>rfl
 | 7,_=>rfl
 | 8,_=>rfl
 | 9,_=>rfl
 | 10,_=>rfl
 | 11,_=>rfl
 | 12,_=>rfl
 | 13,_=>rfl
 | 14,_=>rfl
 | 15,_=>rfl
 | 16,_=>rfl
 | 17,_=>rfl
 |k+18,_=>(AAf (.inr (by omega))).trans (AAf (.inr (by omega))).symm
theorem AWu(x y:A9):∀k,k≠3->J5 (TW x y 3) k=J5 x k
 | 0,_=>rfl
 | 1,_=>rfl
 | 2,_=>rfl
 | 3,h=>absurd rfl h
 | 4,_=>rfl
 | 5,_=>rfl
 | 6,_=>rfl
 | 7,_=>rfl
 | 8,_=>rfl
 | 9,_=>rfl
 | 10,_=>rfl
 | 11,_=>rfl
 | 12,_=>rfl
 | 13,_=>rfl
 | 14,_=>rfl
 | 15,_=>rfl
 | 16,_=>rfl
 | 17,_=>rfl
 |k+18,_=>(AAf (.inr (by omega))).trans (AAf (.inr (by omega))).symm
theorem AWv(x y:A9):∀k,k≠4->J5 (TW x y 4) k=J5 x k
 | 0,_=>rfl
 | 1,_=>rfl
 | 2,_=>rfl
 | 3,_=>rfl
 | 4,h=>absurd rfl h
 | 5,_=>rfl
 | 6,_=>rfl
 | 7,_=>rfl
 | 8,_=>rfl
 | 9,_=>rfl
 | 10,_=>rfl
 | 11,_=>rfl
 | 12,_=>rfl
 | 13,_=>rfl
 | 14,_=>rfl
 | 15,_=>rfl
 | 16,_=>rfl
 | 17,_=>rfl
 |k+18,_=>(AAf (.inr (by omega))).trans (AAf (.inr (by omega))).symm
theorem AWw(x y:A9):∀k,k≠5->J5 (TW x y 5) k=J5 x k
 | 0,_=>rfl
 | 1,_=>rfl
 | 2,_=>rfl
 | 3,_=>rfl
 | 4,_=>rfl
 | 5,h=>absurd rfl h
 | 6,_=>rfl
 | 7,_=>rfl
 | 8,_=>rfl
 | 9,_=>rfl
 | 10,_=>rfl
 | 11,_=>rfl
 | 12,_=>rfl
 | 13,_=>rfl
 | 14,_=>rfl
 | 15,_=>rfl
 | 16,_=>rfl
 | 17,_=>rfl
 |k+18,_=>(AAf (.inr (by omega))).trans (AAf (.inr (by omega))).symm
theorem AWx(x y:A9):∀k,k≠6->J5 (TW x y 6) k=J5 x k
 | 0,_=>rfl
 | 1,_=>rfl
 | 2,_=>rfl
 | 3,_=>rfl
 | 4,_=>rfl
 | 5,_=>rfl
 | 6,h=>absurd rfl h
 | 7,_=>rfl
 | 8,_=>rfl
 | 9,_=>rfl
 | 10,_=>rfl
 | 11,_=>rfl
 | 12,_=>rfl
 | 13,_=>rfl
 | 14,_=>rfl
 | 15,_=>rfl
 | 16,_=>rfl
 | 17,_=>rfl
 |k+18,_=>(AAf (.inr (by omega))).trans (AAf (.inr (by omega))).symm
theorem AWy(x y:A9):∀k,k≠7->J5 (TW x y 7) k=J5 x k
 | 0,_=>rfl
 | 1,_=>rfl
 | 2,_=>rfl
 | 3,_=>rfl
 | 4,_=>rfl
 | 5,_=>rfl
 | 6,_=>rfl
 | 7,h=>absurd rfl h
 | 8,_=>rfl
 | 9,_=>rfl
 | 10,_=>rfl
 | 11,_=>rfl
 | 12,_=>rfl
 | 13,_=>rfl
 | 14,_=>rfl
 | 15,_=>rfl
 | 16,_=>rfl
 | 17,_=>rfl
 |k+18,_=>(AAf (.inr (by omega))).trans (AAf (.inr (by omega))).symm
theorem AWz(x y:A9):∀k,k≠8->J5 (TW x y 8) k=J5 x k
 | 0,_=>rfl
 | 1,_=>rfl
 | 2,_=>rfl
 | 3,_=>rfl
 | 4,_=>rfl
 | 5,_=>rfl
 | 6,_=>rfl
 | 7,_=>rfl
 | 8,h=>absurd rfl h
 | 9,_=>rfl
 | 10,_=>rfl
 | 11,_=>rfl
 | 12,_=>rfl
 | 13,_=>rfl
 | 14,_=>rfl
 | 15,_=>rfl
 | 16,_=>rfl
 | 17,_=>rfl
 |k+18,_=>(AAf (.inr (by omega))).trans (AAf (.inr (by omega))).symm
theorem AWA(x y:A9):∀k,k≠9->J5 (TW x y 9) k=J5 x k
 | 0,_=>rfl
 | 1,_=>rfl
 | 2,_=>rfl
 | 3,_=>rfl
 | 4,_=>rfl
 | 5,_=>rfl
 | 6,_=>rfl
 | 7,_=>rfl
 | 8,_=>rfl
 | 9,h=>absurd rfl h
 | 10,_=>rfl
 | 11,_=>rfl
 | 12,_=>rfl
 | 13,_=>rfl
 | 14,_=>rfl
 | 15,_=>rfl
 | 16,_=>rfl
 | 17,_=>rfl
 |k+18,_=>(AAf (.inr (by omega))).trans (AAf (.inr (by omega))).symm
theorem AVM(x y:A9):∀k,k≠10->J5 (TW x y 10) k=J5 x k
 | 0,_=>rfl
 | 1,_=>rfl
 | 2,_=>rfl
 | 3,_=>rfl
 | 4,_=>rfl
 | 5,_=>rfl
 | 6,_=>rfl
 | 7,_=>rfl
 | 8,_=>rfl
 | 9,_=>rfl
 | 10,h=>absurd rfl h
 | 11,_=>rfl
 | 12,_=>rfl
 | 13,_=>rfl
 | 14,_=>rfl
 | 15,_=>rfl
 | 16,_=>rfl
 | 17,_=>rfl
 |k+18,_=>(AAf (.inr (by omega))).trans (AAf (.inr (by omega))).symm
theorem AVN(x y:A9):∀k,k≠11->J5 (TW x y 11) k=J5 x k
 | 0,_=>rfl
 | 1,_=>rfl
 | 2,_=>rfl
 | 3,_=>rfl
 | 4,_=>rfl
 | 5,_=>rfl
 | 6,_=>rfl
 | 7,_=>rfl
 | 8,_=>rfl
 | 9,_=>rfl
 | 10,_=>rfl
 | 11,h=>absurd rfl h
 | 12,_=>rfl
 | 13,_=>rfl
 | 14,_=>rfl
 | 15,_=>rfl
 | 16,_=>rfl
 | 17,_=>rfl
 |k+18,_=>(AAf (.inr (by omega))).trans (AAf (.inr (by omega))).symm
theorem AVO(x y:A9):∀k,k≠12->J5 (TW x y 12) k=J5 x k
 | 0,_=>rfl
 | 1,_=>rfl
 | 2,_=>rfl
 | 3,_=>rfl
 | 4,_=>rfl
 | 5,_=>rfl
 | 6,_=>rfl
 | 7,_=>rfl
 | 8,_=>rfl
 | 9,_=>rfl
 | 10,_=>rfl
 | 11,_=>rfl
 | 12,h=>absurd rfl h
 | 13,_=>rfl
 | 14,_=>rfl
 | 15,_=>rfl
 | 16,_=>rfl
 | 17,_=>rfl
 |k+18,_=>(AAf (.inr (by omega))).trans (AAf (.inr (by omega))).symm
theorem AVP(x y:A9):∀k,k≠13->J5 (TW x y 13) k=J5 x k
 | 0,_=>rfl
 | 1,_=>rfl
 | 2,_=>rfl
 | 3,_=>rfl
 | 4,_=>rfl
 | 5,_=>rfl
 | 6,_=>rfl
 | 7,_=>rfl
 | 8,_=>rfl
 | 9,_=>rfl
 | 10,_=>rfl
 | 11,_=>rfl
 | 12,_=>rfl
 | 13,h=>absurd rfl h
 | 14,_=>rfl
 | 15,_=>rfl
 | 16,_=>rfl
 | 17,_=>rfl
 |k+18,_=>(AAf (.inr (by omega))).trans (AAf (.inr (by omega))).symm
theorem AVQ(x y:A9):∀k,k≠14->J5 (TW x y 14) k=J5 x k
 | 0,_=>rfl
 | 1,_=>rfl
 | 2,_=>rfl
 | 3,_=>rfl
 | 4,_=>rfl
 | 5,_=>rfl
 | 6,_=>rfl
 | 7,_=>rfl
 | 8,_=>rfl
 | 9,_=>rfl
 | 10,_=>rfl
 | 11,_=>rfl
 | 12,_=>rfl
 | 13,_=>rfl
 | 14,h=>absurd rfl h
 | 15,_=>rfl
 | 16,_=>rfl
 | 17,_=>rfl
 |k+18,_=>(AAf (.inr (by omega))).trans (AAf (.inr (by omega))).symm
theorem AVR(x y:A9):∀k,k≠15->J5 (TW x y 15) k=J5 x k
 | 0,_=>rfl
 | 1,_=>rfl
 | 2,_=>rfl
 | 3,_=>rfl
 | 4,_=>rfl
 | 5,_=>rfl
 | 6,_=>rfl
 | 7,_=>rfl
 | 8,_=>rfl
 | 9,_=>rfl
 | 10,_=>rfl
 | 11,_=>rfl
 | 12,_=>rfl
 | 13,_=>rfl
 | 14,_=>rfl
 | 15,h=>absurd rfl h
 | 16,_=>rfl
 | 17,_=>rfl
 |k+18,_=>(AAf (.inr (by omega))).trans (AAf (.inr (by omega))).symm
theorem AVS(x y:A9):∀k,k≠16->J5 (TW x y 16) k=J5 x k
 | 0,_=>rfl
 | 1,_=>rfl
 | 2,_=>rfl
 | 3,_=>rfl
 | 4,_=>rfl
 | 5,_=>rfl
 | 6,_=>rfl
 | 7,_=>rfl
 | 8,_=>rfl
 | 9,_=>rfl
 | 10,_=>rfl
 | 11,_=>rfl
 | 12,_=>rfl
 | 13,_=>rfl
 | 14,_=>rfl
 | 15,_=>rfl
 | 16,h=>absurd rfl h
 | 17,_=>rfl
 |k+18,_=>(AAf (.inr (by omega))).trans (AAf (.inr (by omega))).symm
theorem AVT(x y:A9):∀k,k≠17->J5 (TW x y 17) k=J5 x k
 | 0,_=>rfl
 | 1,_=>rfl
 | 2,_=>rfl
 | 3,_=>rfl
 | 4,_=>rfl
 | 5,_=>rfl
 | 6,_=>rfl
 | 7,_=>rfl
 | 8,_=>rfl
 | 9,_=>rfl
 | 10,_=>rfl
 | 11,_=>rfl
 | 12,_=>rfl
 | 13,_=>rfl
 | 14,_=>rfl
 | 15,_=>rfl
 | 16,_=>rfl
 | 17,h=>absurd rfl h
 |k+18,_=>(AAf (.inr (by omega))).trans (AAf (.inr (by omega))).symm
theorem AWZ(x y:A9):∀(t:Nat),1<=t->t<=17->∀k,k≠t->J5 (TW x y t) k=J5 x k
 | 0,h1,_=>absurd h1 (by decide)
 | 1,_,_=>AWs x y
 | 2,_,_=>AWt x y
 | 3,_,_=>AWu x y
 | 4,_,_=>AWv x y
 | 5,_,_=>AWw x y
 | 6,_,_=>AWx x y
 | 7,_,_=>AWy x y
 | 8,_,_=>AWz x y
 | 9,_,_=>AWA x y
 | 10,_,_=>AVM x y
 | 11,_,_=>AVN x y
 | 12,_,_=>AVO x y
 | 13,_,_=>AVP x y
 | 14,_,_=>AVQ x y
 | 15,_,_=>AVR x y
 | 16,_,_=>AVS x y
 | 17,_,_=>AVT x y
 |t+18,_,h2=>absurd h2 (by omega)
theorem AWn{x y:A9}(hx:okP x)(hy:okP y):∀(t:Nat),1<=t->t<=17->okP (TW x y t)
 | 0,h1,_=>absurd h1 (by decide)
 | 1,_,_=>⟨hx.a0,hx.a1,hx.a7,hx.a8,hx.w,hx.wn,hx.n,hx.f,hx.t,hx.e,hx.b,hx.g,hx.m,hx.r⟩
 | 2,_,_=>⟨hx.a0,hx.a1,hx.a7,hx.a8,hx.w,hx.wn,hx.n,hx.f,hx.t,hx.e,hx.b,hx.g,hx.m,hx.r⟩
 | 3,_,_=>⟨hx.a0,hx.a1,hx.a7,hx.a8,hx.w,hx.wn,hx.n,hx.f,hx.t,hx.e,hx.b,hx.g,hx.m,hx.r⟩
 | 4,_,_=>⟨hx.a0,hx.a1,hx.a7,hx.a8,hx.w,hx.wn,hx.n,hx.f,hx.t,hx.e,hx.b,hx.g,hx.m,hx.r⟩
 | 5,_,_=>⟨hx.a0,hx.a1,hx.a7,hx.a8,hx.w,hx.wn,hx.n,hx.f,hx.t,hx.e,hx.b,hx.g,hx.m,hx.r⟩
 | 6,_,_=>⟨hx.a0,hx.a1,hy.a7,hx.a8,hx.w,hx.wn,hx.n,hx.f,hx.t,hx.e,hx.b,hx.g,hx.m,hx.r⟩
 | 7,_,_=>⟨hx.a0,hx.a1,hx.a7,hy.a8,hx.w,hx.wn,hx.n,hx.f,hx.t,hx.e,hx.b,hx.g,hx.m,hx.r⟩
 | 8,_,_=>⟨hx.a0,hx.a1,hx.a7,hx.a8,hx.w,hx.wn,hx.n,hx.f,hx.t,hx.e,hx.b,hx.g,hx.m,hx.r⟩
 | 9,_,_=>⟨hx.a0,hx.a1,hx.a7,hx.a8,hy.w,hy.wn,hx.n,hx.f,hx.t,hx.e,hx.b,hx.g,hx.m,hx.r⟩
 | 10,_,_=>⟨hx.a0,hx.a1,hx.a7,hx.a8,hx.w,hx.wn,hy.n,hx.f,hx.t,hx.e,hx.b,hx.g,hx.m,hx.r⟩
 | 11,_,_=>⟨hx.a0,hx.a1,hx.a7,hx.a8,hx.w,hx.wn,hx.n,hy.f,hx.t,hx.e,hx.b,hx.g,hx.m,hx.r⟩
 | 12,_,_=>⟨hx.a0,hx.a1,hx.a7,hx.a8,hx.w,hx.wn,hx.n,hx.f,hy.t,hx.e,hx.b,hx.g,hx.m,hx.r⟩
 | 13,_,_=>⟨hx.a0,hx.a1,hx.a7,hx.a8,hx.w,hx.wn,hx.n,hx.f,hx.t,hy.e,hx.b,hx.g,hx.m,hx.r⟩
 | 14,_,_=>⟨hx.a0,hx.a1,hx.a7,hx.a8,hx.w,hx.wn,hx.n,hx.f,hx.t,hx.e,hy.b,hx.g,hx.m,hx.r⟩
 | 15,_,_=>⟨hx.a0,hx.a1,hx.a7,hx.a8,hx.w,hx.wn,hx.n,hx.f,hx.t,hx.e,hx.b,hy.g,hx.m,hx.r⟩
 | 16,_,_=>⟨hx.a0,hx.a1,hx.a7,hx.a8,hx.w,hx.wn,hx.n,hx.f,hx.t,hx.e,hx.b,hx.g,hy.m,hx.r⟩
 | 17,_,_=>⟨hx.a0,hx.a1,hx.a7,hx.a8,hx.w,hx.wn,hx.n,hx.f,hx.t,hx.e,hx.b,hx.g,hx.m,hy.r⟩
 |t+18,_,h2=>absurd h2 (by omega)
theorem AYh{a b c:FuncId×(Lv->(Value->Prop)->Prop)}(h1:FY Tryz.prog 100 a.1 a.2)(h2:FY Tryz.prog 100 b.1 b.2)(h3:FY Tryz.prog 100 c.1 c.2):∀x∈[a,b,c],FY Tryz.prog 100 x.1 x.2:=fun x hx=>by
 simp only[List.mem_cons,List.not_mem_nil,or_false]at hx
 rcases hx with rfl|rfl|rfl
 ·exact h1
 ·exact h2
 ·exact h3
def rZl:Lv:=(lM PZ).map fun v=>match v with | .iface _ _ => .slice none 0 0|v=>v
def rZ:Option AA:=some (.cells rZl 51 52 false true)
def rZk(b z:Int):Option AA:=some (.cells ((rZl.set 0 (.int .u8 b)).set 1 (.int .u32 z)) 51 52 false true)
end
end Go.Proofs.Ob
namespace Go.Proofs.Ob
open Go Go.Abs Go.Tlv
end Go.Proofs.Ob
namespace Go.Proofs.Ob
open Go Go.Abs Go.Tlv
noncomputable section
end
end Go.Proofs.Ob
namespace Go.Tlv
end Go.Tlv
namespace Go.Proofs.Ob
open Go Go.Abs Go.Tlv
noncomputable section
theorem p8:(2:Nat) ^ 8=256:=by decide +kernel
end
end Go.Proofs.Ob
