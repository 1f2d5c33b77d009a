/- The laws ProtoXid and ProtoUnlike: what the code asks, and what it comes to. -/
import Derived.Test.YtblbaohcelldpaaGreatDoorQ4
import Derived.Test.YtblbaohcelldpaaGreatDoorQC
import Derived.Test.YtblbaohcelldpaaGreatDoorN1
import Derived.Test.YtblbaohcelldpaaGreatDoorWE
set_option linter.all false
namespace Go.Proofs.YtblbaohcelldpaaGreatDoor.Ob
open Go Go.Abs Go.Tlv
set_option maxRecDepth 100000
noncomputable section
def sumL(x:OMsg):Nat:=min 20000 x.a9.data.toList.length+x.n.arms.length+x.t.keys.length+x.e.args.length+x.b.code.length+x.g.bks.length+x.a10.length
def longB(x:OMsg):Bool:=decide (20000<=sumL x)||(decide (2000<x.e.key.data.toList.length)||decide (2000<x.e.oth.data.toList.length))
theorem longC{x:OMsg}(hx:lnP x):Is (gLong (real Tryz.prog) x (fun v=>v = .bool (longB x))):=by
 refine⟨?_⟩
 rw[gLong_eq]
 obtain⟨h1,h2,h3,h4,h5,h6⟩:=hx
 refine n_slen (n_minI ?_)
 have e:(if (x.a9.data.toList.length:Int)<20000 then(x.a9.data.toList.length:Int)else 20000)=((min 20000 x.a9.data.toList.length:Nat):Int):=by
  split<;>omega
 rw[e]
 have hm:min 20000 x.a9.data.toList.length<=20000:=Nat.min_le_left _ _
 have hs:sumL x=min 20000 x.a9.data.toList.length+x.n.arms.length+x.t.keys.length+x.e.args.length+x.b.code.length+x.g.bks.length+x.a10.length:=rfl
 generalize min 20000 x.a9.data.toList.length=q at hm hs
 refine n_dlen _ (rowsOf_len _ _) (n_add (by omega) (by omega) (n_dlen _ (rowsOf_len _ _) (n_add (by omega) (by omega) (n_dlen _ (rowsOf_len _ _) (n_add (by omega) (by omega) (n_dlen _ (rowsOf_len _ _) (n_add (by omega) (by omega) (n_dlen _ (rowsOf_len _ _) (n_add (by omega) (by omega) (n_dlen _ (rowsOf_len _ _) (n_add (by omega) (by omega) ?_)))))))))))
 refine n_geq (fun h=>?_) (fun h=>n_slen (n_gtr (fun h2=>?_) (fun h2=>n_slen (n_gtr (fun h3=>?_) (fun h3=>?_)))))
 ·unfold longB;rw[decide_eq_true (show 20000<=sumL x by omega)];rfl
 ·unfold longB;rw[decide_eq_true (show 2000<x.e.key.data.toList.length by omega)];simp
 ·unfold longB;rw[decide_eq_true (show 2000<x.e.oth.data.toList.length by omega)];simp
 ·unfold longB;rw[decide_eq_false (show ¬20000<=sumL x by omega),decide_eq_false (show ¬2000<x.e.key.data.toList.length by omega),decide_eq_false (show ¬2000<x.e.oth.data.toList.length by omega)];rfl
abbrev ML1:=Value->Prop->Prop->Prop
def sL1(M:ML1):List Value->(Value->Prop)->Prop
 | [a],K=>M a (K (.bool true)) (K (.bool false))
 |_,_=>False
def sAw:List Value->(Value->Prop)->Prop
 | [],K=>K (.bool true)
 |_,_=>False
theorem puAw:PuOk Tryz.prog 100 11 sAw:=by
 intro args K h
 unfold sAw at h
 split at h<;>try exact h.elim
 exact⟨_,awakeH,h⟩
def MLr1:ML1:=fun a A E=>∃x:OMsg,a=vMsg x/\lnP x/\(longB x=true->A)/\(longB x=false->E)
theorem puL1:PuOk Tryz.prog 100 23 (sL1 MLr1):=by
 intro args K h
 unfold sL1 at h
 split at h<;>try exact h.elim
 obtain⟨x,rfl,hx,hA,hE⟩:=h
 refine⟨.bool (longB x),fun B H=>pu_mkV okp kn_none lp_none rfl (longC hx) B H,?_⟩
 cases hb:longB x with
 |true=>exact hA hb
 |false=>exact hE hb
abbrev ME1:=Value->(ByteArray->Int->Prop)->Prop
def sE1(M:ME1):List Value->(Value->Prop)->Prop
 | [a],K=>M a fun s e=>K (encT s e)
 |_,_=>False
def MEr1:ME1:=fun a K=>∃x:OMsg,a=vMsg x/\okP x/\K (bytesOf (bodyM x)) (errM x:Int)
theorem puE1:PuOk Tryz.prog 100 16 (sE1 MEr1):=by
 intro args K h
 unfold sE1 at h
 split at h<;>try exact h.elim
 obtain⟨x,rfl,hx,hK⟩:=h
 exact⟨_,encH hx,hK⟩
def MMr1:ML1:=fun a A E=>∃x:OMsg,a=vMsg x/\okP x/\(mayM x=true->A)/\(mayM x=false->E)
theorem puM1:PuOk Tryz.prog 100 18 (sL1 MMr1):=by
 intro args K h
 unfold sL1 at h
 split at h<;>try exact h.elim
 obtain⟨x,rfl,hx,hA,hE⟩:=h
 refine⟨.bool (mayM x),mayH hx,?_⟩
 cases hb:mayM x with
 |true=>exact hA hb
 |false=>exact hE hb
theorem ok_of{x:OMsg}(h:longB x=false)(hr:rgP x):okP x:=by
 unfold longB at h
 simp only[Bool.or_eq_false_iff,decide_eq_false_iff_not]at h
 have h1:=h.1
 unfold sumL at h1
 obtain⟨rn,rf,rt,re,rb,rg,rm,rr⟩:=hr.m
 exact⟨hr.a0,hr.a1,hr.a7,hr.a8,by omega,hr.w,⟨by unfold fitNode;omega,trivial⟩,⟨trivial,trivial⟩,⟨by unfold fitTable;omega,trivial⟩,⟨by unfold fitEntry;omega,re.1,re.2.1⟩,
  ⟨by unfold fitBlock;omega,fun y hy=>⟨(rb y hy).2.2.1,(rb y hy).2.2.2.2⟩⟩,⟨by unfold fitGroup;omega,rg.2⟩,⟨trivial,trivial⟩,⟨trivial,trivial⟩⟩
def gHead(N:Nd)(k z:Int)(K:Value->Prop):Prop:=wpe Tryz.prog N (howOf Z0 Zp [] [] [] []) 300 (.call 27 [(.int .u8 k),(.int .u32 z)] h0) (retV K)
theorem gHead_eq(N:Nd)(k z:Int)(K:Value->Prop):gHead N k z K=N.ari .quo .u32 z .u32 16777216 fun q1=>N.conv 27 5 .u32 q1 .u8 fun b1=>N.ari .quo .u32 z .u32 65536 fun q2=>N.ari .rem .u32 q2 .u32 256 fun r2=>N.conv 27 5 .u32 r2 .u8 fun b2=>N.ari .quo .u32 z .u32 256 fun q3=>N.ari .rem .u32 q3 .u32 256 fun r3=>N.conv 27 5 .u32 r3 .u8 fun b3=>N.ari .rem .u32 z .u32 256 fun r4=>N.conv 27 5 .u32 r4 .u8 fun b4=>N.str [k,b1,b2,b3,b4] fun s=>K (.string s):=by kernel_rfl
def hdB(k z:Nat):List UInt8:=[UInt8.ofNat k,UInt8.ofNat (z / 16777216 % 256),UInt8.ofNat (z / 65536 % 256),UInt8.ofNat (z / 256 % 256),UInt8.ofNat (z % 256)]
theorem n_quo32{m d:Nat}{K:Int->Prop}(hd:0<d)(hm:m<4294967296)(hk:K ((m / d:Nat):Int)):(real Tryz.prog).ari .quo .u32 (m:Int) .u32 (d:Int) K:=by
 refine⟨((m / d:Nat):Int),?_,hk⟩
 have hlt:m / d<4294967296:=Nat.lt_of_le_of_lt (Nat.div_le_self _ _) hm
 have e:IntKind.u32.wrap ((m:Int).tdiv (d:Int))=((m / d:Nat):Int):=by
  rw[←Int.ofNat_tdiv]
  generalize m / d=q at hlt ⊢
  simp[IntKind.wrap,IntKind.signed,IntKind.bits];omega
 have hne:¬((d:Int)=0):=by omega
 simp only[intBin,e,decide_eq_false hne];rfl
theorem headC(k z:Nat)(hk:k<256)(hz:z<4294967296):Is (gHead (real Tryz.prog) (k:Int) (z:Int) (fun v=>v = .string (bytesOf (hdB k z)))):=by
 refine⟨?_⟩
 rw[gHead_eq]
 refine n_quo32 (d:=16777216) (by omega) hz (n_toU8 t27 t5 (n_quo32 (d:=65536) (by omega) hz (n_remN (d:=256) (by omega) (n_toU8 t27 t5 (n_quo32 (d:=256) (by omega) hz (n_remN (d:=256) (by omega) (n_toU8 t27 t5 (n_remN (d:=256) (by omega) (n_toU8 t27 t5 (n_str ?_))))))))))
 simp only[List.map_cons,List.map_nil,Int.toNat_natCast,Nat.mod_mod]
 rfl
abbrev MHd:=Int->Int->(ByteArray->Prop)->Prop
def sHd(M:MHd):List Value->(Value->Prop)->Prop
 | [.int .u8 k,.int .u32 z],K=>M k z fun s=>K (.string s)
 |_,_=>False
def MHr:MHd:=fun a b K=>∃k z:Nat,a=k/\b=z/\k<256/\z<4294967296/\K (bytesOf (hdB k z))
theorem puHd:PuOk Tryz.prog 100 27 (sHd MHr):=by
 intro args K h
 unfold sHd at h
 split at h<;>try exact h.elim
 obtain⟨k,z,rfl,rfl,hk,hz,hK⟩:=h
 exact⟨_,fun B H=>pu_mkV okp kn_none lp_none rfl (headC k z hk hz) B H,hK⟩
def gXid(N:Nd)(MG:ML1)(ME:ME1)(MH:MHd)(x:OMsg)(xid:Nat)(K:Value->Prop):Prop:=wpe Tryz.prog N (howOf Z0 Zp [] [] [(23,sL1 MG),(11,sAw),(16,sE1 ME),(27,sHd MH)] []) 300 (.call 7 [vMsg x,.int .u32 (xid:Int)] h0) (retV K)
def badX(N:Nd)(s t:ByteArray)(e f:Int)(KT KF:Prop):Prop:=N.cmp .eql .i64 e .i64 f (N.cmp .neq .i64 e .i64 0 (N.scmp .eql s (bytesOf []) (N.scmp .eql t (bytesOf []) KT KF) KF) KF) KF
theorem gXid_eq(N:Nd)(MG:ML1)(ME:ME1)(MH:MHd)(x:OMsg)(xid:Nat)(K:Value->Prop):gXid N MG ME MH x xid K=MG (vMsg x) (K (.bool true)) (ME (vMsg x) fun s e=>ME (vMsg {x with a1:=xid}) fun t f=>N.cmp .neq .i64 e .i64 f (badX N s t e f (K (.bool true)) (K (.bool false))) (N.slen s fun n=>N.slen t fun m=>N.cmp .neq .i64 n .i64 m (badX N s t e f (K (.bool true)) (K (.bool false))) (N.cmp .neq .i64 e .i64 0 (badX N s t e f (K (.bool true)) (K (.bool false)))
 (N.slen s fun n=>N.cmp .geq .i64 n .i64 5 (MH (x.a0:Int) (xid:Int) fun h=>N.ssl s (some 5) none fun s5=>N.cat h s5 fun r=>N.scmp .eql t r (N.ssl s none (some 5) fun sh=>MH (x.a0:Int) (x.a1:Int) fun h2=>N.scmp .eql sh h2 (K (.bool true)) (K (.bool false))) (K (.bool false))) (K (.bool false)))))):=by kernel_rfl
def gUnl(N:Nd)(MG:ML1)(ME:ME1)(MM:ML1)(MS:MSm)(x y:OMsg)(K:Value->Prop):Prop:=wpe Tryz.prog N (howOf Z0 Zp [] [] [(23,sL1 MG),(11,sAw),(16,sE1 ME),(18,sL1 MM),(30,sSm MS)] []) 300 (.call 10 [vMsg x,vMsg y] h0) (retV K)
def badU(N:Nd)(MM:ML1)(x:OMsg)(s t:ByteArray)(e f:Int)(KT KF:Prop):Prop:=
 let R:=N.cmp .neq .i64 e .i64 3 KT (MM (vMsg x) KF KT)
 let Q:=N.cmp .eql .i64 f .i64 0 R (N.scmp .eql t (bytesOf []) R KF)
 N.cmp .eql .i64 e .i64 0 Q (N.scmp .eql s (bytesOf []) Q KF)
def goodU(N:Nd)(MS:MSm)(x y:OMsg)(s t:ByteArray)(KT KF:Prop):Prop:=
 let Z:=MS (vMsg x) (vMsg y) (MS (vMsg y) (vMsg x) (N.bcmp .eql true true KT KF) (N.bcmp .eql true false KT KF)) (MS (vMsg y) (vMsg x) (N.bcmp .eql false true KT KF) (N.bcmp .eql false false KT KF))
 N.scmp .eql s t (MS (vMsg x) (vMsg y) (N.bcmp .eql true true Z KF) (N.bcmp .eql true false Z KF)) (MS (vMsg x) (vMsg y) (N.bcmp .eql false true Z KF) (N.bcmp .eql false false Z KF))
theorem gUnl_eq(N:Nd)(MG:ML1)(ME:ME1)(MM:ML1)(MS:MSm)(x y:OMsg)(K:Value->Prop):gUnl N MG ME MM MS x y K=MG (vMsg x) (K (.bool true)) (MG (vMsg y) (K (.bool true)) (ME (vMsg x) fun s e=>ME (vMsg y) fun t f=>N.cmp .neq .i64 e .i64 0 (badU N MM x s t e f (K (.bool true)) (K (.bool false))) (N.cmp .neq .i64 f .i64 0 (badU N MM x s t e f (K (.bool true)) (K (.bool false))) (goodU N MS x y s t (K (.bool true)) (K (.bool false)))))):=by kernel_rfl
theorem putM_xid(x:OMsg)(z:Nat):putM {x with a1:=z}=putM x:=by
 funext t;unfold putM;split<;>rfl
theorem isM_xid(x:OMsg)(z:Nat):isM {x with a1:=z}=isM x:=by
 funext t;unfold isM;split<;>rfl
theorem attsM_xid(x:OMsg)(z:Nat):attsM {x with a1:=z}=attsM x:=by unfold attsM;rw[putM_xid]
theorem mayM_xid(x:OMsg)(z:Nat):mayM {x with a1:=z}=mayM x:=by
 unfold mayM allM goM;rw[putM_xid,isM_xid]
theorem errM_xid(x:OMsg)(z:Nat):errM {x with a1:=z}=errM x:=by unfold errM;rw[attsM_xid,mayM_xid]
theorem bodyM_xid(x:OMsg)(z:Nat):bodyM {x with a1:=z}=if errM x=0 then hdB x.a0 z++encS (attsM x)else[]:=by
 unfold bodyM;rw[errM_xid,attsM_xid];rfl
theorem okP_xid{x:OMsg}(h:okP x){z:Nat}(hz:z<4294967296):okP {x with a1:=z}:=⟨h.a0,hz,h.a7,h.a8,h.w,h.wn,h.n,h.f,h.t,h.e,h.b,h.g,h.m,h.r⟩
theorem xidC{x:OMsg}{z:Nat}(hl:lnP x)(hr:rgP x)(hz:z<4294967296):Is (gXid (real Tryz.prog) MLr1 MEr1 MHr x z (fun v=>v = .bool true)):=by
 refine⟨?_⟩
 rw[gXid_eq]
 refine⟨x,rfl,hl,fun _=>rfl,fun hb=>⟨x,rfl,ok_of hb hr,{x with a1:=z},rfl,okP_xid (ok_of hb hr) hz,?_⟩⟩
 have e1:=errM_xid x z
 have e2:=bodyM_xid x z
 rw[e1,e2]
 dsimp only
 by_cases he:errM x=0
 ·have hbx:bodyM x=hdB x.a0 x.a1++encS (attsM x):=by unfold bodyM;rw[if_pos he];rfl
  rw[if_pos he,hbx]
  have hlen:=(errM_0 he).2.2
  have h5:∀w,(hdB x.a0 w).length=5:=fun w=>rfl
  refine n_neN (fun h=>absurd rfl h) (fun _=>n_slen (n_slen (n_neN (fun h=>absurd ?_ h) (fun _=>n_neN (d:=0) (fun h=>absurd he h) (fun _=>n_slen (n_geq (fun _=>?_) (fun h=>absurd ?_ h)))))))
  ·simp only[bytes_toList,List.length_append,h5]
  ·refine⟨x.a0,z,rfl,rfl,hr.a0,hz,n_ssl_from 5 rfl ?_ (n_cat ?_ (n_scmp_eq (fun _=>n_ssl_to 5 rfl ?_ ⟨x.a0,x.a1,rfl,rfl,hr.a0,hr.a1,n_scmp_eq (fun _=>rfl) (fun h=>absurd ?_ h)⟩) (fun h=>absurd ?_ h)))⟩
   ·simp only[bytes_toList,List.length_append,h5];omega
   ·simp only[bytes_toList,List.length_append,List.length_drop,h5];omega
   ·simp only[bytes_toList,List.length_append,h5];omega
   ·simp only[bytes_toList];exact List.take_left' (h5 _)
   ·simp only[bytes_toList];rw[List.drop_left' (h5 _)]
  ·simp only[bytes_toList,List.length_append,h5];omega
 ·have hbx:bodyM x=[]:=by unfold bodyM;rw[if_neg he]
  rw[if_neg he,hbx]
  have bad:badX (real Tryz.prog) (bytesOf []) (bytesOf []) (errM x:Int) (errM x:Int) ((Value.bool true) = .bool true) ((Value.bool false) = .bool true):=
   n_eqN (fun _=>n_neN (d:=0) (fun _=>n_scmp_eq (fun _=>n_scmp_eq (fun _=>rfl) (fun h=>absurd rfl h)) (fun h=>absurd rfl h)) (fun h=>absurd h he)) (fun h=>absurd rfl h)
  exact n_neN (fun h=>absurd rfl h) (fun _=>n_slen (n_slen (n_neN (fun h=>absurd rfl h) (fun _=>n_neN (d:=0) (fun _=>bad) (fun h=>absurd h he)))))
theorem bc{op:Bool}{X Y:Prop}{a b:Bool}(h1:a=b->X)(h2:a≠b->Y):(real Tryz.prog).bcmp .eql a b X Y := .inl ⟨rfl,fun h=>h1 (by simpa using h),fun h=>h2 (by simpa using h)⟩
theorem unlC{x y:OMsg}(hl:lnP x)(hl2:lnP y)(hr:rgP x)(hr2:rgP y):Is (gUnl (real Tryz.prog) MLr1 MEr1 MMr1 (MSmr vMsg okP Eq) x y (fun v=>v = .bool true)):=by
 refine⟨?_⟩
 rw[gUnl_eq]
 refine⟨x,rfl,hl,fun _=>rfl,fun hb=>⟨y,rfl,hl2,fun _=>rfl,fun hb2=>⟨x,rfl,ok_of hb hr,y,rfl,ok_of hb2 hr2,?_⟩⟩⟩
 have ox:=ok_of hb hr
 have oy:=ok_of hb2 hr2
 have bad:badU (real Tryz.prog) MMr1 x (bytesOf (bodyM x)) (bytesOf (bodyM y)) (errM x:Int) (errM y:Int) ((Value.bool true) = .bool true) ((Value.bool false) = .bool true):=by
  have R:(real Tryz.prog).cmp .neq .i64 (errM x:Int) .i64 (3:Int) ((Value.bool true) = .bool true) (MMr1 (vMsg x) ((Value.bool false) = .bool true) ((Value.bool true) = .bool true)):=
   n_neN (d:=3) (fun _=>rfl) (fun h=>by
    have hm:=errM_3.1 (show errM x=3 from h)
    exact⟨x,rfl,ox,fun h2=>(by rw[hm]at h2;cases h2),fun _=>rfl⟩)
  have nil:∀z:OMsg,errM z≠0->bodyM z=[]:=fun z h=>by unfold bodyM;rw[if_neg h]
  have Q:(real Tryz.prog).cmp .eql .i64 (errM y:Int) .i64 (0:Int) ((real Tryz.prog).cmp .neq .i64 (errM x:Int) .i64 (3:Int) ((Value.bool true) = .bool true) (MMr1 (vMsg x) ((Value.bool false) = .bool true) ((Value.bool true) = .bool true)))
    ((real Tryz.prog).scmp .eql (bytesOf (bodyM y)) (bytesOf []) ((real Tryz.prog).cmp .neq .i64 (errM x:Int) .i64 (3:Int) ((Value.bool true) = .bool true) (MMr1 (vMsg x) ((Value.bool false) = .bool true) ((Value.bool true) = .bool true))) ((Value.bool false) = .bool true)):=
   n_eqN (d:=0) (fun _=>R) (fun h=>n_scmp_eq (fun _=>R) (fun h2=>absurd (by rw[nil y h]) h2))
  exact n_eqN (d:=0) (fun _=>Q) (fun h=>n_scmp_eq (fun _=>Q) (fun h2=>absurd (by rw[nil x h]) h2))
 refine n_neN (d:=0) (fun _=>bad) (fun ex=>n_neN (d:=0) (fun _=>bad) (fun ey=>?_))
 have hi:=body_inj hr hr2 ex ey
 have Z:∀a:Bool,(a=true↔x=y)->MSmr vMsg okP Eq (vMsg y) (vMsg x) ((real Tryz.prog).bcmp .eql a true ((Value.bool true) = .bool true) ((Value.bool false) = .bool true)) ((real Tryz.prog).bcmp .eql a false ((Value.bool true) = .bool true) ((Value.bool false) = .bool true)):=fun a ha=>
  ⟨y,x,rfl,rfl,oy,ox,fun h=>bc (op:=true) (fun _=>rfl) (fun h2=>absurd (ha.2 h.symm) h2),fun h=>bc (op:=true) (fun _=>rfl) (fun h2=>absurd (by cases a;rfl;exact absurd (ha.1 rfl).symm h) h2)⟩
 have ZZ:MSmr vMsg okP Eq (vMsg x) (vMsg y) _ _:=⟨x,y,rfl,rfl,ox,oy,fun h=>Z true ⟨fun _=>h,fun _=>rfl⟩,fun h=>Z false ⟨fun e=>(by cases e),fun e=>absurd e h⟩⟩
 refine n_scmp_eq (fun h=>?_) (fun h=>?_)
 ·have hs:x=y:=hi.1 h
  exact⟨x,y,rfl,rfl,ox,oy,fun _=>bc (op:=true) (fun _=>ZZ) (fun h=>absurd rfl h),fun h=>absurd hs h⟩
 ·have hs:x≠y:=fun e=>h (hi.2 e)
  exact⟨x,y,rfl,rfl,ox,oy,fun h=>absurd h hs,fun _=>bc (op:=true) (fun _=>ZZ) (fun h=>absurd rfl h)⟩
theorem puSm:PuOk Tryz.prog 100 30 (sSm (MSmr vMsg okP Eq)):=pu_sm fun x y hx _=>pSameH x y hx
theorem pu4{a b c d:FuncId×(List Value->(Value->Prop)->Prop)}(h1:PuOk Tryz.prog 100 a.1 a.2)(h2:PuOk Tryz.prog 100 b.1 b.2)(h3:PuOk Tryz.prog 100 c.1 c.2)(h4:PuOk Tryz.prog 100 d.1 d.2):∀x∈[a,b,c,d],PuOk Tryz.prog 100 x.1 x.2:=fun x hx=>by
 simp only[List.mem_cons,List.not_mem_nil,or_false]at hx
 rcases hx with rfl|rfl|rfl|rfl
 ·exact h1
 ·exact h2
 ·exact h3
 ·exact h4
theorem pu5{a b c d e:FuncId×(List Value->(Value->Prop)->Prop)}(h1:PuOk Tryz.prog 100 a.1 a.2)(h2:PuOk Tryz.prog 100 b.1 b.2)(h3:PuOk Tryz.prog 100 c.1 c.2)(h4:PuOk Tryz.prog 100 d.1 d.2)(h5:PuOk Tryz.prog 100 e.1 e.2):∀x∈[a,b,c,d,e],PuOk Tryz.prog 100 x.1 x.2:=fun x hx=>by
 simp only[List.mem_cons,List.not_mem_nil,or_false]at hx
 rcases hx with rfl|rfl|rfl|rfl|rfl
 ·exact h1
 ·exact h2
 ·exact h3
 ·exact h4
 ·exact h5
theorem lawXid{x:OMsg}{z:Nat}(hl:lnP x)(hr:rgP x)(hz:z<4294967296)(B:Base)(H:Heap):CallH Tryz.prog 100 B 7 [vMsg x,.int .u32 (z:Int)] H (.returned (.bool true)) H:=
 pu_mkV okp (kn_pu (pu4 puL1 puAw puE1 puHd)) lp_none rfl (xidC hl hr hz) B H
theorem lawUnl{x y:OMsg}(hl:lnP x)(hl2:lnP y)(hr:rgP x)(hr2:rgP y)(B:Base)(H:Heap):CallH Tryz.prog 100 B 10 [vMsg x,vMsg y] H (.returned (.bool true)) H:=
 pu_mkV okp (kn_pu (pu5 puL1 puAw puE1 puM1 puSm)) lp_none rfl (unlC hl hl2 hr hr2) B H
end
end Go.Proofs.YtblbaohcelldpaaGreatDoor.Ob
namespace Go.Proofs.YtblbaohcelldpaaGreatDoor.Ob
open Go Go.Abs Go.Tlv
def msgK:List CK:=[.int .u8,.int .u32,.int .i64,.int .i64,.int .i64,.int .i64,.int .i64,.int .u64,.int .u64,.str,.sl 29,.int .i64,.int .i64,.int .i64,.int .i64,.int .i64,.int .i64,.int .i64,.sl 30,.int .i64,.int .i64,.int .u8,.int .i64,.int .i64,.int .i64,.int .i64,.int .u8,.sl 35,.int .i64,.int .i64,.int .i64,.str,.str,.int .i64,.int .i64,.int .i64,.sl 29,.int .i64,.int .i64,.int .u64,.bool,.int .i64,.sl 40,.int .i64,.int .u8,.int .i64,.sl 43,.int .i64,.int .i64,.int .i64,.int .i64,.int .i64]
theorem msgK_eq:flatK Tryz.prog 3 51=some msgK:=by kernel_rfl
theorem wf_i64{z:Int}(h:(Lit.int .i64 z).wf=true):z<=9223372036854775807:=by
 simp[Lit.wf,IntKind.min,IntKind.max,IntKind.signed,IntKind.bits]at h
 omega
theorem wf_i64b{z:Int}(h:(Lit.int .i64 z).wf=true) : -9223372036854775808<=z/\z<=9223372036854775807:=by
 simp[Lit.wf,IntKind.min,IntKind.max,IntKind.signed,IntKind.bits]at h
 omega
section
variable {H:Type} {enc:TypeId×Value->H} {W:World} {r:List Value}
theorem cks_nat(h:CksOk enc Tryz.prog W 0 (fun _=>true) true [.int .u64] r):∃x:Nat,r=cNat x/\wfNat x:=by
 obtain⟨_,r0,rfl,⟨z0,rfl,w0⟩,h⟩:=h
 simp only[CksOk]at h
 subst h
 obtain⟨m0,rfl,b0⟩:=wf_u64 w0
 exact⟨m0,rfl,b0⟩
theorem cks_nat_pl(h:CksOk enc Tryz.prog W 0 (fun _=>true) true [.int .u64] r):plainL r=true:=by
 obtain⟨_,r0,rfl,⟨z0,rfl,w0⟩,h⟩:=h
 simp only[CksOk]at h
 subst h
 rfl
theorem cks_int(h:CksOk enc Tryz.prog W 0 (fun _=>true) true [.int .i64] r):∃x:Int,r=cInt x/\wfInt x:=by
 obtain⟨_,r0,rfl,⟨z0,rfl,w0⟩,h⟩:=h
 simp only[CksOk]at h
 subst h
 exact⟨z0,rfl,trivial⟩
theorem cks_int_pl(h:CksOk enc Tryz.prog W 0 (fun _=>true) true [.int .i64] r):plainL r=true:=by
 obtain⟨_,r0,rfl,⟨z0,rfl,w0⟩,h⟩:=h
 simp only[CksOk]at h
 subst h
 rfl
theorem cks_arm(h:CksOk enc Tryz.prog W 0 (fun _=>true) true [.int .u32,.int .i64] r):∃x:Arm,r=cArm x/\rgArm x:=by
 obtain⟨_,r0,rfl,⟨z0,rfl,w0⟩,h⟩:=h
 obtain⟨_,r1,rfl,⟨z1,rfl,w1⟩,h⟩:=h
 simp only[CksOk]at h
 subst h
 obtain⟨m0,rfl,b0⟩:=wf_u32 w0
 exact⟨⟨m0,z1⟩,rfl,b0⟩
theorem cks_arm_pl(h:CksOk enc Tryz.prog W 0 (fun _=>true) true [.int .u32,.int .i64] r):plainL r=true:=by
 obtain⟨_,r0,rfl,⟨z0,rfl,w0⟩,h⟩:=h
 obtain⟨_,r1,rfl,⟨z1,rfl,w1⟩,h⟩:=h
 simp only[CksOk]at h
 subst h
 rfl
theorem cks_instr(h:CksOk enc Tryz.prog W 0 (fun _=>true) true [.int .u8,.int .i64,.int .u8,.int .u64,.int .u8,.int .u64,.int .i64] r):∃x:Instr,r=cInstr x/\rgInstr x:=by
 obtain⟨_,r0,rfl,⟨z0,rfl,w0⟩,h⟩:=h
 obtain⟨_,r1,rfl,⟨z1,rfl,w1⟩,h⟩:=h
 obtain⟨_,r2,rfl,⟨z2,rfl,w2⟩,h⟩:=h
 obtain⟨_,r3,rfl,⟨z3,rfl,w3⟩,h⟩:=h
 obtain⟨_,r4,rfl,⟨z4,rfl,w4⟩,h⟩:=h
 obtain⟨_,r5,rfl,⟨z5,rfl,w5⟩,h⟩:=h
 obtain⟨_,r6,rfl,⟨z6,rfl,w6⟩,h⟩:=h
 simp only[CksOk]at h
 subst h
 obtain⟨m0,rfl,b0⟩:=wf_u8 w0
 obtain⟨m2,rfl,b2⟩:=wf_u8 w2
 obtain⟨m3,rfl,b3⟩:=wf_u64 w3
 obtain⟨m4,rfl,b4⟩:=wf_u8 w4
 obtain⟨m5,rfl,b5⟩:=wf_u64 w5
 exact⟨⟨m0,z1,m2,m3,m4,m5,z6⟩,rfl,b0,b2,b3,b4,b5⟩
theorem cks_instr_pl(h:CksOk enc Tryz.prog W 0 (fun _=>true) true [.int .u8,.int .i64,.int .u8,.int .u64,.int .u8,.int .u64,.int .i64] r):plainL r=true:=by
 obtain⟨_,r0,rfl,⟨z0,rfl,w0⟩,h⟩:=h
 obtain⟨_,r1,rfl,⟨z1,rfl,w1⟩,h⟩:=h
 obtain⟨_,r2,rfl,⟨z2,rfl,w2⟩,h⟩:=h
 obtain⟨_,r3,rfl,⟨z3,rfl,w3⟩,h⟩:=h
 obtain⟨_,r4,rfl,⟨z4,rfl,w4⟩,h⟩:=h
 obtain⟨_,r5,rfl,⟨z5,rfl,w5⟩,h⟩:=h
 obtain⟨_,r6,rfl,⟨z6,rfl,w6⟩,h⟩:=h
 simp only[CksOk]at h
 subst h
 rfl
theorem cks_bucket(h:CksOk enc Tryz.prog W 0 (fun _=>true) true [.int .u64,.int .i64] r):∃x:Bucket,r=cBucket x/\rgBucket x:=by
 obtain⟨_,r0,rfl,⟨z0,rfl,w0⟩,h⟩:=h
 obtain⟨_,r1,rfl,⟨z1,rfl,w1⟩,h⟩:=h
 simp only[CksOk]at h
 subst h
 obtain⟨m0,rfl,b0⟩:=wf_u64 w0
 exact⟨⟨m0,z1⟩,rfl,b0⟩
theorem cks_bucket_pl(h:CksOk enc Tryz.prog W 0 (fun _=>true) true [.int .u64,.int .i64] r):plainL r=true:=by
 obtain⟨_,r0,rfl,⟨z0,rfl,w0⟩,h⟩:=h
 obtain⟨_,r1,rfl,⟨z1,rfl,w1⟩,h⟩:=h
 simp only[CksOk]at h
 subst h
 rfl
end
set_option maxRecDepth 100000 in
set_option maxHeartbeats 4000000 in
theorem msg_of{H:Type}{enc:TypeId×Value->H}{W:World}{cs1:List Value}(h1:CksOk enc Tryz.prog W 0 (fun _=>true) true msgK cs1):
  ∃x:OMsg,VR (deepN W) (vMsg x) (.agg ⟨cs1⟩)/\lnP x/\rgP x:=by
 unfold msgK at h1
 obtain⟨_,rr0,rfl,⟨a0,rfl,w0⟩,h1⟩:=h1
 obtain⟨_,rr1,rfl,⟨a1,rfl,w1⟩,h1⟩:=h1
 obtain⟨_,rr2,rfl,⟨a2,rfl,w2⟩,h1⟩:=h1
 obtain⟨_,rr3,rfl,⟨a3,rfl,w3⟩,h1⟩:=h1
 obtain⟨_,rr4,rfl,⟨a4,rfl,w4⟩,h1⟩:=h1
 obtain⟨_,rr5,rfl,⟨a5,rfl,w5⟩,h1⟩:=h1
 obtain⟨_,rr6,rfl,⟨a6,rfl,w6⟩,h1⟩:=h1
 obtain⟨_,rr7,rfl,⟨a7,rfl,w7⟩,h1⟩:=h1
 obtain⟨_,rr8,rfl,⟨a8,rfl,w8⟩,h1⟩:=h1
 obtain⟨_,rr9,rfl,⟨a9,rfl,_⟩,h1⟩:=h1
 obtain⟨v10,rr10,rfl,s10,h1⟩:=h1
 obtain⟨_,rr11,rfl,⟨n_id,rfl,w11⟩,h1⟩:=h1
 obtain⟨_,rr12,rfl,⟨n_size,rfl,w12⟩,h1⟩:=h1
 obtain⟨_,rr13,rfl,⟨n_lo,rfl,w13⟩,h1⟩:=h1
 obtain⟨_,rr14,rfl,⟨n_lw,rfl,w14⟩,h1⟩:=h1
 obtain⟨_,rr15,rfl,⟨n_lu,rfl,w15⟩,h1⟩:=h1
 obtain⟨_,rr16,rfl,⟨n_so,rfl,w16⟩,h1⟩:=h1
 obtain⟨_,rr17,rfl,⟨n_sw,rfl,w17⟩,h1⟩:=h1
 obtain⟨v18,rr18,rfl,s18,h1⟩:=h1
 obtain⟨_,rr19,rfl,⟨n_ot,rfl,w19⟩,h1⟩:=h1
 obtain⟨_,rr20,rfl,⟨f_id,rfl,w20⟩,h1⟩:=h1
 obtain⟨_,rr21,rfl,⟨f_base,rfl,w21⟩,h1⟩:=h1
 obtain⟨_,rr22,rfl,⟨f_node,rfl,w22⟩,h1⟩:=h1
 obtain⟨_,rr23,rfl,⟨f_off,rfl,w23⟩,h1⟩:=h1
 obtain⟨_,rr24,rfl,⟨f_wid,rfl,w24⟩,h1⟩:=h1
 obtain⟨_,rr25,rfl,⟨t_id,rfl,w25⟩,h1⟩:=h1
 obtain⟨_,rr26,rfl,⟨t_kind,rfl,w26⟩,h1⟩:=h1
 obtain⟨v27,rr27,rfl,s27,h1⟩:=h1
 obtain⟨_,rr28,rfl,⟨t_cap,rfl,w28⟩,h1⟩:=h1
 obtain⟨_,rr29,rfl,⟨t_miss,rfl,w29⟩,h1⟩:=h1
 obtain⟨_,rr30,rfl,⟨e_tab,rfl,w30⟩,h1⟩:=h1
 obtain⟨_,rr31,rfl,⟨e_key,rfl,_⟩,h1⟩:=h1
 obtain⟨_,rr32,rfl,⟨e_oth,rfl,_⟩,h1⟩:=h1
 obtain⟨_,rr33,rfl,⟨e_len,rfl,w33⟩,h1⟩:=h1
 obtain⟨_,rr34,rfl,⟨e_prio,rfl,w34⟩,h1⟩:=h1
 obtain⟨_,rr35,rfl,⟨e_blk,rfl,w35⟩,h1⟩:=h1
 obtain⟨v36,rr36,rfl,s36,h1⟩:=h1
 obtain⟨_,rr37,rfl,⟨e_idle,rfl,w37⟩,h1⟩:=h1
 obtain⟨_,rr38,rfl,⟨e_hard,rfl,w38⟩,h1⟩:=h1
 obtain⟨_,rr39,rfl,⟨e_cook,rfl,w39⟩,h1⟩:=h1
 obtain⟨_,rr40,rfl,⟨e_tell,rfl⟩,h1⟩:=h1
 obtain⟨_,rr41,rfl,⟨b_id,rfl,w41⟩,h1⟩:=h1
 obtain⟨v42,rr42,rfl,s42,h1⟩:=h1
 obtain⟨_,rr43,rfl,⟨g_id,rfl,w43⟩,h1⟩:=h1
 obtain⟨_,rr44,rfl,⟨g_kind,rfl,w44⟩,h1⟩:=h1
 obtain⟨_,rr45,rfl,⟨g_fld,rfl,w45⟩,h1⟩:=h1
 obtain⟨v46,rr46,rfl,s46,h1⟩:=h1
 obtain⟨_,rr47,rfl,⟨m_id,rfl,w47⟩,h1⟩:=h1
 obtain⟨_,rr48,rfl,⟨m_rate,rfl,w48⟩,h1⟩:=h1
 obtain⟨_,rr49,rfl,⟨m_burst,rfl,w49⟩,h1⟩:=h1
 obtain⟨_,rr50,rfl,⟨r_id,rfl,w50⟩,h1⟩:=h1
 obtain⟨_,rr51,rfl,⟨r_size,rfl,w51⟩,h1⟩:=h1
 simp only[CksOk]at h1
 subst h1
 obtain⟨a0,rfl,bb0⟩:=wf_u8 w0
 obtain⟨a1,rfl,bb1⟩:=wf_u32 w1
 obtain⟨a7,rfl,bb7⟩:=wf_u64 w7
 obtain⟨a8,rfl,bb8⟩:=wf_u64 w8
 obtain⟨f_base,rfl,bb21⟩:=wf_u8 w21
 obtain⟨t_kind,rfl,bb26⟩:=wf_u8 w26
 obtain⟨e_cook,rfl,bb39⟩:=wf_u64 w39
 obtain⟨g_kind,rfl,bb44⟩:=wf_u8 w44
 obtain⟨rows10,hr10,hl10,hv10⟩:=deep_slice (ks:=[.int .u64]) (d:=3) (t:=29) (e:=28) (by kernel_rfl) (by kernel_rfl) (by kernel_rfl) (by simp) (Nat.le_of_ble_eq_true (by kernel_rfl)) (fun _ h=>cks_nat_pl h) s10
 obtain⟨a10,rfl,wl10⟩:=rows_of (c:=cNat) (wf:=wfNat) (fun r h=>cks_nat (hr10 r h))
 rw[List.length_map]at hl10
 rw[List.map_map]at hv10
 obtain⟨rows18,hr18,hl18,hv18⟩:=deep_slice (ks:=[.int .u32,.int .i64]) (d:=3) (t:=30) (e:=61) (by kernel_rfl) (by kernel_rfl) (by kernel_rfl) (by simp) (Nat.le_of_ble_eq_true (by kernel_rfl)) (fun _ h=>cks_arm_pl h) s18
 obtain⟨n_arms,rfl,wl18⟩:=rows_of (c:=cArm) (wf:=rgArm) (fun r h=>cks_arm (hr18 r h))
 rw[List.length_map]at hl18
 rw[List.map_map]at hv18
 obtain⟨rows27,hr27,hl27,hv27⟩:=deep_slice (ks:=[.int .i64]) (d:=3) (t:=35) (e:=3) (by kernel_rfl) (by kernel_rfl) (by kernel_rfl) (by simp) (Nat.le_of_ble_eq_true (by kernel_rfl)) (fun _ h=>cks_int_pl h) s27
 obtain⟨t_keys,rfl,wl27⟩:=rows_of (c:=cInt) (wf:=wfInt) (fun r h=>cks_int (hr27 r h))
 rw[List.length_map]at hl27
 rw[List.map_map]at hv27
 obtain⟨rows36,hr36,hl36,hv36⟩:=deep_slice (ks:=[.int .u64]) (d:=3) (t:=29) (e:=28) (by kernel_rfl) (by kernel_rfl) (by kernel_rfl) (by simp) (Nat.le_of_ble_eq_true (by kernel_rfl)) (fun _ h=>cks_nat_pl h) s36
 obtain⟨e_args,rfl,wl36⟩:=rows_of (c:=cNat) (wf:=wfNat) (fun r h=>cks_nat (hr36 r h))
 rw[List.length_map]at hl36
 rw[List.map_map]at hv36
 obtain⟨rows42,hr42,hl42,hv42⟩:=deep_slice (ks:=[.int .u8,.int .i64,.int .u8,.int .u64,.int .u8,.int .u64,.int .i64]) (d:=3) (t:=40) (e:=66) (by kernel_rfl) (by kernel_rfl) (by kernel_rfl) (by simp) (Nat.le_of_ble_eq_true (by kernel_rfl)) (fun _ h=>cks_instr_pl h) s42
 obtain⟨b_code,rfl,wl42⟩:=rows_of (c:=cInstr) (wf:=rgInstr) (fun r h=>cks_instr (hr42 r h))
 rw[List.length_map]at hl42
 rw[List.map_map]at hv42
 obtain⟨rows46,hr46,hl46,hv46⟩:=deep_slice (ks:=[.int .u64,.int .i64]) (d:=3) (t:=43) (e:=181) (by kernel_rfl) (by kernel_rfl) (by kernel_rfl) (by simp) (Nat.le_of_ble_eq_true (by kernel_rfl)) (fun _ h=>cks_bucket_pl h) s46
 obtain⟨g_bks,rfl,wl46⟩:=rows_of (c:=cBucket) (wf:=rgBucket) (fun r h=>cks_bucket (hr46 r h))
 rw[List.length_map]at hl46
 rw[List.map_map]at hv46
 exact⟨⟨a0,a1,a2,a3,a4,a5,a6,a7,a8,a9,a10,⟨n_id,n_size,n_lo,n_lw,n_lu,n_so,n_sw,n_arms,n_ot⟩,⟨f_id,f_base,f_node,f_off,f_wid⟩,⟨t_id,t_kind,t_keys,t_cap,t_miss⟩,⟨e_tab,e_key,e_oth,e_len,e_prio,e_blk,e_args,e_idle,e_hard,e_cook,e_tell⟩,⟨b_id,b_code⟩,⟨g_id,g_kind,g_fld,g_bks⟩,⟨m_id,m_rate,m_burst⟩,⟨r_id,r_size⟩⟩,vr_agg (vr_cons vr_int (vr_cons vr_int (vr_cons vr_int (vr_cons vr_int (vr_cons vr_int (vr_cons vr_int (vr_cons vr_int (vr_cons vr_int (vr_cons vr_int (vr_cons vr_str (vr_cons hv10 (vr_cons vr_int (vr_cons vr_int (vr_cons vr_int (vr_cons vr_int (vr_cons vr_int (vr_cons vr_int (vr_cons vr_int (vr_cons hv18 (vr_cons vr_int (vr_cons vr_int (vr_cons vr_int (vr_cons vr_int (vr_cons vr_int (vr_cons vr_int (vr_cons vr_int (vr_cons vr_int (vr_cons hv27 (vr_cons vr_int (vr_cons vr_int (vr_cons vr_int (vr_cons vr_str (vr_cons vr_str (vr_cons vr_int (vr_cons vr_int (vr_cons vr_int (vr_cons hv36 (vr_cons vr_int (vr_cons vr_int (vr_cons vr_int (vr_cons vr_bool (vr_cons vr_int (vr_cons hv42 (vr_cons vr_int (vr_cons vr_int (vr_cons vr_int (vr_cons hv46 (vr_cons vr_int (vr_cons vr_int (vr_cons vr_int (vr_cons vr_int (vr_cons vr_int vr_nil)))))))))))))))))))))))))))))))))))))))))))))))))))),⟨hl10,hl18,hl27,hl36,hl42,hl46⟩,⟨bb0,bb1,bb7,bb8,wf_i64b w2,wf_i64b w3,wf_i64b w4,wf_i64b w5,wf_i64b w6,wl10,⟨wl18,bb21,bb26,⟨wl36,bb39,wf_i64 w37,wf_i64 w38⟩,wl42,⟨bb44,wl46⟩,⟨wf_i64 w48,wf_i64 w49⟩,trivial⟩⟩⟩
theorem u32_of{H:Type}{enc:TypeId×Value->H}{W:World}{cs1:List Value}(h1:CksOk enc Tryz.prog W 0 (fun _=>true) true [.int .u32] cs1):∃n:Nat,cs1=[.int .u32 (n:Int)]/\n<4294967296:=by
 obtain⟨_,r,rfl,⟨z,rfl,w⟩,h1⟩:=h1
 simp only[CksOk]at h1
 subst h1
 obtain⟨n,rfl,hn⟩:=wf_u32 w
 exact⟨n,rfl,hn⟩
theorem laid_tab{P:Program}{w:World}{name:String}{g:Nat}{t e:TypeId}{n:Nat}{k:IntKind}(l:List Int)(hg:P.globalNamed name=some g)(ht:(P.globals[g]?).map (·.type)=some t)
  (hu:P.underlying t=some (.array n e)) (he:P.underlying e=some (.int k)) (hc:P.cellsOf e=1) (hn:n=l.length) (hct:P.cellsOf t=n) {r:List (String×DataW Unit)}
  (h:laidMet P ((name,.agg (l.map fun v => .lit (.int k v)))::r) w):∃t fz,w.heap[g]?=some (.cells (l.map (Value.int k)).toArray t fz):=by
 obtain⟨ps,⟨g0,t0,cs0,f0,p0,q0,hg0,ht0,hv0,hd0,_,_⟩,_,_⟩:=h
 obtain rfl:=Option.some.inj (hg.symm.trans hg0)
 obtain rfl:=Option.some.inj (ht.symm.trans ht0)
 have hcs:=ints_of_trod hu he hc hn hct hd0
 simp only[World.var?,hg,Option.bind_some]at hv0
 split at hv0
 ·rename_i c t' fz hb
  simp only[Option.some.injEq]at hv0;subst hv0
  exact⟨t',fz,by rw[hb,←hcs]⟩
 ·cases hv0
end Go.Proofs.YtblbaohcelldpaaGreatDoor.Ob
