/- The law ObjUnlike: what the code asks. -/
import Derived.Test.YtblbaohcelldpaaGreatU10
set_option linter.all false
namespace Go.Proofs.YtblbaohcelldpaaGreat.Ob
open Go Go.Abs Go.Tlv
set_option maxRecDepth 100000
noncomputable section
def rdM(N:Nd)(l:List Value)(K:Value->Prop):Prop:=N.rdI .u8 l 0 fun z0=>N.rdI .u32 l 1 fun z1=>N.rdI .i64 l 2 fun z2=>N.rdI .i64 l 3 fun z3=>N.rdI .i64 l 4 fun z4=>N.rdI .i64 l 5 fun z5=>N.rdI .i64 l 6 fun z6=>N.rdI .u64 l 7 fun z7=>N.rdI .u64 l 8 fun z8=>N.rdS l 9 fun z9=>N.rdD l 10 fun z10=>N.rdI .i64 l 11 fun z11=>N.rdI .i64 l 12 fun z12=>N.rdI .i64 l 13 fun z13=>N.rdI .i64 l 14 fun z14=>N.rdI .i64 l 15 fun z15=>N.rdI .i64 l 16 fun z16=>N.rdI .i64 l 17 fun z17=>N.rdD l 18 fun z18=>N.rdI .i64 l 19 fun z19=>N.rdI .i64 l 20 fun z20=>N.rdI .u8 l 21 fun z21=>N.rdI .i64 l 22 fun z22=>N.rdI .i64 l 23 fun z23=>N.rdI .i64 l 24 fun z24=>N.rdI .i64 l 25 fun z25=>N.rdI .u8 l 26 fun z26=>N.rdD l 27 fun z27=>N.rdI .i64 l 28 fun z28=>N.rdI .i64 l 29 fun z29=>N.rdI .i64 l 30 fun z30=>N.rdS l 31 fun z31=>N.rdS l 32 fun z32=>N.rdI .i64 l 33 fun z33=>N.rdI .i64 l 34 fun z34=>N.rdI .i64 l 35 fun z35=>N.rdD l 36 fun z36=>N.rdI .i64 l 37 fun z37=>N.rdI .i64 l 38 fun z38=>N.rdI .u64 l 39 fun z39=>N.rdB l 40 (N.rdI .i64 l 41 fun z41=>N.rdD l 42 fun z42=>N.rdI .i64 l 43 fun z43=>N.rdI .u8 l 44 fun z44=>N.rdI .i64 l 45 fun z45=>N.rdD l 46 fun z46=>N.rdI .i64 l 47 fun z47=>N.rdI .i64 l 48 fun z48=>N.rdI .i64 l 49 fun z49=>N.rdI .i64 l 50 fun z50=>N.rdI .i64 l 51 fun z51=>K (.agg ⟨[.int .u8 z0,.int .u32 z1,.int .i64 z2,.int .i64 z3,.int .i64 z4,.int .i64 z5,.int .i64 z6,.int .u64 z7,.int .u64 z8,.string z9,dsl z10,.int .i64 z11,.int .i64 z12,.int .i64 z13,.int .i64 z14,.int .i64 z15,.int .i64 z16,.int .i64 z17,dsl z18,.int .i64 z19,.int .i64 z20,.int .u8 z21,.int .i64 z22,.int .i64 z23,.int .i64 z24,.int .i64 z25,.int .u8 z26,dsl z27,.int .i64 z28,.int .i64 z29,.int .i64 z30,.string z31,.string z32,.int .i64 z33,.int .i64 z34,.int .i64 z35,dsl z36,.int .i64 z37,.int .i64 z38,.int .u64 z39,.bool true,.int .i64 z41,dsl z42,.int .i64 z43,.int .u8 z44,.int .i64 z45,dsl z46,.int .i64 z47,.int .i64 z48,.int .i64 z49,.int .i64 z50,.int .i64 z51]⟩)) (N.rdI .i64 l 41 fun z41=>N.rdD l 42 fun z42=>N.rdI .i64 l 43 fun z43=>N.rdI .u8 l 44 fun z44=>N.rdI .i64 l 45 fun z45=>N.rdD l 46 fun z46=>N.rdI .i64 l 47 fun z47=>N.rdI .i64 l 48 fun z48=>N.rdI .i64 l 49 fun z49=>N.rdI .i64 l 50 fun z50=>N.rdI .i64 l 51 fun z51=>K (.agg ⟨[.int .u8 z0,.int .u32 z1,.int .i64 z2,.int .i64 z3,.int .i64 z4,.int .i64 z5,.int .i64 z6,.int .u64 z7,.int .u64 z8,.string z9,dsl z10,.int .i64 z11,.int .i64 z12,.int .i64 z13,.int .i64 z14,.int .i64 z15,.int .i64 z16,.int .i64 z17,dsl z18,.int .i64 z19,.int .i64 z20,.int .u8 z21,.int .i64 z22,.int .i64 z23,.int .i64 z24,.int .i64 z25,.int .u8 z26,dsl z27,.int .i64 z28,.int .i64 z29,.int .i64 z30,.string z31,.string z32,.int .i64 z33,.int .i64 z34,.int .i64 z35,dsl z36,.int .i64 z37,.int .i64 z38,.int .u64 z39,.bool false,.int .i64 z41,dsl z42,.int .i64 z43,.int .u8 z44,.int .i64 z45,dsl z46,.int .i64 z47,.int .i64 z48,.int .i64 z49,.int .i64 z50,.int .i64 z51]⟩))
theorem n_rdM0{z0 z1 z2 z3 z4 z5 z6 z7 z8:Int}{z9:ByteArray}{z10:List Value}{z11 z12 z13 z14 z15 z16 z17:Int}{z18:List Value}{z19 z20 z21 z22 z23 z24 z25 z26:Int}{z27:List Value}{z28 z29 z30:Int}{z31 z32:ByteArray}{z33 z34 z35:Int}{z36:List Value}{z37 z38 z39:Int}{z40:Bool}{z41:Int}{z42:List Value}{z43 z44 z45:Int}{z46:List Value}{z47 z48 z49 z50 z51:Int}{K:Value->Prop}(hk:K (.agg ⟨[.int .u8 z0,.int .u32 z1,.int .i64 z2,.int .i64 z3,.int .i64 z4,.int .i64 z5,.int .i64 z6,.int .u64 z7,.int .u64 z8,.string z9,dsl z10,.int .i64 z11,.int .i64 z12,.int .i64 z13,.int .i64 z14,.int .i64 z15,.int .i64 z16,.int .i64 z17,dsl z18,.int .i64 z19,.int .i64 z20,.int .u8 z21,.int .i64 z22,.int .i64 z23,.int .i64 z24,.int .i64 z25,.int .u8 z26,dsl z27,.int .i64 z28,.int .i64 z29,.int .i64 z30,.string z31,.string z32,.int .i64 z33,.int .i64 z34,.int .i64 z35,dsl z36,.int .i64 z37,.int .i64 z38,.int .u64 z39,.bool z40,.int .i64 z41,dsl z42,.int .i64 z43,.int .u8 z44,.int .i64 z45,dsl z46,.int .i64 z47,.int .i64 z48,.int .i64 z49,.int .i64 z50,.int .i64 z51]⟩)):rdM (real Tryz.prog) [.int .u8 z0,.int .u32 z1,.int .i64 z2,.int .i64 z3,.int .i64 z4,.int .i64 z5,.int .i64 z6,.int .u64 z7,.int .u64 z8,.string z9,dsl z10,.int .i64 z11,.int .i64 z12,.int .i64 z13,.int .i64 z14,.int .i64 z15,.int .i64 z16,.int .i64 z17,dsl z18,.int .i64 z19,.int .i64 z20,.int .u8 z21,.int .i64 z22,.int .i64 z23,.int .i64 z24,.int .i64 z25,.int .u8 z26,dsl z27,.int .i64 z28,.int .i64 z29,.int .i64 z30,.string z31,.string z32,.int .i64 z33,.int .i64 z34,.int .i64 z35,dsl z36,.int .i64 z37,.int .i64 z38,.int .u64 z39,.bool z40,.int .i64 z41,dsl z42,.int .i64 z43,.int .u8 z44,.int .i64 z45,dsl z46,.int .i64 z47,.int .i64 z48,.int .i64 z49,.int .i64 z50,.int .i64 z51] K:=by
 cases z40
 ·exact n_rdI rfl<|n_rdI rfl<|n_rdI rfl<|n_rdI rfl<|n_rdI rfl<|n_rdI rfl<|n_rdI rfl<|n_rdI rfl<|n_rdI rfl<|n_rdS rfl<|n_rdD rfl<|n_rdI rfl<|n_rdI rfl<|n_rdI rfl<|n_rdI rfl<|n_rdI rfl<|n_rdI rfl<|n_rdI rfl<|n_rdD rfl<|n_rdI rfl<|n_rdI rfl<|n_rdI rfl<|n_rdI rfl<|n_rdI rfl<|n_rdI rfl<|n_rdI rfl<|n_rdI rfl<|n_rdD rfl<|n_rdI rfl<|n_rdI rfl<|n_rdI rfl<|n_rdS rfl<|n_rdS rfl<|n_rdI rfl<|n_rdI rfl<|n_rdI rfl<|n_rdD rfl<|n_rdI rfl<|n_rdI rfl<|n_rdI rfl<|n_rdB rfl (fun h=>absurd h (by simp)) (fun _=>n_rdI rfl<|n_rdD rfl<|n_rdI rfl<|n_rdI rfl<|n_rdI rfl<|n_rdD rfl<|n_rdI rfl<|n_rdI rfl<|n_rdI rfl<|n_rdI rfl<|n_rdI rfl<|hk)
 ·exact n_rdI rfl<|n_rdI rfl<|n_rdI rfl<|n_rdI rfl<|n_rdI rfl<|n_rdI rfl<|n_rdI rfl<|n_rdI rfl<|n_rdI rfl<|n_rdS rfl<|n_rdD rfl<|n_rdI rfl<|n_rdI rfl<|n_rdI rfl<|n_rdI rfl<|n_rdI rfl<|n_rdI rfl<|n_rdI rfl<|n_rdD rfl<|n_rdI rfl<|n_rdI rfl<|n_rdI rfl<|n_rdI rfl<|n_rdI rfl<|n_rdI rfl<|n_rdI rfl<|n_rdI rfl<|n_rdD rfl<|n_rdI rfl<|n_rdI rfl<|n_rdI rfl<|n_rdS rfl<|n_rdS rfl<|n_rdI rfl<|n_rdI rfl<|n_rdI rfl<|n_rdD rfl<|n_rdI rfl<|n_rdI rfl<|n_rdI rfl<|n_rdB rfl (fun _=>n_rdI rfl<|n_rdD rfl<|n_rdI rfl<|n_rdI rfl<|n_rdI rfl<|n_rdD rfl<|n_rdI rfl<|n_rdI rfl<|n_rdI rfl<|n_rdI rfl<|n_rdI rfl<|hk) (fun h=>absurd h (by simp))
def lM(x:OMsg):List Value:=match vMsg x with
 | .agg ⟨l⟩=>l
 |_=>[]
theorem n_rdM{x:OMsg}{K:Value->Prop}(hk:K (vMsg x)):rdM (real Tryz.prog) (lM x) K:=n_rdM0 (K:=K) hk
def tailU(N:Nd)(MS:MSm)(m:ByteArray->Prop->Prop->Prop->Prop)(s vl:ByteArray)(kd:Int)(A B:Prop):Prop:=
 N.slen vl fun z=>N.minI Builtin.max (Array.mk [5,5]) 5 .u8 12 kd fun z1=>N.ari .quo .i64 z .i64 256 fun z2=>N.conv 3 5 .i64 z2 .u8 fun z3=>N.ari .rem .i64 z .i64 256 fun z4=>N.conv 3 5 .i64 z4 .u8 fun z5=>
 N.str [z1,z3,z5] fun s1=>N.cat s s1 fun s2=>N.cat s2 vl fun s3=>m s3 B (MS (vMsg zMsg) (vMsg zMsg) A B) B
def bodyU(N:Nd)(MP:MPu)(MS:MSm)(m:ByteArray->Prop->Prop->Prop->Prop)(vx vy:Value)(k kd:Int)(vl:ByteArray)(ra rb:List Value)(A B:Prop):Prop:=
 MP vx k (fun s=>MP vy k (fun s'=>N.scmp .eql s s'
  (N.dget ra k 52 fun l=>rdM N l fun v=>N.dget rb k 52 fun l'=>rdM N l' fun w=>MS v w (tailU N MS m s vl kd A B) B)
  (N.dget ra k 52 fun l=>rdM N l fun v=>N.dget rb k 52 fun l'=>rdM N l' fun w=>MS v w B (tailU N MS m s vl kd A B))) A) (MP vy k (fun _=>A) A)
def z52:List Value:=[.int .u8 0,.int .u32 0,.int .i64 0,.int .i64 0,.int .i64 0,.int .i64 0,.int .i64 0,.int .u64 0,.int .u64 0,.string (bytesOf []),.slice none 0 0,.int .i64 0,.int .i64 0,.int .i64 0,.int .i64 0,.int .i64 0,.int .i64 0,.int .i64 0,.slice none 0 0,.int .i64 0,.int .i64 0,.int .u8 0,.int .i64 0,.int .i64 0,.int .i64 0,.int .i64 0,.int .u8 0,.slice none 0 0,.int .i64 0,.int .i64 0,.int .i64 0,.string (bytesOf []),.string (bytesOf []),.int .i64 0,.int .i64 0,.int .i64 0,.slice none 0 0,.int .i64 0,.int .i64 0,.int .u64 0,.bool false,.int .i64 0,.slice none 0 0,.int .i64 0,.int .u8 0,.int .i64 0,.slice none 0 0,.int .i64 0,.int .i64 0,.int .i64 0,.int .i64 0,.int .i64 0]
def partM(x:OMsg)(i n:Nat):List Value:=z52.take i++(((lM x).drop i).take n++z52.drop (i+n))
def partsM(x:OMsg):List Value:=partM x 11 9++(partM x 20 5++(partM x 25 5++(partM x 30 11++(partM x 41 2++(partM x 43 4++(partM x 47 3++(partM x 50 2)))))))
def rowsM(x:OMsg):List Value:=[vMsg (mkNode x.n),vMsg (mkField x.f),vMsg (mkTable x.t),vMsg (mkEntry x.e),vMsg (mkBlock x.b),vMsg (mkGroup x.g),vMsg (mkMeter x.m),vMsg (mkRegs x.r)]
def gUL(N:Nd)(MG:MLg)(L:LWt)(x y:OMsg)(kd:Int)(vl:ByteArray)(K:Value->Prop):Prop:=wpe Tryz.prog N (howOf Z0 Zp [] [(6,(153,([2,3,4,5,9,10,11],sLoW [8] L)))] [(8,sLg MG),(9,sAwk)] []) 300 (.call 7 [vMsg x,vMsg y,(.int .u8 kd),(.string vl)] h0) (retV K)
theorem gUL_eq(N:Nd)(MG:MLg)(L:LWt)(x y:OMsg)(kd:Int)(vl:ByteArray)(K:Value->Prop):gUL N MG L x y kd vl K=MG (vMsg x) (K (.bool true)) (MG (vMsg y) (K (.bool true)) (N.slen vl fun z=>N.cmp .gtr .i64 z .i64 1000 (K (.bool true)) (L (loopIn Tryz.prog 7 6) 153 [.int .u8 kd,.string vl,pA 100,pA 101,.slice (some ⟨102,0,none⟩) 8 8,.slice (some ⟨103,0,none⟩) 8 8,.int .i64 0] [some (cM x),some (cM y),some (.cells (partsM x) 46 52 false true),some (.cells (partsM y) 46 52 false true)] (K (.bool true))))):=by kernel_rfl
def gUR(N:Nd)(MP:MPu)(MR:MRds)(MS:MSm)(x y:OMsg)(kd:Int)(vl:ByteArray)(ra rb:List Value)(back:List Value->List (Option AObj)->Prop)(out:Exit->List Value->Prop)(k:Int):Prop:=
 wpe Tryz.prog N (howOf Z0 Zp [] [] [(11,sPu MP),(15,sReads MR),(13,sSm MS)] [(153,88),(153,90),(153,106),(153,109),(153,123),(153,146)]) 300 (.code false (loopIn Tryz.prog 7 6) (stOf 100 153 [2,3,4,5,9,10,11] [] ([.int .u8 kd,.string vl,pA 100,pA 101,dsl ra,dsl rb,.int .i64 k],[some (cM x),some (cM y),none,none]))) (roundK 4 [2,3,4,5,9,10,11] [8] 153 back out)
theorem gUR0_eq(N:Nd)(MP:MPu)(MR:MRds)(MS:MSm)(x y:OMsg)(kd:Int)(vl:ByteArray)(ra rb:List Value)(back:Bk)(out:Ov):gUR N MP MR MS x y kd vl ra rb back out 0=bodyU N MP MS (fun s a b c=>MR.m0 s (fun _ _ _ _ _ _ _ _ _=>a) b c) (vMsg x) (vMsg y) 0 kd vl ra rb (([]:List Deferred)=[]/\back [.int .u8 kd,.string vl,pA 100,pA 101,dsl ra,dsl rb,.int .i64 1] [some (cM x),some (cM y),none,none]) (([]:List Deferred)=[]/\out .ret [.bool false]):=by kernel_rfl
theorem gUR1_eq(N:Nd)(MP:MPu)(MR:MRds)(MS:MSm)(x y:OMsg)(kd:Int)(vl:ByteArray)(ra rb:List Value)(back:Bk)(out:Ov):gUR N MP MR MS x y kd vl ra rb back out 1=bodyU N MP MS (fun s a b c=>MR.m1 s (fun _ _ _ _ _=>a) b c) (vMsg x) (vMsg y) 1 kd vl ra rb (([]:List Deferred)=[]/\back [.int .u8 kd,.string vl,pA 100,pA 101,dsl ra,dsl rb,.int .i64 2] [some (cM x),some (cM y),none,none]) (([]:List Deferred)=[]/\out .ret [.bool false]):=by kernel_rfl
theorem gUR2_eq(N:Nd)(MP:MPu)(MR:MRds)(MS:MSm)(x y:OMsg)(kd:Int)(vl:ByteArray)(ra rb:List Value)(back:Bk)(out:Ov):gUR N MP MR MS x y kd vl ra rb back out 2=bodyU N MP MS (fun s a b c=>MR.m2 s (fun _ _ _ _ _=>a) b c) (vMsg x) (vMsg y) 2 kd vl ra rb (([]:List Deferred)=[]/\back [.int .u8 kd,.string vl,pA 100,pA 101,dsl ra,dsl rb,.int .i64 3] [some (cM x),some (cM y),none,none]) (([]:List Deferred)=[]/\out .ret [.bool false]):=by kernel_rfl
theorem gUR3_eq(N:Nd)(MP:MPu)(MR:MRds)(MS:MSm)(x y:OMsg)(kd:Int)(vl:ByteArray)(ra rb:List Value)(back:Bk)(out:Ov):gUR N MP MR MS x y kd vl ra rb back out 3=bodyU N MP MS (fun s a b c=>MR.m3 s (fun _ _ _ _ _ _ _ _ _ _ _=>a) b c) (vMsg x) (vMsg y) 3 kd vl ra rb (([]:List Deferred)=[]/\back [.int .u8 kd,.string vl,pA 100,pA 101,dsl ra,dsl rb,.int .i64 4] [some (cM x),some (cM y),none,none]) (([]:List Deferred)=[]/\out .ret [.bool false]):=by kernel_rfl
theorem gUR4_eq(N:Nd)(MP:MPu)(MR:MRds)(MS:MSm)(x y:OMsg)(kd:Int)(vl:ByteArray)(ra rb:List Value)(back:Bk)(out:Ov):gUR N MP MR MS x y kd vl ra rb back out 4=bodyU N MP MS (fun s a b c=>MR.m4 s (fun _ _=>a) b c) (vMsg x) (vMsg y) 4 kd vl ra rb (([]:List Deferred)=[]/\back [.int .u8 kd,.string vl,pA 100,pA 101,dsl ra,dsl rb,.int .i64 5] [some (cM x),some (cM y),none,none]) (([]:List Deferred)=[]/\out .ret [.bool false]):=by kernel_rfl
theorem gUR5_eq(N:Nd)(MP:MPu)(MR:MRds)(MS:MSm)(x y:OMsg)(kd:Int)(vl:ByteArray)(ra rb:List Value)(back:Bk)(out:Ov):gUR N MP MR MS x y kd vl ra rb back out 5=bodyU N MP MS (fun s a b c=>MR.m5 s (fun _ _ _ _=>a) b c) (vMsg x) (vMsg y) 5 kd vl ra rb (([]:List Deferred)=[]/\back [.int .u8 kd,.string vl,pA 100,pA 101,dsl ra,dsl rb,.int .i64 6] [some (cM x),some (cM y),none,none]) (([]:List Deferred)=[]/\out .ret [.bool false]):=by kernel_rfl
theorem gUR6_eq(N:Nd)(MP:MPu)(MR:MRds)(MS:MSm)(x y:OMsg)(kd:Int)(vl:ByteArray)(ra rb:List Value)(back:Bk)(out:Ov):gUR N MP MR MS x y kd vl ra rb back out 6=bodyU N MP MS (fun s a b c=>MR.m6 s (fun _ _ _=>a) b c) (vMsg x) (vMsg y) 6 kd vl ra rb (([]:List Deferred)=[]/\back [.int .u8 kd,.string vl,pA 100,pA 101,dsl ra,dsl rb,.int .i64 7] [some (cM x),some (cM y),none,none]) (([]:List Deferred)=[]/\out .ret [.bool false]):=by kernel_rfl
theorem gUR7_eq(N:Nd)(MP:MPu)(MR:MRds)(MS:MSm)(x y:OMsg)(kd:Int)(vl:ByteArray)(ra rb:List Value)(back:Bk)(out:Ov):gUR N MP MR MS x y kd vl ra rb back out 7=bodyU N MP MS (fun s a b c=>MR.m7 s (fun _ _=>a) b c) (vMsg x) (vMsg y) 7 kd vl ra rb (([]:List Deferred)=[]/\back [.int .u8 kd,.string vl,pA 100,pA 101,dsl ra,dsl rb,.int .i64 8] [some (cM x),some (cM y),none,none]) (([]:List Deferred)=[]/\out .ret [.bool false]):=by kernel_rfl
theorem gUR8_eq(N:Nd)(MP:MPu)(MR:MRds)(MS:MSm)(x y:OMsg)(kd:Int)(vl:ByteArray)(ra rb:List Value)(back:Bk)(out:Ov):gUR N MP MR MS x y kd vl ra rb back out 8=(([]:List Deferred)=[]/\out (.exit 0) [top]):=by kernel_rfl
end
end Go.Proofs.YtblbaohcelldpaaGreat.Ob
namespace Go.Proofs.YtblbaohcelldpaaGreat.Ob
open Go Go.Abs Go.Tlv
set_option maxRecDepth 100000
noncomputable section
theorem n_maxU8{ats:Array TypeId}{T:TypeId}{a b:Int}{K:Int->Prop}(hk:K (if a<b then b else a)):(real Tryz.prog).minI .max ats T .u8 a b K:=by
 refine⟨_,fun H=>?_,hk⟩
 have h:pureVal Tryz.prog (Builtin.max_ ats T #[.int .u8 a,.int .u8 b])=some (.int .u8 (if a<b then b else a)):=by
  simp[pureVal,Builtin.max_,Builtin.max2]
  rfl
 simp only[aBuiltin,plainL,plain,Bool.and_self]
 simp[h]
theorem t3i:Tryz.prog.underlying 3=some (.int .i64):=by kernel_rfl
theorem t5i:Tryz.prog.underlying 5=some (.int .u8):=by kernel_rfl
theorem tail_ok{m:ByteArray->Prop->Prop->Prop->Prop}{s vl:ByteArray}{kd:Nat}{A B:Prop}(hs:s.data.toList.length<=1000000)(hv:vl.data.toList.length<=1000)(hk:kd<256)
  (hm:∀t (s3:ByteArray),12<=t->t<256->s3.data.toList=s.data.toList++(UInt8.ofNat t::(two vl.data.toList.length++vl.data.toList))->∀X Y Z:Prop,Y->m s3 X Y Z) (ha:A):
  tailU (real Tryz.prog) (MSmr vMsg okMsg sameM) m s vl (kd:Int) A B:=by
 refine n_slen (n_maxU8 ?_)
 obtain⟨t,ht,h1,h2⟩:∃t:Nat,(if (12:Int)<(kd:Int)then(kd:Int)else 12)=(t:Int)/\12<=t/\t<256:=by
  split
  ·exact⟨kd,rfl,by omega,hk⟩
  ·exact⟨12,rfl,by omega,by omega⟩
 rw[ht]
 refine n_quoI (d:=256) (by omega) (by omega) (n_toU8 t3i t5i (n_remN (d:=256) (by omega) (n_toU8 t3i t5i (n_str (n_cat ?_ (n_cat ?_ (hm t _ h1 h2 ?_ _ _ _ (mN okZ rfl ha))))))))
 ·simp only[bytes_toList,List.length_map,List.length_cons,List.length_nil];omega
 ·simp only[bytes_toList,List.length_append,List.length_map,List.length_cons,List.length_nil];omega
 ·simp only[bytes_toList,two,List.map_cons,List.map_nil,Int.toNat_natCast,List.append_assoc,List.cons_append,List.nil_append,Nat.mod_mod]
theorem body_ok{m:ByteArray->Prop->Prop->Prop->Prop}{x y u v:OMsg}{vl:ByteArray}{kd i:Nat}{ra rb:List Value}{A B:Prop}(hx:okMsg x)(hy:okMsg y)(hi:i<8)(hra:ra[i]?=some (vMsg u))(hrb:rb[i]?=some (vMsg v))(hv:vl.data.toList.length<=1000)(hk:kd<256)
  (hu:mayJ x i=true->okMsg u) (hw:mayJ y i=true->okMsg v) (hb:mayJ x i=true->(encS (attsJ x i)).length<=1000000)
  (he:mayJ x i=true->mayJ y i=true->(encS (attsJ x i)=encS (attsJ y i)↔sameM u v))
  (hm:mayJ x i=true->∀t (s3:ByteArray),12<=t->t<256->s3.data.toList=encS (attsJ x i)++(UInt8.ofNat t::(two vl.data.toList.length++vl.data.toList))->∀X Y Z:Prop,Y->m s3 X Y Z) (ha:A):
  bodyU (real Tryz.prog) MPur (MSmr vMsg okMsg sameM) m (vMsg x) (vMsg y) (i:Int) (kd:Int) vl ra rb A B:=by
 refine⟨x,i,rfl,hx,rfl,hi,fun h1=>⟨y,i,rfl,hy,rfl,hi,fun h2=>n_scmp_eq (fun e=>?_) (fun e=>?_),fun _=>ha⟩,fun h1=>⟨y,i,rfl,hy,rfl,hi,fun _=>ha,fun _=>ha⟩⟩
 ·refine n_dget (cs:=lM u) i rfl hra rfl (n_rdM (n_dget (cs:=lM v) i rfl hrb rfl (n_rdM ⟨u,v,rfl,rfl,hu h1,hw h2,fun s=>?_,fun s=>absurd ((he h1 h2).1 e) s⟩)))
  exact tail_ok (hb h1) hv hk (hm h1) ha
 ·refine n_dget (cs:=lM u) i rfl hra rfl (n_rdM (n_dget (cs:=lM v) i rfl hrb rfl (n_rdM ⟨u,v,rfl,rfl,hu h1,hw h2,fun s=>absurd ((he h1 h2).2 s) e,fun s=>?_⟩)))
  exact tail_ok (hb h1) hv hk (hm h1) ha
def I3(x y:OMsg)(kd:Nat)(vl:ByteArray)(k:Upto 8):List Value×List (Option AObj):=([.int .u8 (kd:Int),.string vl,pA 100,pA 101,dsl (rowsM x),dsl (rowsM y),.int .i64 (k.1:Int)],[some (cM x),some (cM y),none,none])
theorem rnd3_0{x y:OMsg}{kd:Nat}{vl:ByteArray}(hx:okMsg x)(hy:okMsg y)(hr:rgMsg x)(hq:rgMsg y)(hv:vl.data.toList.length<=1000)(hk:kd<256):
  Is (wpe Tryz.prog (real Tryz.prog) (howOf Z0 Zp [] [] [(11,sPu MPur),(15,sReads MRr),(13,sSm (MSmr vMsg okMsg sameM))] [(153,88),(153,90),(153,106),(153,109),(153,123),(153,146)]) 300 (.code false (loopIn Tryz.prog 7 6) (stOf 100 153 [2,3,4,5,9,10,11] [] (I3 x y kd vl ⟨0,by omega⟩))) (roundK 4 [2,3,4,5,9,10,11] [8] 153
   (fun vals objs=>∃a':Upto 8,8-a'.1<8-0/\vals=(I3 x y kd vl a').1/\objs=(I3 x y kd vl a').2/\∀e v,R1 e v->R1 e v)
   (fun e v=>R1 e v))):=by
 refine⟨?_⟩
 show gUR (real Tryz.prog) MPur MRr (MSmr vMsg okMsg sameM) x y kd vl (rowsM x) (rowsM y) _ _ 0
 rw[gUR0_eq]
 have g:∀ {z:OMsg},rgMsg z->mayJ z 0=true->goodNode z.n:=fun {z} h hm=>goodNode_of hm h.1
 refine body_ok (i:=0) (u:=mkNode x.n) (v:=mkNode y.n) hx hy (by omega) rfl rfl hv hk (fun h=>ok_mkNode (g hr h)) (fun h=>ok_mkNode (g hq h)) (fun h=>boundNode (g hr h)) (fun h1 h2=>⟨fun e=>upd_same (congrArg mkNode ((unlikeNode (g hr h1) (g hq h2)).1 e)),fun s=>(unlikeNode (g hr h1) (g hq h2)).2 s.1⟩)
  (fun h t s h1 h2 e X Y Z hy=>?_) ⟨rfl,⟨1,by omega⟩,by show 8-1<8-0;omega,rfl,rfl,fun _ _ h=>h⟩
 have e2:rdE stepNode zNode s.data.toList=(3,zNode):=by rw[e];exact moreNode (g hr h) h1 h2 (by omega)
 exact⟨fun z h=>absurd (e2.symm.trans h) (by simp),fun _=>hy,fun h=>absurd (e2.symm.trans h) (by simp)⟩
theorem rnd3_1{x y:OMsg}{kd:Nat}{vl:ByteArray}(hx:okMsg x)(hy:okMsg y)(hr:rgMsg x)(hq:rgMsg y)(hv:vl.data.toList.length<=1000)(hk:kd<256):
  Is (wpe Tryz.prog (real Tryz.prog) (howOf Z0 Zp [] [] [(11,sPu MPur),(15,sReads MRr),(13,sSm (MSmr vMsg okMsg sameM))] [(153,88),(153,90),(153,106),(153,109),(153,123),(153,146)]) 300 (.code false (loopIn Tryz.prog 7 6) (stOf 100 153 [2,3,4,5,9,10,11] [] (I3 x y kd vl ⟨1,by omega⟩))) (roundK 4 [2,3,4,5,9,10,11] [8] 153
   (fun vals objs=>∃a':Upto 8,8-a'.1<8-1/\vals=(I3 x y kd vl a').1/\objs=(I3 x y kd vl a').2/\∀e v,R1 e v->R1 e v)
   (fun e v=>R1 e v))):=by
 refine⟨?_⟩
 show gUR (real Tryz.prog) MPur MRr (MSmr vMsg okMsg sameM) x y kd vl (rowsM x) (rowsM y) _ _ 1
 rw[gUR1_eq]
 have g:∀ {z:OMsg},rgMsg z->mayJ z 1=true->goodField z.f:=fun {z} h hm=>goodField_of hm h.2.1
 refine body_ok (i:=1) (u:=mkField x.f) (v:=mkField y.f) hx hy (by omega) rfl rfl hv hk (fun h=>ok_mkField (g hr h)) (fun h=>ok_mkField (g hq h)) (fun h=>boundField (g hr h)) (fun h1 h2=>⟨fun e=>upd_same (congrArg mkField ((unlikeField (g hr h1) (g hq h2)).1 e)),fun s=>(unlikeField (g hr h1) (g hq h2)).2 s.2.1⟩)
  (fun h t s h1 h2 e X Y Z hy=>?_) ⟨rfl,⟨2,by omega⟩,by show 8-2<8-1;omega,rfl,rfl,fun _ _ h=>h⟩
 have e2:rdE stepField zField s.data.toList=(3,zField):=by rw[e];exact moreField (g hr h) h1 h2 (by omega)
 exact⟨fun z h=>absurd (e2.symm.trans h) (by simp),fun _=>hy,fun h=>absurd (e2.symm.trans h) (by simp)⟩
theorem rnd3_2{x y:OMsg}{kd:Nat}{vl:ByteArray}(hx:okMsg x)(hy:okMsg y)(hr:rgMsg x)(hq:rgMsg y)(hv:vl.data.toList.length<=1000)(hk:kd<256):
  Is (wpe Tryz.prog (real Tryz.prog) (howOf Z0 Zp [] [] [(11,sPu MPur),(15,sReads MRr),(13,sSm (MSmr vMsg okMsg sameM))] [(153,88),(153,90),(153,106),(153,109),(153,123),(153,146)]) 300 (.code false (loopIn Tryz.prog 7 6) (stOf 100 153 [2,3,4,5,9,10,11] [] (I3 x y kd vl ⟨2,by omega⟩))) (roundK 4 [2,3,4,5,9,10,11] [8] 153
   (fun vals objs=>∃a':Upto 8,8-a'.1<8-2/\vals=(I3 x y kd vl a').1/\objs=(I3 x y kd vl a').2/\∀e v,R1 e v->R1 e v)
   (fun e v=>R1 e v))):=by
 refine⟨?_⟩
 show gUR (real Tryz.prog) MPur MRr (MSmr vMsg okMsg sameM) x y kd vl (rowsM x) (rowsM y) _ _ 2
 rw[gUR2_eq]
 have g:∀ {z:OMsg},rgMsg z->mayJ z 2=true->goodTable z.t:=fun {z} h hm=>goodTable_of hm h.2.2.1
 refine body_ok (i:=2) (u:=mkTable x.t) (v:=mkTable y.t) hx hy (by omega) rfl rfl hv hk (fun h=>ok_mkTable (g hr h)) (fun h=>ok_mkTable (g hq h)) (fun h=>boundTable (g hr h)) (fun h1 h2=>⟨fun e=>upd_same (congrArg mkTable ((unlikeTable (g hr h1) (g hq h2)).1 e)),fun s=>(unlikeTable (g hr h1) (g hq h2)).2 s.2.2.1⟩)
  (fun h t s h1 h2 e X Y Z hy=>?_) ⟨rfl,⟨3,by omega⟩,by show 8-3<8-2;omega,rfl,rfl,fun _ _ h=>h⟩
 have e2:rdE stepTable zTable s.data.toList=(3,zTable):=by rw[e];exact moreTable (g hr h) h1 h2 (by omega)
 exact⟨fun z h=>absurd (e2.symm.trans h) (by simp),fun _=>hy,fun h=>absurd (e2.symm.trans h) (by simp)⟩
theorem rnd3_3{x y:OMsg}{kd:Nat}{vl:ByteArray}(hx:okMsg x)(hy:okMsg y)(hr:rgMsg x)(hq:rgMsg y)(hv:vl.data.toList.length<=1000)(hk:kd<256):
  Is (wpe Tryz.prog (real Tryz.prog) (howOf Z0 Zp [] [] [(11,sPu MPur),(15,sReads MRr),(13,sSm (MSmr vMsg okMsg sameM))] [(153,88),(153,90),(153,106),(153,109),(153,123),(153,146)]) 300 (.code false (loopIn Tryz.prog 7 6) (stOf 100 153 [2,3,4,5,9,10,11] [] (I3 x y kd vl ⟨3,by omega⟩))) (roundK 4 [2,3,4,5,9,10,11] [8] 153
   (fun vals objs=>∃a':Upto 8,8-a'.1<8-3/\vals=(I3 x y kd vl a').1/\objs=(I3 x y kd vl a').2/\∀e v,R1 e v->R1 e v)
   (fun e v=>R1 e v))):=by
 refine⟨?_⟩
 show gUR (real Tryz.prog) MPur MRr (MSmr vMsg okMsg sameM) x y kd vl (rowsM x) (rowsM y) _ _ 3
 rw[gUR3_eq]
 have g:∀ {z:OMsg},rgMsg z->mayJ z 3=true->goodEntry z.e:=fun {z} h hm=>goodEntry_of hm h.2.2.2.1
 refine body_ok (i:=3) (u:=mkEntry x.e) (v:=mkEntry y.e) hx hy (by omega) rfl rfl hv hk (fun h=>ok_mkEntry (g hr h)) (fun h=>ok_mkEntry (g hq h)) (fun h=>boundEntry (g hr h)) (fun h1 h2=>⟨fun e=>upd_same (congrArg mkEntry ((unlikeEntry (g hr h1) (g hq h2)).1 e)),fun s=>(unlikeEntry (g hr h1) (g hq h2)).2 s.2.2.2.1⟩)
  (fun h t s h1 h2 e X Y Z hy=>?_) ⟨rfl,⟨4,by omega⟩,by show 8-4<8-3;omega,rfl,rfl,fun _ _ h=>h⟩
 have e2:rdE stepEntry zEntry s.data.toList=(3,zEntry):=by rw[e];exact moreEntry (g hr h) h1 h2 (by omega)
 exact⟨fun z h=>absurd (e2.symm.trans h) (by simp),fun _=>hy,fun h=>absurd (e2.symm.trans h) (by simp)⟩
theorem rnd3_4{x y:OMsg}{kd:Nat}{vl:ByteArray}(hx:okMsg x)(hy:okMsg y)(hr:rgMsg x)(hq:rgMsg y)(hv:vl.data.toList.length<=1000)(hk:kd<256):
  Is (wpe Tryz.prog (real Tryz.prog) (howOf Z0 Zp [] [] [(11,sPu MPur),(15,sReads MRr),(13,sSm (MSmr vMsg okMsg sameM))] [(153,88),(153,90),(153,106),(153,109),(153,123),(153,146)]) 300 (.code false (loopIn Tryz.prog 7 6) (stOf 100 153 [2,3,4,5,9,10,11] [] (I3 x y kd vl ⟨4,by omega⟩))) (roundK 4 [2,3,4,5,9,10,11] [8] 153
   (fun vals objs=>∃a':Upto 8,8-a'.1<8-4/\vals=(I3 x y kd vl a').1/\objs=(I3 x y kd vl a').2/\∀e v,R1 e v->R1 e v)
   (fun e v=>R1 e v))):=by
 refine⟨?_⟩
 show gUR (real Tryz.prog) MPur MRr (MSmr vMsg okMsg sameM) x y kd vl (rowsM x) (rowsM y) _ _ 4
 rw[gUR4_eq]
 have g:∀ {z:OMsg},rgMsg z->mayJ z 4=true->goodBlock z.b:=fun {z} h hm=>goodBlock_of hm h.2.2.2.2.1
 refine body_ok (i:=4) (u:=mkBlock x.b) (v:=mkBlock y.b) hx hy (by omega) rfl rfl hv hk (fun h=>ok_mkBlock (g hr h)) (fun h=>ok_mkBlock (g hq h)) (fun h=>boundBlock (g hr h)) (fun h1 h2=>⟨fun e=>upd_same (congrArg mkBlock ((unlikeBlock (g hr h1) (g hq h2)).1 e)),fun s=>(unlikeBlock (g hr h1) (g hq h2)).2 s.2.2.2.2.1⟩)
  (fun h t s h1 h2 e X Y Z hy=>?_) ⟨rfl,⟨5,by omega⟩,by show 8-5<8-4;omega,rfl,rfl,fun _ _ h=>h⟩
 have e2:rdE stepBlock zBlock s.data.toList=(3,zBlock):=by rw[e];exact moreBlock (g hr h) h1 h2 (by omega)
 exact⟨fun z h=>absurd (e2.symm.trans h) (by simp),fun _=>hy,fun h=>absurd (e2.symm.trans h) (by simp)⟩
theorem rnd3_5{x y:OMsg}{kd:Nat}{vl:ByteArray}(hx:okMsg x)(hy:okMsg y)(hr:rgMsg x)(hq:rgMsg y)(hv:vl.data.toList.length<=1000)(hk:kd<256):
  Is (wpe Tryz.prog (real Tryz.prog) (howOf Z0 Zp [] [] [(11,sPu MPur),(15,sReads MRr),(13,sSm (MSmr vMsg okMsg sameM))] [(153,88),(153,90),(153,106),(153,109),(153,123),(153,146)]) 300 (.code false (loopIn Tryz.prog 7 6) (stOf 100 153 [2,3,4,5,9,10,11] [] (I3 x y kd vl ⟨5,by omega⟩))) (roundK 4 [2,3,4,5,9,10,11] [8] 153
   (fun vals objs=>∃a':Upto 8,8-a'.1<8-5/\vals=(I3 x y kd vl a').1/\objs=(I3 x y kd vl a').2/\∀e v,R1 e v->R1 e v)
   (fun e v=>R1 e v))):=by
 refine⟨?_⟩
 show gUR (real Tryz.prog) MPur MRr (MSmr vMsg okMsg sameM) x y kd vl (rowsM x) (rowsM y) _ _ 5
 rw[gUR5_eq]
 have g:∀ {z:OMsg},rgMsg z->mayJ z 5=true->goodGroup z.g:=fun {z} h hm=>goodGroup_of hm h.2.2.2.2.2.1
 refine body_ok (i:=5) (u:=mkGroup x.g) (v:=mkGroup y.g) hx hy (by omega) rfl rfl hv hk (fun h=>ok_mkGroup (g hr h)) (fun h=>ok_mkGroup (g hq h)) (fun h=>boundGroup (g hr h)) (fun h1 h2=>⟨fun e=>upd_same (congrArg mkGroup ((unlikeGroup (g hr h1) (g hq h2)).1 e)),fun s=>(unlikeGroup (g hr h1) (g hq h2)).2 s.2.2.2.2.2.1⟩)
  (fun h t s h1 h2 e X Y Z hy=>?_) ⟨rfl,⟨6,by omega⟩,by show 8-6<8-5;omega,rfl,rfl,fun _ _ h=>h⟩
 have e2:rdE stepGroup zGroup s.data.toList=(3,zGroup):=by rw[e];exact moreGroup (g hr h) h1 h2 (by omega)
 exact⟨fun z h=>absurd (e2.symm.trans h) (by simp),fun _=>hy,fun h=>absurd (e2.symm.trans h) (by simp)⟩
theorem rnd3_6{x y:OMsg}{kd:Nat}{vl:ByteArray}(hx:okMsg x)(hy:okMsg y)(hr:rgMsg x)(hq:rgMsg y)(hv:vl.data.toList.length<=1000)(hk:kd<256):
  Is (wpe Tryz.prog (real Tryz.prog) (howOf Z0 Zp [] [] [(11,sPu MPur),(15,sReads MRr),(13,sSm (MSmr vMsg okMsg sameM))] [(153,88),(153,90),(153,106),(153,109),(153,123),(153,146)]) 300 (.code false (loopIn Tryz.prog 7 6) (stOf 100 153 [2,3,4,5,9,10,11] [] (I3 x y kd vl ⟨6,by omega⟩))) (roundK 4 [2,3,4,5,9,10,11] [8] 153
   (fun vals objs=>∃a':Upto 8,8-a'.1<8-6/\vals=(I3 x y kd vl a').1/\objs=(I3 x y kd vl a').2/\∀e v,R1 e v->R1 e v)
   (fun e v=>R1 e v))):=by
 refine⟨?_⟩
 show gUR (real Tryz.prog) MPur MRr (MSmr vMsg okMsg sameM) x y kd vl (rowsM x) (rowsM y) _ _ 6
 rw[gUR6_eq]
 have g:∀ {z:OMsg},rgMsg z->mayJ z 6=true->goodMeter z.m:=fun {z} h hm=>goodMeter_of hm h.2.2.2.2.2.2.1
 refine body_ok (i:=6) (u:=mkMeter x.m) (v:=mkMeter y.m) hx hy (by omega) rfl rfl hv hk (fun h=>ok_mkMeter (g hr h)) (fun h=>ok_mkMeter (g hq h)) (fun h=>boundMeter (g hr h)) (fun h1 h2=>⟨fun e=>upd_same (congrArg mkMeter ((unlikeMeter (g hr h1) (g hq h2)).1 e)),fun s=>(unlikeMeter (g hr h1) (g hq h2)).2 s.2.2.2.2.2.2.1⟩)
  (fun h t s h1 h2 e X Y Z hy=>?_) ⟨rfl,⟨7,by omega⟩,by show 8-7<8-6;omega,rfl,rfl,fun _ _ h=>h⟩
 have e2:rdE stepMeter zMeter s.data.toList=(3,zMeter):=by rw[e];exact moreMeter (g hr h) h1 h2 (by omega)
 exact⟨fun z h=>absurd (e2.symm.trans h) (by simp),fun _=>hy,fun h=>absurd (e2.symm.trans h) (by simp)⟩
theorem rnd3_7{x y:OMsg}{kd:Nat}{vl:ByteArray}(hx:okMsg x)(hy:okMsg y)(hr:rgMsg x)(hq:rgMsg y)(hv:vl.data.toList.length<=1000)(hk:kd<256):
  Is (wpe Tryz.prog (real Tryz.prog) (howOf Z0 Zp [] [] [(11,sPu MPur),(15,sReads MRr),(13,sSm (MSmr vMsg okMsg sameM))] [(153,88),(153,90),(153,106),(153,109),(153,123),(153,146)]) 300 (.code false (loopIn Tryz.prog 7 6) (stOf 100 153 [2,3,4,5,9,10,11] [] (I3 x y kd vl ⟨7,by omega⟩))) (roundK 4 [2,3,4,5,9,10,11] [8] 153
   (fun vals objs=>∃a':Upto 8,8-a'.1<8-7/\vals=(I3 x y kd vl a').1/\objs=(I3 x y kd vl a').2/\∀e v,R1 e v->R1 e v)
   (fun e v=>R1 e v))):=by
 refine⟨?_⟩
 show gUR (real Tryz.prog) MPur MRr (MSmr vMsg okMsg sameM) x y kd vl (rowsM x) (rowsM y) _ _ 7
 rw[gUR7_eq]
 have g:∀ {z:OMsg},rgMsg z->mayJ z 7=true->goodRegs z.r:=fun {z} h hm=>goodRegs_of hm h.2.2.2.2.2.2.2
 refine body_ok (i:=7) (u:=mkRegs x.r) (v:=mkRegs y.r) hx hy (by omega) rfl rfl hv hk (fun h=>ok_mkRegs (g hr h)) (fun h=>ok_mkRegs (g hq h)) (fun h=>boundRegs (g hr h)) (fun h1 h2=>⟨fun e=>upd_same (congrArg mkRegs ((unlikeRegs (g hr h1) (g hq h2)).1 e)),fun s=>(unlikeRegs (g hr h1) (g hq h2)).2 s.2.2.2.2.2.2.2⟩)
  (fun h t s h1 h2 e X Y Z hy=>?_) ⟨rfl,⟨8,by omega⟩,by show 8-8<8-7;omega,rfl,rfl,fun _ _ h=>h⟩
 have e2:rdE stepRegs zRegs s.data.toList=(3,zRegs):=by rw[e];exact moreRegs (g hr h) h1 h2 (by omega)
 exact⟨fun z h=>absurd (e2.symm.trans h) (by simp),fun _=>hy,fun h=>absurd (e2.symm.trans h) (by simp)⟩
theorem rnd3_8{x y:OMsg}{kd:Nat}{vl:ByteArray}:
  Is (wpe Tryz.prog (real Tryz.prog) (howOf Z0 Zp [] [] [(11,sPu MPur),(15,sReads MRr),(13,sSm (MSmr vMsg okMsg sameM))] [(153,88),(153,90),(153,106),(153,109),(153,123),(153,146)]) 300 (.code false (loopIn Tryz.prog 7 6) (stOf 100 153 [2,3,4,5,9,10,11] [] (I3 x y kd vl ⟨8,by omega⟩))) (roundK 4 [2,3,4,5,9,10,11] [8] 153
   (fun vals objs=>∃a':Upto 8,8-a'.1<8-8/\vals=(I3 x y kd vl a').1/\objs=(I3 x y kd vl a').2/\∀e v,R1 e v->R1 e v)
   (fun e v=>R1 e v))):=by
 refine⟨?_⟩
 show gUR (real Tryz.prog) MPur MRr (MSmr vMsg okMsg sameM) x y kd vl (rowsM x) (rowsM y) _ _ 8
 rw[gUR8_eq]
 exact⟨rfl,rfl,rfl⟩
def L3(x y:OMsg)(kd:Nat)(vl:ByteArray):LWt:=fun c n vals obs A=>c=loopIn Tryz.prog 7 6/\n=153/\vals=[.int .u8 (kd:Int),.string vl,pA 100,pA 101,.slice (some ⟨102,0,none⟩) 8 8,.slice (some ⟨103,0,none⟩) 8 8,.int .i64 0]/\obs=[some (cM x),some (cM y),some (.cells (partsM x) 46 52 false true),some (.cells (partsM y) 46 52 false true)]/\okMsg x/\okMsg y/\rgMsg x/\rgMsg y/\vl.data.toList.length<=1000/\kd<256/\A
theorem flM(x:OMsg):flatRows 52 (rowsM x)=some (nrmL (partsM x)):=by kernel_rfl
theorem beM(x:OMsg):belowL 0 (nrmL (partsM x))=true:=by kernel_rfl
theorem wk_set_frz{G n0:Nat}(j i:Nat){vals:List Value}{objs:List (Option AObj)}{rows vs:List Value}{n e size:Nat}{lo:Bool}(hj:vals[j]?=some (.slice (some ⟨G+i,0,none⟩) n n))(ho:objs[i]?=some (some (.cells vs e size lo true)))(hf:flatRows size rows=some vs)(hb:belowL 0 vs=true)(hs:0<size)(hn:n=rows.length):
  Wk G n0 vals objs (vals.set j (.iface mkD (.agg ⟨rows⟩))) (objs.set i none):=by
 subst hn
 refine wk_freeze ho hf hb hs (by simp) (fun k v v' h1 h2=>?_)
 by_cases e:k=j
 ·subst e
  rw[hj]at h1;simp only[Option.some.injEq]at h1;subst h1
  rw[List.getElem?_set_self (List.getElem?_eq_some_iff.1 hj).1]at h2
  simp only[Option.some.injEq]at h2;subst h2
  exact .inr ⟨rfl,rows.length,Nat.le_refl _,.inl rfl⟩
 ·rw[List.getElem?_set_ne (fun h=>e h.symm),h1]at h2
  simp only[Option.some.injEq]at h2
  exact .inl h2.symm
theorem wk3(x y:OMsg)(kd:Nat)(vl:ByteArray):Wk 100 (100+4) [.int .u8 (kd:Int),.string vl,pA 100,pA 101,.slice (some ⟨102,0,none⟩) 8 8,.slice (some ⟨103,0,none⟩) 8 8,.int .i64 0] [some (cM x),some (cM y),some (.cells (partsM x) 46 52 false true),some (.cells (partsM y) 46 52 false true)]
  (I3 x y kd vl ⟨0,by omega⟩).1 (I3 x y kd vl ⟨0,by omega⟩).2:=
 (wk_weak (WeakL.refl _) (.cons (.refl _) (.cons (.refl _) (.cons (.cells (weak_nrmL _)) (.cons (.cells (weak_nrmL _)) .nil))))).trans
  ((wk_set_frz (rows:=rowsM x) 4 2 rfl rfl (flM x) (beM x) (by omega) rfl).trans (wk_set_frz (rows:=rowsM y) 5 3 rfl rfl (flM y) (beM y) (by omega) rfl))
theorem lp3L(x y:OMsg)(kd:Nat)(vl:ByteArray):LoopOk Tryz.prog 100 [2,3,4,5,9,10,11] (sLoW [8] (L3 x y kd vl)):=by
 show LoopOk Tryz.prog 100 [2,3,4,5,9,10,11] (lpS [8] _)
 refine lp_mkK okp (W:=(howOf Z0 Zp [] [] [(11,sPu MPur),(15,sReads MRr),(13,sSm (MSmr vMsg okMsg sameM))] [(153,88),(153,90),(153,106),(153,109),(153,123),(153,146)])) (kn_pu (pu3s puPu puRe puSmM)) lp_none ?_
 rintro c n vals obs K ⟨hc,hn,hv,ho,hx,hy,hr,hq,hl,hk,hA⟩
 subst hc;subst hn;subst hv;subst ho
 refine⟨Upto 8,300,fun k=>8-k.1,I3 x y kd vl,fun _ e v=>R1 e v,⟨0,by omega⟩,wk3 x y kd vl,?_,?_⟩
 ·rintro e v ⟨rfl,rfl⟩
  exact hA
 ·rintro ⟨k,hk'⟩
  rcases k with _|_|_|_|_|_|_|_|_|k
  ·exact rnd3_0 hx hy hr hq hl hk
  ·exact rnd3_1 hx hy hr hq hl hk
  ·exact rnd3_2 hx hy hr hq hl hk
  ·exact rnd3_3 hx hy hr hq hl hk
  ·exact rnd3_4 hx hy hr hq hl hk
  ·exact rnd3_5 hx hy hr hq hl hk
  ·exact rnd3_6 hx hy hr hq hl hk
  ·exact rnd3_7 hx hy hr hq hl hk
  ·exact rnd3_8
  ·omega
theorem law3C(x y:OMsg)(kd:Nat)(vl:ByteArray)(hl:lenOk x)(hm:lenOk y)(hr:rgMsg x)(hq:rgMsg y)(hk:kd<256):Is (gUL (real Tryz.prog) MLgr (L3 x y kd vl) x y kd vl (fun v=>v = .bool true)):=by
 refine⟨?_⟩
 rw[gUL_eq]
 exact⟨x,rfl,hl,rfl,fun hs=>⟨y,rfl,hm,rfl,fun ht=>n_slen (n_gtr (fun _=>rfl) (fun h=>⟨rfl,rfl,rfl,rfl,okMsg_of hs hr,okMsg_of ht hq,hr,hq,by omega,hk,rfl⟩))⟩⟩
theorem law3H(x y:OMsg)(kd:Nat)(vl:ByteArray)(hl:lenOk x)(hr:rgMsg x)(hm:lenOk y)(hq:rgMsg y)(hk:kd<256)(B:Base)(H:Heap):CallH Tryz.prog 100 B 7 [vMsg x,vMsg y,.int .u8 (kd:Int),.string vl] H (.returned (.bool true)) H:=
 pu_mkV okp (kn_pu (pu_two puLg puAwk)) (lp_ok (fun y' hy=>by simp only[List.mem_singleton]at hy;subst hy;exact lp3L x y kd vl)) rfl (law3C x y kd vl hl hm hr hq hk) B H
end
end Go.Proofs.YtblbaohcelldpaaGreat.Ob
