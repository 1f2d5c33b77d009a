/- . -/
import Derived.Test.YtblbaohcelldpaaGreatDoorQR
import Derived.Test.YtblbaohcelldpaaGreatDoorQ6
import Derived.Test.YtblbaohcelldpaaGreatDoorN1
import Derived.Test.YtblbaohcelldpaaGreatDoorWE
set_option linter.all false
set_option maxRecDepth 100000
namespace Go.Proofs.Ob
open Go Go.Abs Go.Tlv
noncomputable section
theorem AYm:FY Tryz.prog 100 32 (sEq (ATJ cU8)):=AF4 tyH
structure AV7 where
 g:ML1
 e:ME1
 f:ME1
 m:ML1
 n:ML1
 p:MSm
 s:MSm
 h:MHs
 k:MHs
 y:MEq
def AXx(M:AV7):PuL:=[(23,sL1 M.g),(11,sAw),(16,sE1 M.e),(28,sE1 M.f),(18,sL1 M.m),(29,sL1 M.n),(30,sSm M.p),(22,sSm M.s),(13,sHs M.h),(33,sHs M.k),(32,sEq M.y)]
section
variable (N:Nd) (M:AV7) (x y:A9) (t:Int) (K:Value->Prop)
def wH:Prop:=M.h t fun a=>M.k t fun b=>M.y a b (K (.bool true)) (K (.bool false))
def wK2(a:Bool):Prop:=N.cmp .geq .u8 t .u8 1 (N.cmp .leq .u8 t .u8 46 (N.bcmp .eql a true (wH M t K) (K (.bool false))) (N.bcmp .eql a false (wH M t K) (K (.bool false)))) (N.bcmp .eql a false (wH M t K) (K (.bool false)))
def wK1:Prop:=N.cmp .geq .u8 t .u8 1 (N.cmp .leq .u8 t .u8 46 (wK2 N M t K true) (wK2 N M t K false)) (wK2 N M t K false)
def wP:Prop:=M.p (F8 x) (F8 x) (wK1 N M t K) (K (.bool false))
def wS(a:Bool):Prop:=M.s (F8 x) (F8 y) (N.bcmp .eql a true (wP N M x t K) (K (.bool false))) (N.bcmp .eql a false (wP N M x t K) (K (.bool false)))
def wE:Prop:=M.p (F8 x) (F8 y) (wS N M x y t K true) (wS N M x y t K false)
def wM(a:Bool):Prop:=M.n (F8 x) (N.bcmp .eql a true (wE N M x y t K) (K (.bool false))) (N.bcmp .eql a false (wE N M x y t K) (K (.bool false)))
end
def gWr(N:Nd)(M:AV7)(x y:A9)(t:Int)(K:Value->Prop):Prop:=wpe Tryz.prog N (AP Z0 Zp [] [] (AXx M) []) 300 (.call 8 [F8 x,F8 y,(.int .u8 t)] h0) (J6 K)
theorem AXs(N:Nd)(M:AV7)(x y:A9)(t:Int)(K:Value->Prop):gWr N M x y t K=M.g (F8 x) (K (.bool true)) (M.g (F8 y) (K (.bool true)) (M.e (F8 x) fun s e=>M.f (F8 x) fun s2 e2=>N.scmp .eql s s2 (N.cmp .eql .i64 e .i64 e2 (M.m (F8 x) (wM N M x y t K true) (wM N M x y t K false)) (K (.bool false))) (K (.bool false)))):=by kernel_rfl
def AXH:ME1:=fun a K=>∃x:A9,a=F8 x/\okR x/\rgP x/\K (bytesOf (J7 x)) (P9 x:Int)
theorem AYi:FY Tryz.prog 100 28 (sE1 AXH):=by
 intro args K h
 unfold sE1 at h
 split at h<;>try exact h.elim
 obtain⟨x,rfl,hx,hr,hK⟩:=h
 exact⟨_,fun B H=>AX0 hx hr B H,hK⟩
def AUL:AV7:=⟨ALT,AK8,AXH,AQs,AXi,AD4 F8 okP Eq,AD4 F8 okP Eq,AQ8,AQ8,ATJ cU8⟩
theorem AXZ:∀x∈AXx AUL,FY Tryz.prog 100 x.1 x.2:=fun x hx=>by
 simp only[AXx,List.mem_cons,List.not_mem_nil,or_false]at hx
 rcases hx with rfl|rfl|rfl|rfl|rfl|rfl|rfl|rfl|rfl|rfl|rfl
 ·exact ASt
 ·exact ASo
 ·exact ASr
 ·exact AYi
 ·exact ATB
 ·exact AXb
 ·exact ATD
 ·exact APS
 ·exact ATA
 ·exact AXw
 ·exact AYm
theorem AXu{x:A9}(h:WC x=false)(hr:rgP x):okR x:=by
 have ho:=ANG h hr
 unfold WC at h
 simp only[Bool.or_eq_false_iff,decide_eq_false_iff_not]at h
 have h1:=h.1
 unfold AI0 at h1
 exact⟨ho,by omega,by omega,by omega,by omega,by omega⟩
abbrev rN:Nd:=real Tryz.prog
abbrev isT:Value->Prop:=fun v=>v = .bool true
theorem wHC{t:Nat}(ht:t<256):wH AUL (t:Int) isT:=⟨t,rfl,ht,t,rfl,ht,YL t 17,YL t 17,rfl,rfl,Nat.lt_of_le_of_lt (AHj _ _) (by decide),fun _=>rfl,fun h=>absurd rfl h⟩
theorem wKC{t:Nat}(ht:t<256):wK1 rN AUL (t:Int) isT:=
 N7 (fun h1=>SL (d:=46) (fun h2=>N7 (fun _=>SL (d:=46) (fun _=>bc (op:=true) (fun _=>wHC ht) (fun h=>absurd rfl h)) (fun h=>absurd h (by omega))) (fun h=>absurd h (by omega)))
  (fun h2=>N7 (fun _=>SL (d:=46) (fun h=>absurd h (by omega)) (fun _=>bc (op:=true) (fun _=>wHC ht) (fun h=>absurd rfl h))) (fun h=>absurd h (by omega))))
  (fun h1=>N7 (fun h=>absurd h (by omega)) (fun _=>bc (op:=true) (fun _=>wHC ht) (fun h=>absurd rfl h)))
theorem wPC{x:A9}(hx:okP x){t:Nat}(ht:t<256):wP rN AUL x (t:Int) isT:=⟨x,x,rfl,rfl,hx,hx,fun _=>wKC ht,fun h=>absurd rfl h⟩
theorem wEC{x y:A9}(hx:okP x)(hy:okP y){t:Nat}(ht:t<256):wE rN AUL x y (t:Int) isT:=
 ⟨x,y,rfl,rfl,hx,hy,fun h=>⟨x,y,rfl,rfl,hx,hy,fun _=>bc (op:=true) (fun _=>wPC hx ht) (fun h=>absurd rfl h),fun h2=>absurd h h2⟩,
  fun h=>⟨x,y,rfl,rfl,hx,hy,fun h2=>absurd h2 h,fun _=>bc (op:=true) (fun _=>wPC hx ht) (fun h=>absurd rfl h)⟩⟩
theorem AYp{x y:A9}{t:Nat}(hl:lnP x)(hl2:lnP y)(hr:rgP x)(hr2:rgP y)(ht:t<256):Is (gWr (real Tryz.prog) AUL x y (t:Int) (fun v=>v = .bool true)):=by
 refine⟨?_⟩
 rw[AXs]
 refine⟨x,rfl,hl,fun _=>rfl,fun hb=>⟨y,rfl,hl2,fun _=>rfl,fun hb2=>?_⟩⟩
 have ox:=AXu hb hr
 have oy:=ANG hb2 hr2
 refine⟨x,rfl,ox.p,x,rfl,ox,hr,OE (fun _=>DZ (fun _=>⟨x,rfl,ox.p,fun h=>⟨x,rfl,ox.p,hr,fun _=>bc (op:=true) (fun _=>wEC ox.p oy ht) (fun h=>absurd rfl h),fun h2=>?_⟩,fun h=>⟨x,rfl,ox.p,hr,fun h2=>?_,fun _=>bc (op:=true) (fun _=>wEC ox.p oy ht) (fun h=>absurd rfl h)⟩⟩) (fun h=>absurd rfl h)) (fun h=>absurd rfl h)⟩
 ·rw[h]at h2;cases h2
 ·rw[h]at h2;cases h2
theorem AXS{x y:A9}{t:Nat}(hl:lnP x)(hl2:lnP y)(hr:rgP x)(hr2:rgP y)(ht:t<256)(B:Base)(H:Heap):BM Tryz.prog 100 B 8 [F8 x,F8 y,.int .u8 (t:Int)] H (.returned (.bool true)) H:=
 kQ okp (EY AXZ) AZ rfl (AYp hl hl2 hr hr2 ht) B H
end
end Go.Proofs.Ob
namespace Go.Proofs.Ob
open Go Go.Abs Go.Tlv
def AHN:List CK:=[.int .u8,.int .u32,.int .i64,.int .i64,.int .i64,.int .i64,.int .i64,.int .u64,.int .u64,.str,.sl 29,.int .i64,.int .i64,.int .i64,.int .i64,.int .i64,.int .i64,.int .i64,.sl 30,.int .i64,.int .i64,.int .u8,.int .i64,.int .i64,.int .i64,.int .i64,.int .u8,.sl 35,.int .i64,.int .i64,.int .i64,.str,.str,.int .i64,.int .i64,.int .i64,.sl 29,.int .i64,.int .i64,.int .u64,.bool,.int .i64,.sl 40,.int .i64,.int .u8,.int .i64,.sl 43,.int .i64,.int .i64,.int .i64,.int .i64,.int .i64]
theorem AKo:flatK Tryz.prog 3 51=some AHN:=by kernel_rfl
theorem wf_i64{z:Int}(h:(Lit.int .i64 z).wf=true):z<=9223372036854775807:=by
 simp[Lit.wf,IntKind.min,IntKind.max,IntKind.signed,IntKind.bits]at h
 omega
theorem YW{z:Int}(h:(Lit.int .i64 z).wf=true) : -9223372036854775808<=z/\z<=9223372036854775807:=by
 simp[Lit.wf,IntKind.min,IntKind.max,IntKind.signed,IntKind.bits]at h
 omega
section
variable {H:Type} {enc:TypeId×Value->H} {W:World} {r:Lv}
theorem ACW(h:GA enc Tryz.prog W 0 (fun _=>true) true [.int .u64] r):∃x:Nat,r=DJ x/\L6 x:=by
 obtain⟨_,r0,rfl,⟨z0,rfl,w0⟩,h⟩:=h
 simp only[GA]at h
 subst h
 obtain⟨m0,rfl,b0⟩:=wf_u64 w0
 exact⟨m0,rfl,b0⟩
theorem jL(h:GA enc Tryz.prog W 0 (fun _=>true) true [.int .u64] r):DV r=true:=by
 obtain⟨_,r0,rfl,⟨z0,rfl,w0⟩,h⟩:=h
 simp only[GA]at h
 subst h
 rfl
theorem AJE(h:GA enc Tryz.prog W 0 (fun _=>true) true [.int .i64] r):∃x:Int,r=EM x/\OL x:=by
 obtain⟨_,r0,rfl,⟨z0,rfl,w0⟩,h⟩:=h
 simp only[GA]at h
 subst h
 exact⟨z0,rfl,trivial⟩
theorem ABa(h:GA enc Tryz.prog W 0 (fun _=>true) true [.int .i64] r):DV r=true:=by
 obtain⟨_,r0,rfl,⟨z0,rfl,w0⟩,h⟩:=h
 simp only[GA]at h
 subst h
 rfl
theorem AJD(h:GA enc Tryz.prog W 0 (fun _=>true) true [.int .u32,.int .i64] r):∃x:Arm,r=D7 x/\AAn x:=by
 obtain⟨_,r0,rfl,⟨z0,rfl,w0⟩,h⟩:=h
 obtain⟨_,r1,rfl,⟨z1,rfl,w1⟩,h⟩:=h
 simp only[GA]at h
 subst h
 obtain⟨m0,rfl,b0⟩:=wf_u32 w0
 exact⟨⟨m0,z1⟩,rfl,b0⟩
theorem AA8(h:GA enc Tryz.prog W 0 (fun _=>true) true [.int .u32,.int .i64] r):DV r=true:=by
 obtain⟨_,r0,rfl,⟨z0,rfl,w0⟩,h⟩:=h
 obtain⟨_,r1,rfl,⟨z1,rfl,w1⟩,h⟩:=h
 simp only[GA]at h
 subst h
 rfl
theorem AEj(h:GA enc Tryz.prog W 0 (fun _=>true) true [.int .u8,.int .i64,.int .u8,.int .u64,.int .u8,.int .u64,.int .i64] r):∃x:Instr,r=BN x/\iM x:=by
 obtain⟨_,r0,rfl,⟨z0,rfl,w0⟩,h⟩:=h
 obtain⟨_,r1,rfl,⟨z1,rfl,w1⟩,h⟩:=h
 obtain⟨_,r2,rfl,⟨z2,rfl,w2⟩,h⟩:=h
 obtain⟨_,r3,rfl,⟨z3,rfl,w3⟩,h⟩:=h
 obtain⟨_,r4,rfl,⟨z4,rfl,w4⟩,h⟩:=h
 obtain⟨_,r5,rfl,⟨z5,rfl,w5⟩,h⟩:=h
 obtain⟨_,r6,rfl,⟨z6,rfl,w6⟩,h⟩:=h
 simp only[GA]at h
 subst h
 obtain⟨m0,rfl,b0⟩:=wf_u8 w0
 obtain⟨m2,rfl,b2⟩:=wf_u8 w2
 obtain⟨m3,rfl,b3⟩:=wf_u64 w3
 obtain⟨m4,rfl,b4⟩:=wf_u8 w4
 obtain⟨m5,rfl,b5⟩:=wf_u64 w5
 exact⟨⟨m0,z1,m2,m3,m4,m5,z6⟩,rfl,b0,b2,b3,b4,b5⟩
theorem tF(h:GA enc Tryz.prog W 0 (fun _=>true) true [.int .u8,.int .i64,.int .u8,.int .u64,.int .u8,.int .u64,.int .i64] r):DV r=true:=by
 obtain⟨_,r0,rfl,⟨z0,rfl,w0⟩,h⟩:=h
 obtain⟨_,r1,rfl,⟨z1,rfl,w1⟩,h⟩:=h
 obtain⟨_,r2,rfl,⟨z2,rfl,w2⟩,h⟩:=h
 obtain⟨_,r3,rfl,⟨z3,rfl,w3⟩,h⟩:=h
 obtain⟨_,r4,rfl,⟨z4,rfl,w4⟩,h⟩:=h
 obtain⟨_,r5,rfl,⟨z5,rfl,w5⟩,h⟩:=h
 obtain⟨_,r6,rfl,⟨z6,rfl,w6⟩,h⟩:=h
 simp only[GA]at h
 subst h
 rfl
theorem AA9(h:GA enc Tryz.prog W 0 (fun _=>true) true [.int .u64,.int .i64] r):∃x:DN,r=BB x/\XA x:=by
 obtain⟨_,r0,rfl,⟨z0,rfl,w0⟩,h⟩:=h
 obtain⟨_,r1,rfl,⟨z1,rfl,w1⟩,h⟩:=h
 simp only[GA]at h
 subst h
 obtain⟨m0,rfl,b0⟩:=wf_u64 w0
 exact⟨⟨m0,z1⟩,rfl,b0⟩
theorem mG(h:GA enc Tryz.prog W 0 (fun _=>true) true [.int .u64,.int .i64] r):DV r=true:=by
 obtain⟨_,r0,rfl,⟨z0,rfl,w0⟩,h⟩:=h
 obtain⟨_,r1,rfl,⟨z1,rfl,w1⟩,h⟩:=h
 simp only[GA]at h
 subst h
 rfl
end
set_option maxRecDepth 100000 in
set_option maxHeartbeats 4000000 in
theorem AMF{H:Type}{enc:TypeId×Value->H}{W:World}{cs1:Lv}(h1:GA enc Tryz.prog W 0 (fun _=>true) true AHN cs1):
  ∃x:A9,VR (jP W) (F8 x) (.agg ⟨cs1⟩)/\lnP x/\rgP x:=by
 unfold AHN at h1
 obtain⟨_,rr0,rfl,⟨a0,rfl,w0⟩,h1⟩:=h1
 obtain⟨_,rr1,rfl,⟨a1,rfl,w1⟩,h1⟩:=h1
 obtain⟨_,rr2,rfl,⟨a2,rfl,w2⟩,h1⟩:=h1
 obtain⟨_,rr3,rfl,⟨a3,rfl,w3⟩,h1⟩:=h1
 obtain⟨_,rr4,rfl,⟨a4,rfl,w4⟩,h1⟩:=h1
 obtain⟨_,rr5,rfl,⟨a5,rfl,w5⟩,h1⟩:=h1
 obtain⟨_,rr6,rfl,⟨a6,rfl,w6⟩,h1⟩:=h1
 obtain⟨_,rr7,rfl,⟨a7,rfl,w7⟩,h1⟩:=h1
 obtain⟨_,rr8,rfl,⟨a8,rfl,w8⟩,h1⟩:=h1
 obtain⟨_,rr9,rfl,⟨a9,rfl,_⟩,h1⟩:=h1
 obtain⟨v10,rr10,rfl,s10,h1⟩:=h1
 obtain⟨_,rr11,rfl,⟨n_id,rfl,w11⟩,h1⟩:=h1
 obtain⟨_,rr12,rfl,⟨n_size,rfl,w12⟩,h1⟩:=h1
 obtain⟨_,rr13,rfl,⟨n_lo,rfl,w13⟩,h1⟩:=h1
 obtain⟨_,rr14,rfl,⟨n_lw,rfl,w14⟩,h1⟩:=h1
 obtain⟨_,rr15,rfl,⟨n_lu,rfl,w15⟩,h1⟩:=h1
 obtain⟨_,rr16,rfl,⟨n_so,rfl,w16⟩,h1⟩:=h1
 obtain⟨_,rr17,rfl,⟨n_sw,rfl,w17⟩,h1⟩:=h1
 obtain⟨v18,rr18,rfl,s18,h1⟩:=h1
 obtain⟨_,rr19,rfl,⟨n_ot,rfl,w19⟩,h1⟩:=h1
 obtain⟨_,rr20,rfl,⟨f_id,rfl,w20⟩,h1⟩:=h1
 obtain⟨_,rr21,rfl,⟨f_base,rfl,w21⟩,h1⟩:=h1
 obtain⟨_,rr22,rfl,⟨f_node,rfl,w22⟩,h1⟩:=h1
 obtain⟨_,rr23,rfl,⟨f_off,rfl,w23⟩,h1⟩:=h1
 obtain⟨_,rr24,rfl,⟨f_wid,rfl,w24⟩,h1⟩:=h1
 obtain⟨_,rr25,rfl,⟨t_id,rfl,w25⟩,h1⟩:=h1
 obtain⟨_,rr26,rfl,⟨t_kind,rfl,w26⟩,h1⟩:=h1
 obtain⟨v27,rr27,rfl,s27,h1⟩:=h1
 obtain⟨_,rr28,rfl,⟨t_cap,rfl,w28⟩,h1⟩:=h1
 obtain⟨_,rr29,rfl,⟨t_miss,rfl,w29⟩,h1⟩:=h1
 obtain⟨_,rr30,rfl,⟨e_tab,rfl,w30⟩,h1⟩:=h1
 obtain⟨_,rr31,rfl,⟨e_key,rfl,_⟩,h1⟩:=h1
 obtain⟨_,rr32,rfl,⟨e_oth,rfl,_⟩,h1⟩:=h1
 obtain⟨_,rr33,rfl,⟨e_len,rfl,w33⟩,h1⟩:=h1
 obtain⟨_,rr34,rfl,⟨e_prio,rfl,w34⟩,h1⟩:=h1
 obtain⟨_,rr35,rfl,⟨e_blk,rfl,w35⟩,h1⟩:=h1
 obtain⟨v36,rr36,rfl,s36,h1⟩:=h1
 obtain⟨_,rr37,rfl,⟨e_idle,rfl,w37⟩,h1⟩:=h1
 obtain⟨_,rr38,rfl,⟨e_hard,rfl,w38⟩,h1⟩:=h1
 obtain⟨_,rr39,rfl,⟨e_cook,rfl,w39⟩,h1⟩:=h1
 obtain⟨_,rr40,rfl,⟨e_tell,rfl⟩,h1⟩:=h1
 obtain⟨_,rr41,rfl,⟨b_id,rfl,w41⟩,h1⟩:=h1
 obtain⟨v42,rr42,rfl,s42,h1⟩:=h1
 obtain⟨_,rr43,rfl,⟨g_id,rfl,w43⟩,h1⟩:=h1
 obtain⟨_,rr44,rfl,⟨g_kind,rfl,w44⟩,h1⟩:=h1
 obtain⟨_,rr45,rfl,⟨g_fld,rfl,w45⟩,h1⟩:=h1
 obtain⟨v46,rr46,rfl,s46,h1⟩:=h1
 obtain⟨_,rr47,rfl,⟨m_id,rfl,w47⟩,h1⟩:=h1
 obtain⟨_,rr48,rfl,⟨m_rate,rfl,w48⟩,h1⟩:=h1
 obtain⟨_,rr49,rfl,⟨m_burst,rfl,w49⟩,h1⟩:=h1
 obtain⟨_,rr50,rfl,⟨r_id,rfl,w50⟩,h1⟩:=h1
 obtain⟨_,rr51,rfl,⟨r_size,rfl,w51⟩,h1⟩:=h1
 simp only[GA]at h1
 subst h1
 obtain⟨a0,rfl,bb0⟩:=wf_u8 w0
 obtain⟨a1,rfl,bb1⟩:=wf_u32 w1
 obtain⟨a7,rfl,bb7⟩:=wf_u64 w7
 obtain⟨a8,rfl,bb8⟩:=wf_u64 w8
 obtain⟨f_base,rfl,bb21⟩:=wf_u8 w21
 obtain⟨t_kind,rfl,bb26⟩:=wf_u8 w26
 obtain⟨e_cook,rfl,bb39⟩:=wf_u64 w39
 obtain⟨g_kind,rfl,bb44⟩:=wf_u8 w44
 obtain⟨rows10,hr10,hl10,hv10⟩:=OW (ks:=[.int .u64]) (d:=3) (t:=29) (e:=28) (by kernel_rfl) (by kernel_rfl) (by kernel_rfl) (by simp) (Nat.le_of_ble_eq_true (by kernel_rfl)) (fun _ h=>jL h) s10
 obtain⟨a10,rfl,wl10⟩:=YB (c:=DJ) (wf:=L6) (fun r h=>ACW (hr10 r h))
 rw[List.length_map]at hl10
 rw[List.map_map]at hv10
 obtain⟨rows18,hr18,hl18,hv18⟩:=OW (ks:=[.int .u32,.int .i64]) (d:=3) (t:=30) (e:=61) (by kernel_rfl) (by kernel_rfl) (by kernel_rfl) (by simp) (Nat.le_of_ble_eq_true (by kernel_rfl)) (fun _ h=>AA8 h) s18
 obtain⟨n_arms,rfl,wl18⟩:=YB (c:=D7) (wf:=AAn) (fun r h=>AJD (hr18 r h))
 rw[List.length_map]at hl18
 rw[List.map_map]at hv18
 obtain⟨rows27,hr27,hl27,hv27⟩:=OW (ks:=[.int .i64]) (d:=3) (t:=35) (e:=3) (by kernel_rfl) (by kernel_rfl) (by kernel_rfl) (by simp) (Nat.le_of_ble_eq_true (by kernel_rfl)) (fun _ h=>ABa h) s27
 obtain⟨t_keys,rfl,wl27⟩:=YB (c:=EM) (wf:=OL) (fun r h=>AJE (hr27 r h))
 rw[List.length_map]at hl27
 rw[List.map_map]at hv27
 obtain⟨rows36,hr36,hl36,hv36⟩:=OW (ks:=[.int .u64]) (d:=3) (t:=29) (e:=28) (by kernel_rfl) (by kernel_rfl) (by kernel_rfl) (by simp) (Nat.le_of_ble_eq_true (by kernel_rfl)) (fun _ h=>jL h) s36
 obtain⟨e_args,rfl,wl36⟩:=YB (c:=DJ) (wf:=L6) (fun r h=>ACW (hr36 r h))
 rw[List.length_map]at hl36
 rw[List.map_map]at hv36
 obtain⟨rows42,hr42,hl42,hv42⟩:=OW (ks:=[.int .u8,.int .i64,.int .u8,.int .u64,.int .u8,.int .u64,.int .i64]) (d:=3) (t:=40) (e:=66) (by kernel_rfl) (by kernel_rfl) (by kernel_rfl) (by simp) (Nat.le_of_ble_eq_true (by kernel_rfl)) (fun _ h=>tF h) s42
 obtain⟨b_code,rfl,wl42⟩:=YB (c:=BN) (wf:=iM) (fun r h=>AEj (hr42 r h))
 rw[List.length_map]at hl42
 rw[List.map_map]at hv42
 obtain⟨rows46,hr46,hl46,hv46⟩:=OW (ks:=[.int .u64,.int .i64]) (d:=3) (t:=43) (e:=181) (by kernel_rfl) (by kernel_rfl) (by kernel_rfl) (by simp) (Nat.le_of_ble_eq_true (by kernel_rfl)) (fun _ h=>mG h) s46
 obtain⟨g_bks,rfl,wl46⟩:=YB (c:=BB) (wf:=XA) (fun r h=>AA9 (hr46 r h))
 rw[List.length_map]at hl46
 rw[List.map_map]at hv46
 exact⟨⟨a0,a1,a2,a3,a4,a5,a6,a7,a8,a9,a10,⟨n_id,n_size,n_lo,n_lw,n_lu,n_so,n_sw,n_arms,n_ot⟩,⟨f_id,f_base,f_node,f_off,f_wid⟩,⟨t_id,t_kind,t_keys,t_cap,t_miss⟩,⟨e_tab,e_key,e_oth,e_len,e_prio,e_blk,e_args,e_idle,e_hard,e_cook,e_tell⟩,⟨b_id,b_code⟩,⟨g_id,g_kind,g_fld,g_bks⟩,⟨m_id,m_rate,m_burst⟩,⟨r_id,r_size⟩⟩,ANi (CP EO (CP EO (CP EO (CP EO (CP EO (CP EO (CP EO (CP EO (CP EO (CP wB (CP hv10 (CP EO (CP EO (CP EO (CP EO (CP EO (CP EO (CP EO (CP hv18 (CP EO (CP EO (CP EO (CP EO (CP EO (CP EO (CP EO (CP EO (CP hv27 (CP EO (CP EO (CP EO (CP wB (CP wB (CP EO (CP EO (CP EO (CP hv36 (CP EO (CP EO (CP EO (CP AKX (CP EO (CP hv42 (CP EO (CP EO (CP EO (CP hv46 (CP EO (CP EO (CP EO (CP EO (CP EO AI5)))))))))))))))))))))))))))))))))))))))))))))))))))),⟨hl10,hl18,hl27,hl36,hl42,hl46⟩,⟨bb0,bb1,bb7,bb8,YW w2,YW w3,YW w4,YW w5,YW w6,wl10,⟨wl18,bb21,bb26,⟨wl36,bb39,wf_i64 w37,wf_i64 w38⟩,wl42,⟨bb44,wl46⟩,⟨wf_i64 w48,wf_i64 w49⟩,trivial⟩⟩⟩
theorem AHr{P:Program}{w:World}{name:String}{g:Nat}{t e:TypeId}{n:Nat}{k:IntKind}(l:List Int)(hg:P.globalNamed name=some g)(ht:(P.globals[g]?).map (·.type)=some t)
  (hu:P.underlying t=some (.array n e)) (he:P.underlying e=some (.int k)) (hc:P.cellsOf e=1) (hn:n=l.length) (hct:P.cellsOf t=n) {r:List (String×DataW Unit)}
  (h:laidMet P ((name,.agg (l.map fun v => .lit (.int k v)))::r) w):∃t fz,w.heap[g]?=some (.cells (l.map (Value.int k)).toArray t fz):=by
 obtain⟨ps,⟨g0,t0,cs0,f0,p0,q0,hg0,ht0,hv0,hd0,_,_⟩,_,_⟩:=h
 obtain rfl:=Option.some.inj (hg.symm.trans hg0)
 obtain rfl:=Option.some.inj (ht.symm.trans ht0)
 have hcs:=vG hu he hc hn hct hd0
 simp only[World.var?,hg,Option.bind_some]at hv0
 split at hv0
 ·rename_i c t' fz hb
  simp only[Option.some.injEq]at hv0;subst hv0
  exact⟨t',fz,by rw[hb,←hcs]⟩
 ·cases hv0
theorem ATb{H:Type}{enc:TypeId×Value->H}{W:World}{cs1:Lv}(h1:GA enc Tryz.prog W 0 (fun _=>true) true [.int .u8] cs1):∃n:Nat,cs1=[.int .u8 (n:Int)]/\n<256:=by
 obtain⟨_,r,rfl,⟨z,rfl,w⟩,h1⟩:=h1
 simp only[GA]at h1
 subst h1
 obtain⟨n,rfl,hn⟩:=wf_u8 w
 exact⟨n,rfl,hn⟩
end Go.Proofs.Ob
