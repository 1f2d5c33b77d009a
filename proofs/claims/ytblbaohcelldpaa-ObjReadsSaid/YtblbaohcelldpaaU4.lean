/- Items read: what the code comes to. -/
import Derived.Test.YtblbaohcelldpaaU3
set_option linter.all false
namespace Go.Tlv
open Go Go.Abs
theorem enc_len:∀(l:List At) (last:Nat),(∀a∈l,a.t<256)->encE last l=0->last<256->l.length+last<=255
 | [],last,_,_,h=>by simp;omega
 |a::l,last,ht,h,_=>by
  simp only[encE]at h
  split at h
  ·omega
  ·split at h
   ·omega
   ·have h3:=ht a (List.mem_cons_self ..)
    have:=enc_len l a.t (fun x hx=>ht x (List.mem_cons_of_mem _ hx)) h h3
    simp only[List.length_cons];omega
theorem dec_len(s:List UInt8):(decE 0 s).2.length<=255:=by
 by_cases h:(decE 0 s).1=0
 ·obtain⟨h1,h2,h3⟩:=decE_ok s.length s 0 _ (Nat.le_refl _) (Prod.ext h rfl)
  have:=enc_len _ 0 h3 h1 (by omega)
  omega
 ·rw[decE_err _ _ h];simp
structure InvX{α:Type}(step:α->At->Option α)(z:α)(l:List At)(x:α)(i:Nat):Prop where
 le:i<=l.length
 eq:run step z l=run step x (l.drop i)
abbrev StX{α:Type}(step:α->At->Option α)(z:α)(l:List At):={p:α×Nat // InvX step z l p.1 p.2}
section
variable {α:Type} {step:α->At->Option α} {z:α} {l:List At} {x:α} {i:Nat}
theorem InvX.one(inv:InvX step z l x i){a:At}(ha:l[i]?=some a):run step z l=match step x a with
  |some y=>run step y (l.drop (i+1))
  |none=>none:=by
 have hlt:i<l.length:=(List.getElem?_eq_some_iff.1 ha).1
 have h2:=List.drop_eq_getElem_cons hlt
 rw[List.getElem?_eq_getElem hlt]at ha
 simp only[Option.some.injEq]at ha
 rw[inv.eq,h2,ha]
 rfl
theorem InvX.next(inv:InvX step z l x i){a:At}{y:α}(ha:l[i]?=some a)(hs:step x a=some y):InvX step z l y (i+1):=
 ⟨(List.getElem?_eq_some_iff.1 ha).1,by rw[inv.one ha,hs]⟩
theorem InvX.bad(inv:InvX step z l x i){a:At}(ha:l[i]?=some a)(hs:step x a=none):run step z l=none:=by rw[inv.one ha,hs]
theorem InvX.last(inv:InvX step z l x i)(h:l.length<=i):run step z l=some x:=by
 rw[inv.eq,List.drop_eq_nil_of_le h];rfl
end
end Go.Tlv
namespace Go.Proofs.Ytblbaohcelldpaa.Ob
open Go Go.Abs Go.Tlv
set_option maxRecDepth 100000
noncomputable section
theorem uLong:Try.prog.underlying 2=some (.int .i64):=by kernel_rfl
theorem rowsT_get{l:List At}{i:Nat}{a:At}(h:l[i]?=some a):(rowsT l)[i]?=some (.agg ⟨[.int .u8 (a.t:Int),.string a.v]⟩):=by
 unfold rowsT;rw[List.getElem?_map,h];rfl
theorem rowsT_len(l:List At):(rowsT l).length=l.length:=List.length_map _
theorem preb{a b:AObj}(ha:belowO 102 (some a)=true)(hb:belowO 102 (some b)=true):∀(i:Nat) o,([some a,some b]:List (Option AObj))[i]?=some (some o)->belowO (100+2) (some o)=true:=by
 intro i o h
 rcases i with _|_|i
 ·simp only[List.getElem?_cons_zero,Option.some.injEq]at h;subst h;exact ha
 ·simp only[List.getElem?_cons_succ,List.getElem?_cons_zero,Option.some.injEq]at h;subst h;exact hb
 ·simp at h
theorem wk_x{vals:List Value}{r x:AObj}{extra:List (Option AObj)}(hr:belowO 102 (some r)=true)(hx:belowO 102 (some x)=true)(hv:belowL (100+2) vals=true:=by rfl):Wk 100 (100+2) vals (some r::some x::extra) vals [some r,some x]:=
 wk_drop (k0:=2) (pre:=[some r,some x]) rfl hv (preb hr hx)
theorem wk_y{vals:List Value}{r x:AObj}{extra:List (Option AObj)}(hr:belowO 102 (some r)=true)(hx:belowO 102 (some x)=true)(hv:belowL (100+2) vals=true:=by rfl):Wk 100 (100+2) vals (some r::some x::extra) vals [some r,none]:=
 (wk_x hr hx hv).trans (wk_weak (WeakL.refl _) (.cons (.refl _) (.cons (.none _) .nil)))
theorem pu_two{a b:FuncId×(List Value->(Value->Prop)->Prop)}(h1:PuOk Try.prog 100 a.1 a.2)(h2:PuOk Try.prog 100 b.1 b.2):∀x∈[a,b],PuOk Try.prog 100 x.1 x.2:=fun x hx=>by
 simp only[List.mem_cons,List.not_mem_nil,or_false]at hx
 rcases hx with rfl|rfl
 ·exact h1
 ·exact h2
theorem pu_one1{a:FuncId×(List Value->(Value->Prop)->Prop)}(h1:PuOk Try.prog 100 a.1 a.2):∀x∈[a],PuOk Try.prog 100 x.1 x.2:=fun x hx=>by
 simp only[List.mem_singleton]at hx;subst hx;exact h1
theorem callh_sub{P:Program}{B:Base}{f:FuncId}{args:List Value}{H H1 H2:Heap}{e:Ending}(h:CallH P 100 B f args H e H1)(hg:∀n o,H2.get n=some o->H1.get n=some o)(hn:H2.next=H1.next):CallH P 100 B f args H e H2:=
 fun F w x R ha=>(h F w x R ha).mono fun e' w' ⟨F',h1,h2,R'⟩=>⟨F',h1,h2,R'.part hg hn⟩
theorem one_lift{f:FuncId}{rest:List Value}(hrest:belowL 0 rest=true){s:ByteArray}{b:Bool}{v:Value}(hv:below 0 v=true)(hC:∀B,CallH Try.prog 100 B f (pA 100::rest) (hR s) (.returned v) (hOf 100 [] [some (rdC s b)]))
  {H:Heap} {p:Nat} (hg:H.get p=some (rdC s false)) (hp:ok1 H p=true) (B:Base):CallH Try.prog 100 B f (.pointer (some ⟨p,0,none⟩)::rest) H (.returned v) (putAll H [p] [some (rdC s b)]):=by
 unfold ok1 at hp
 simp only[Bool.and_eq_true]at hp
 have hp1:=Nat.le_of_ble_eq_true hp.1
 have hp2:p<H.next:=Nat.le_of_ble_eq_true hp.2
 have h2:=liftO (ins:=[some (rdC s false)]) (upd:=[some (rdC s b)]) (new:=[]) rfl (fun i hi=>by cases i<;>simp at hi) rfl hC (H:=H) (ns:=[p]) rfl (by simp) (fun m hm=>by simp only[List.mem_singleton]at hm;subst hm;exact⟨hp1,hp2⟩)
  (fun i o hi=>by
   cases i with
   |succ i=>simp at hi
   |zero=>
    simp only[List.getElem?_cons_zero,Option.some.injEq]at hi;subst hi
    exact⟨p,rfl,hg⟩) B
 have hτ:tau 100 [p] H.next 100=p:=tau_in (Nat.le_refl _) rfl
 have e1:vrenL (tau 100 [p] H.next) rest=rest:=vrenL_below (n0:=0) (fun n h=>by omega) rest hrest
 have e2:vren (tau 100 [p] H.next) v=v:=vren_below (n0:=0) (fun n h=>by omega) v hv
 have ha:vrenL (tau 100 [p] H.next) (pA 100::rest) = .pointer (some ⟨p,0,none⟩)::rest:=by
  simp only[vrenL,pA,vren,hτ,e1]
 rw[ha]at h2
 simp only[eren,e2,List.map_cons,List.map_nil,Option.map_some,oren,rdC,vrenL,vren]at h2
 exact h2
theorem put_same{H:Heap}{p:Nat}{ob:AObj}(hg:H.get p=some ob):∀n o,H.get n=some o->(putAll H [p] [some ob]).get n=some o:=by
 intro n o hn
 have hpg:=putAll_get [p] [some ob] H n rfl (by simp)
 by_cases e:n=p
 ·subst e
  rw[hpg.1 0 rfl]
  rw[hg]at hn;exact hn
 ·rw[hpg.2 (by simpa using e)];exact hn
theorem isRd_eq{e sz:Nat}{lo ow:Bool}(h:isRd e sz lo ow=true){s:ByteArray}{b:Bool}:AObj.cells [.string s,.bool b] e sz lo ow=rdC s b:=by
 simp only[isRd,Bool.and_eq_true,Bool.not_eq_true']at h
 obtain⟨h1,h2,h3,h4⟩:=h
 rw[Nat.eq_of_beq_eq_true h1,Nat.eq_of_beq_eq_true h2,h3,h4];rfl
theorem rd_any{f:FuncId}{rest:List Value}(hrest:belowL 0 rest=true){s:ByteArray}{b:Bool}{v:Value}(hv:below 0 v=true)(hC:∀B,CallH Try.prog 100 B f (pA 100::rest) (hR s) (.returned v) (hOf 100 [] [some (rdC s b)]))
  {H:Heap} {p:Nat} (hg:H.get p=some (rdC s false)) (hp:ok1 H p=true) (B:Base):CallH Try.prog 100 B f (.pointer (some ⟨p,0,none⟩)::rest) H (.returned v) (match b with|false=>H|true=>putAll H [p] [some (rdC s true)]):=by
 have h:=one_lift hrest hv hC hg hp B
 cases b with
 |true=>exact h
 |false=>exact callh_sub h (put_same hg) rfl
theorem call_okI{W:How}(hkn:KnOk Try.prog 100 W)(hlp:LpOk Try.prog 100 W){n:Nat}{f:FuncId}{args:List Value}{H:Heap}{K:RK}(h:Is (wpe Try.prog (real Try.prog) W n (.call f args H) (retQ 100 K))):
 ∃v objs,K v objs/\∀B,CallH Try.prog 100 B f args H (.returned v) (hOf 100 [] objs):=call_ok okp hkn hlp h.out
theorem wk_r{v:Value}{s:ByteArray}{b:Bool}{extra:List (Option AObj)}(hv:belowL (100+1) [v]=true:=by rfl):Wk 100 (100+1) [v] (some (rdC s b)::extra) [v] [some (rdC s b)]:=
 wk_drop (k0:=1) (pre:=[some (rdC s b)]) rfl hv (fun i o h=>by
  cases i with
  |zero=>simp only[List.getElem?_cons_zero,Option.some.injEq]at h;subst h;rfl
  |succ i=>simp at h)
def MOrInt:MOInt:=fun s A E=>(∀x:Int,rdInt s.data.toList=some x->A x)/\(rdInt s.data.toList=none->∀x:Int,E x)
def QOInt(s:ByteArray):RK:=fun v objs=>∃(x:Int) (b:Bool),((b=false/\rdInt s.data.toList=some x)∨(b=true/\rdInt s.data.toList=none))/\v = .int .i64 x/\Wk 100 (100+1) [v] objs [v] [some (rdC s b)]
theorem rdCInt(s:ByteArray):Is (gRdInt (real Try.prog) MRN s (QOInt s)):=by
 refine⟨?_⟩
 rw[gRdInt_eq]
 exact⟨2147483647,rfl,fun n hn=>n_fit uU64 uI64 (fit_i64 (by have:=(rnum_ok hn).2.1;omega)) ⟨(n:Int),false,.inl ⟨rfl,by unfold rdInt getI;rw[hn];rfl⟩,rfl,wk_r⟩,fun hn=>n_fit (m:=0) uU64 uI64 (fit_i64 (by omega)) ⟨0,true,.inr ⟨rfl,by unfold rdInt getI;rw[hn];rfl⟩,rfl,wk_r⟩⟩
theorem okOneInt:SumOk Try.prog 100 61 (sOneInt MOrInt):=by
 intro args H K h
 unfold sOneInt at h
 split at h<;>try exact h.elim
 rename_i p
 split at h<;>try exact h.elim
 rename_i s e sz lo ow hg
 split at h<;>try exact h.elim
 rename_i hc
 simp only[Bool.and_eq_true]at hc
 rw[isRd_eq hc.1]at hg
 obtain⟨v,objs,⟨x,b,hb,rfl,hw⟩,hC⟩:=call_okI (kn_pu (pu_one1 puRN)) lp_none (rdCInt s)
 have hC2:∀B,CallH Try.prog 100 B 61 [pA 100] (hR s) (.returned (.int .i64 x)) (hOf 100 [] [some (rdC s b)]):=fun B=>call_wk (hC B) hw
 rcases hb with⟨rfl,hx⟩ | ⟨rfl,hx⟩
 ·exact⟨_,_,fun B=>rd_any (rest:=[]) rfl rfl hC2 hg hc.2 B,h.1 x hx⟩
 ·exact⟨_,_,fun B=>rd_any (rest:=[]) rfl rfl hC2 hg hc.2 B,h.2 hx x⟩
def MOrNat:MONat:=fun s A E=>(∀x:Nat,rdNat s.data.toList=some x->A (x:Int))/\(rdNat s.data.toList=none->∀x:Nat,E (x:Int))
def QONat(s:ByteArray):RK:=fun v objs=>∃(x:Nat) (b:Bool),((b=false/\rdNat s.data.toList=some x)∨(b=true/\rdNat s.data.toList=none))/\v = .int .u64 (x:Int)/\Wk 100 (100+1) [v] objs [v] [some (rdC s b)]
theorem rdCNat(s:ByteArray):Is (gRdNat (real Try.prog) MRN s (QONat s)):=by
 refine⟨?_⟩
 rw[gRdNat_eq]
 exact⟨18446744073709551615,rfl,fun n hn=>⟨n,false,.inl ⟨rfl,hn⟩,rfl,wk_r⟩,fun hn=>⟨0,true,.inr ⟨rfl,hn⟩,rfl,wk_r⟩⟩
theorem okOneNat:SumOk Try.prog 100 79 (sOneNat MOrNat):=by
 intro args H K h
 unfold sOneNat at h
 split at h<;>try exact h.elim
 rename_i p
 split at h<;>try exact h.elim
 rename_i s e sz lo ow hg
 split at h<;>try exact h.elim
 rename_i hc
 simp only[Bool.and_eq_true]at hc
 rw[isRd_eq hc.1]at hg
 obtain⟨v,objs,⟨x,b,hb,rfl,hw⟩,hC⟩:=call_okI (kn_pu (pu_one1 puRN)) lp_none (rdCNat s)
 have hC2:∀B,CallH Try.prog 100 B 79 [pA 100] (hR s) (.returned (.int .u64 (x:Int))) (hOf 100 [] [some (rdC s b)]):=fun B=>call_wk (hC B) hw
 rcases hb with⟨rfl,hx⟩ | ⟨rfl,hx⟩
 ·exact⟨_,_,fun B=>rd_any (rest:=[]) rfl rfl hC2 hg hc.2 B,h.1 x hx⟩
 ·exact⟨_,_,fun B=>rd_any (rest:=[]) rfl rfl hC2 hg hc.2 B,h.2 hx x⟩
def MOrArm:MOArm:=fun s A E=>(∀x:Arm,rdArm s.data.toList=some x->A (x.v:Int) x.nx)/\(rdArm s.data.toList=none->∀x:Arm,E (x.v:Int) x.nx)
def QOArm(s:ByteArray):RK:=fun v objs=>∃(x:Arm) (b:Bool),((b=false/\rdArm s.data.toList=some x)∨(b=true/\rdArm s.data.toList=none))/\v = .agg ⟨cArm x⟩/\Wk 100 (100+1) [v] objs [v] [some (rdC s b)]
def xbArm(x:Arm):AObj := .cells [.int .u32 (x.v:Int),.int .i64 x.nx] 76 2 false true
def IXArm(r:AObj)(l:List At)(p:StX stepArm zArm l):List Value×List (Option AObj):=([.func (.func 101) ⟨[]⟩ ⟨[pA 101]⟩,dsl (rowsT l),.int .i64 (l.length:Int),.int .i64 (p.1.2:Int)],[some r,some (xbArm p.1.1)])
def RXArm(r:AObj)(l:List At)(e:Exit)(v:List Value)(o:List (Option AObj)):Prop:=
 (∃x,run stepArm zArm l=some x/\e = .exit 0/\v=[top]/\o=[some r,some (xbArm x)])∨(run stepArm zArm l=none/\e = .ret/\v=[.int .i64 3]/\∃y,o=[some r,some (xbArm y)])
theorem rndXArm(r:AObj)(hr:belowO 102 (some r)=true)(l:List At)(hl:l.length<=255)(p:StX stepArm zArm l):
  Is (wpe Try.prog (real Try.prog) (howOf Z0 Zp [] [] (puDN MD MRN) [(28,23),(37,16),(20,11)]) 300 (.code false (loopIn Try.prog 59 5) (stOf 100 37 [1,18,19,20] [] (IXArm r l p))) (roundQ 100 [1,18,19,20] [4] 37 []
   (fun vals objs=>∃a':StX stepArm zArm l,l.length-a'.1.2<l.length-p.1.2/\Wk 100 (100+2) vals objs (IXArm r l a').1 (IXArm r l a').2/\∀e v o,RXArm r l e v o->RXArm r l e v o)
   (fun e vals objs=>∃v o,Wk 100 (100+2) vals objs v o/\RXArm r l e v o))):=by
 refine⟨?_⟩
 obtain⟨⟨x,i⟩,inv⟩:=p
 have hle:i<=l.length:=inv.le
 show gRdArmR (real Try.prog) MD MRN (some r) (x.v:Int) x.nx (rowsT l) (l.length:Int) (i:Int) _ _
 rw[gRdArmR_eq]
 refine n_ltN (fun hlt=>?_) (fun hge=>?_)
 ·have ha:l[i]?=some l[i]:=List.getElem?_eq_getElem hlt
  generalize l[i]=a at ha
  have hms:l.length-(i+1)<l.length-i:=by omega
  refine n_dget i rfl (rowsT_get ha) rfl (n_rdI (z:=(a.t:Int)) rfl (n_rdS (z:=a.v) rfl ?_))
  refine n_eqN (d:=1) (fun h=>?_) (fun hn1=>?_)
  ·refine⟨4294967295,rfl,fun n hn=>?_,fun hn=>?_⟩
   ·have hs:stepArm x a=some {x with v:=n}:=by unfold stepArm;rw[h];show(getN 4294967295 a.v.data.toList).map _=_;unfold getN;rw[hn];rfl
    exact n_fit uU64 uU32 (fit_u32 (by have:=(rnum_ok hn).2.1;omega)) (n_inc (by omega) ⟨rfl,⟨({x with v:=n},i+1),inv.next ha hs⟩,hms,wk_x hr rfl,fun _ _ _ h=>h⟩)
   ·have hs:stepArm x a=none:=by unfold stepArm;rw[h];show(getN 4294967295 a.v.data.toList).map _=_;unfold getN;rw[hn];rfl
    exact n_fit (m:=0) uU64 uU32 (fit_u32 (by omega)) ⟨rfl,_,_,wk_x hr rfl,.inr ⟨inv.bad ha hs,rfl,rfl,{x with v:=0},rfl⟩⟩
  refine n_eqN (d:=2) (fun h=>?_) (fun hn2=>?_)
  ·refine⟨2147483647,rfl,fun n hn=>?_,fun hn=>?_⟩
   ·have hs:stepArm x a=some {x with nx:=(n:Int)}:=by unfold stepArm;rw[h];show(getI 2147483647 a.v.data.toList).map _=_;unfold getI;rw[hn];rfl
    exact n_fit uU64 uI64 (fit_i64 (by have:=(rnum_ok hn).2.1;omega)) (n_inc (by omega) ⟨rfl,⟨({x with nx:=(n:Int)},i+1),inv.next ha hs⟩,hms,wk_x hr rfl,fun _ _ _ h=>h⟩)
   ·have hs:stepArm x a=none:=by unfold stepArm;rw[h];show(getI 2147483647 a.v.data.toList).map _=_;unfold getI;rw[hn];rfl
    exact n_fit (m:=0) uU64 uI64 (fit_i64 (by omega)) ⟨rfl,_,_,wk_x hr rfl,.inr ⟨inv.bad ha hs,rfl,rfl,{x with nx:=0},rfl⟩⟩
  have hs:stepArm x a=none:=by
   unfold stepArm
   split<;>first|rfl|contradiction
  exact⟨rfl,_,_,wk_x hr rfl,.inr ⟨inv.bad ha hs,rfl,rfl,x,rfl⟩⟩
 ·exact⟨rfl,_,_,Wk.refl _ _ _ _,.inl ⟨x,inv.last (by omega),rfl,rfl,rfl⟩⟩
def LXrArm(r:AObj):LXArm:=fun c n vals obs A E=>∃l:List At,l.length<=255/\c=loopIn Try.prog 59 5/\n=37/\vals=[.func (.func 101) ⟨[]⟩ ⟨[pA 101]⟩,dsl (rowsT l),.int .i64 (Int.ofNat l.length),.int .i64 (0:Int)]/\obs=[some r,some (.cells [.int .u32 0,.int .i64 0] 76 2 false true)]/\
 (∀x,run stepArm zArm l=some x->A (x.v:Int) x.nx)/\(run stepArm zArm l=none->∀x:Arm,E (x.v:Int) x.nx)
theorem lpXArm(r:AObj)(hr:belowO 102 (some r)=true):LoopOk Try.prog 100 [1,18,19,20] (sLoArm (LXrArm r)):=by
 show LoopOk Try.prog 100 [1,18,19,20] (lpS [4] _)
 refine lp_mk okp (W:=(howOf Z0 Zp [] [] (puDN MD MRN) [(28,23),(37,16),(20,11)])) (kn_pu (pu_two puDec puRN)) lp_none ?_
 intro c n vals obs K h
 split at h<;>try exact h.elim
 obtain⟨l,hl,hc,hn,hv,ho,hA,hE⟩:=h
 subst hc;subst hn;subst hv
 simp only[List.cons.injEq]at ho
 obtain⟨rfl,rfl⟩:=ho
 refine⟨StX stepArm zArm l,2,300,fun p=>l.length-p.1.2,IXArm r l,fun _ e v o=>RXArm r l e v o,⟨(zArm,0),⟨Nat.zero_le _,rfl⟩⟩,rfl,Wk.refl _ _ _ _,?_,rndXArm r hr l hl⟩
 intro e v o hR
 rcases hR with⟨x,h1,rfl,rfl,rfl⟩ | ⟨h1,rfl,rfl,y,rfl⟩
 ·exact hA x h1
 ·exact hE h1 y
theorem rdO_someArm{s:List UInt8}{x:Arm}(h0:(decE 0 s).1=0)(h:run stepArm zArm (decE 0 s).2=some x):rdArm s=some x:=by
 unfold rdArm rdO rdE;rw[if_pos h0,h];rfl
theorem rdO_noneArm{s:List UInt8}(h0:(decE 0 s).1=0)(h:run stepArm zArm (decE 0 s).2=none):rdArm s=none:=by
 unfold rdArm rdO rdE;rw[if_pos h0,h];rfl
theorem rdO_errArm{s:List UInt8}(h0:(decE 0 s).1≠0):rdArm s=none:=by
 unfold rdArm rdO rdE;rw[if_neg h0,if_neg h0]
theorem rdCArm(s:ByteArray):Is (gRdArm (real Try.prog) MD MRN (LXrArm (rdC s false)) s (QOArm s)):=by
 refine⟨?_⟩
 rw[gRdArm_eq]
 exact⟨fun h0=>n_dlen _ (rowsT_len _) ⟨_,dec_len _,rfl,rfl,rfl,rfl,fun x hx=>⟨x,false,.inl ⟨rfl,rdO_someArm h0 hx⟩,rfl,wk_r⟩,fun hx x=>⟨x,true,.inr ⟨rfl,rdO_noneArm h0 hx⟩,rfl,wk_r⟩⟩,
  fun h3=>⟨zArm,true,.inr ⟨rfl,rdO_errArm (by omega)⟩,rfl,wk_r⟩,fun h4=>⟨zArm,true,.inr ⟨rfl,rdO_errArm (by omega)⟩,rfl,wk_r⟩⟩
theorem okOneArm:SumOk Try.prog 100 71 (sOneArm MOrArm):=by
 intro args H K h
 unfold sOneArm at h
 split at h<;>try exact h.elim
 rename_i p
 split at h<;>try exact h.elim
 rename_i s e sz lo ow hg
 split at h<;>try exact h.elim
 rename_i hc
 simp only[Bool.and_eq_true]at hc
 rw[isRd_eq hc.1]at hg
 obtain⟨v,objs,⟨x,b,hb,rfl,hw⟩,hC⟩:=call_okI (kn_pu (pu_two puDec puRN)) (lp_ok (fun x hx=>by simp only[List.mem_singleton]at hx;subst hx;exact lpXArm (rdC s false) rfl)) (rdCArm s)
 have hC2:∀B,CallH Try.prog 100 B 71 [pA 100] (hR s) (.returned (.agg ⟨cArm x⟩)) (hOf 100 [] [some (rdC s b)]):=fun B=>call_wk (hC B) hw
 rcases hb with⟨rfl,hx⟩ | ⟨rfl,hx⟩
 ·exact⟨_,_,fun B=>rd_any (rest:=[]) rfl rfl hC2 hg hc.2 B,h.1 x hx⟩
 ·exact⟨_,_,fun B=>rd_any (rest:=[]) rfl rfl hC2 hg hc.2 B,h.2 hx x⟩
def MOrInstr:MOInstr:=fun s A E=>(∀x:Instr,rdInstr s.data.toList=some x->A (x.op:Int) x.to (x.ak:Int) (x.an:Int) (x.bk:Int) (x.bn:Int) x.n)/\(rdInstr s.data.toList=none->∀x:Instr,E (x.op:Int) x.to (x.ak:Int) (x.an:Int) (x.bk:Int) (x.bn:Int) x.n)
def QOInstr(s:ByteArray):RK:=fun v objs=>∃(x:Instr) (b:Bool),((b=false/\rdInstr s.data.toList=some x)∨(b=true/\rdInstr s.data.toList=none))/\v = .agg ⟨cInstr x⟩/\Wk 100 (100+1) [v] objs [v] [some (rdC s b)]
def xbInstr(x:Instr):AObj := .cells [.int .u8 (x.op:Int),.int .i64 x.to,.int .u8 (x.ak:Int),.int .u64 (x.an:Int),.int .u8 (x.bk:Int),.int .u64 (x.bn:Int),.int .i64 x.n] 70 7 false true
def IXInstr(r:AObj)(l:List At)(p:StX stepInstr zInstr l):List Value×List (Option AObj):=([.func (.func 104) ⟨[]⟩ ⟨[pA 101]⟩,dsl (rowsT l),.int .i64 (l.length:Int),.int .i64 (p.1.2:Int)],[some r,some (xbInstr p.1.1)])
def RXInstr(r:AObj)(l:List At)(e:Exit)(v:List Value)(o:List (Option AObj)):Prop:=
 (∃x,run stepInstr zInstr l=some x/\e = .exit 0/\v=[top]/\o=[some r,some (xbInstr x)])∨(run stepInstr zInstr l=none/\e = .ret/\v=[.int .i64 3]/\∃y,o=[some r,some (xbInstr y)])
theorem rndXInstr(r:AObj)(hr:belowO 102 (some r)=true)(l:List At)(hl:l.length<=255)(p:StX stepInstr zInstr l):
  Is (wpe Try.prog (real Try.prog) (howOf Z0 Zp [] [] (puDN MD MRN) [(28,23),(37,16),(20,11)]) 300 (.code false (loopIn Try.prog 59 5) (stOf 100 37 [1,18,19,20] [] (IXInstr r l p))) (roundQ 100 [1,18,19,20] [4] 37 []
   (fun vals objs=>∃a':StX stepInstr zInstr l,l.length-a'.1.2<l.length-p.1.2/\Wk 100 (100+2) vals objs (IXInstr r l a').1 (IXInstr r l a').2/\∀e v o,RXInstr r l e v o->RXInstr r l e v o)
   (fun e vals objs=>∃v o,Wk 100 (100+2) vals objs v o/\RXInstr r l e v o))):=by
 refine⟨?_⟩
 obtain⟨⟨x,i⟩,inv⟩:=p
 have hle:i<=l.length:=inv.le
 show gRdInstrR (real Try.prog) MD MRN (some r) (x.op:Int) x.to (x.ak:Int) (x.an:Int) (x.bk:Int) (x.bn:Int) x.n (rowsT l) (l.length:Int) (i:Int) _ _
 rw[gRdInstrR_eq]
 refine n_ltN (fun hlt=>?_) (fun hge=>?_)
 ·have ha:l[i]?=some l[i]:=List.getElem?_eq_getElem hlt
  generalize l[i]=a at ha
  have hms:l.length-(i+1)<l.length-i:=by omega
  refine n_dget i rfl (rowsT_get ha) rfl (n_rdI (z:=(a.t:Int)) rfl (n_rdS (z:=a.v) rfl ?_))
  refine n_eqN (d:=1) (fun h=>?_) (fun hn1=>?_)
  ·refine⟨255,rfl,fun n hn=>?_,fun hn=>?_⟩
   ·have hs:stepInstr x a=some {x with op:=n}:=by unfold stepInstr;rw[h];show(getN 255 a.v.data.toList).map _=_;unfold getN;rw[hn];rfl
    exact n_fit uU64 uU8 (fit_u8 (by have:=(rnum_ok hn).2.1;omega)) (n_inc (by omega) ⟨rfl,⟨({x with op:=n},i+1),inv.next ha hs⟩,hms,wk_x hr rfl,fun _ _ _ h=>h⟩)
   ·have hs:stepInstr x a=none:=by unfold stepInstr;rw[h];show(getN 255 a.v.data.toList).map _=_;unfold getN;rw[hn];rfl
    exact n_fit (m:=0) uU64 uU8 (fit_u8 (by omega)) ⟨rfl,_,_,wk_x hr rfl,.inr ⟨inv.bad ha hs,rfl,rfl,{x with op:=0},rfl⟩⟩
  refine n_eqN (d:=2) (fun h=>?_) (fun hn2=>?_)
  ·refine⟨2147483647,rfl,fun n hn=>?_,fun hn=>?_⟩
   ·have hs:stepInstr x a=some {x with to:=(n:Int)}:=by unfold stepInstr;rw[h];show(getI 2147483647 a.v.data.toList).map _=_;unfold getI;rw[hn];rfl
    exact n_fit uU64 uI64 (fit_i64 (by have:=(rnum_ok hn).2.1;omega)) (n_inc (by omega) ⟨rfl,⟨({x with to:=(n:Int)},i+1),inv.next ha hs⟩,hms,wk_x hr rfl,fun _ _ _ h=>h⟩)
   ·have hs:stepInstr x a=none:=by unfold stepInstr;rw[h];show(getI 2147483647 a.v.data.toList).map _=_;unfold getI;rw[hn];rfl
    exact n_fit (m:=0) uU64 uI64 (fit_i64 (by omega)) ⟨rfl,_,_,wk_x hr rfl,.inr ⟨inv.bad ha hs,rfl,rfl,{x with to:=0},rfl⟩⟩
  refine n_eqN (d:=3) (fun h=>?_) (fun hn3=>?_)
  ·refine⟨255,rfl,fun n hn=>?_,fun hn=>?_⟩
   ·have hs:stepInstr x a=some {x with ak:=n}:=by unfold stepInstr;rw[h];show(getN 255 a.v.data.toList).map _=_;unfold getN;rw[hn];rfl
    exact n_fit uU64 uU8 (fit_u8 (by have:=(rnum_ok hn).2.1;omega)) (n_inc (by omega) ⟨rfl,⟨({x with ak:=n},i+1),inv.next ha hs⟩,hms,wk_x hr rfl,fun _ _ _ h=>h⟩)
   ·have hs:stepInstr x a=none:=by unfold stepInstr;rw[h];show(getN 255 a.v.data.toList).map _=_;unfold getN;rw[hn];rfl
    exact n_fit (m:=0) uU64 uU8 (fit_u8 (by omega)) ⟨rfl,_,_,wk_x hr rfl,.inr ⟨inv.bad ha hs,rfl,rfl,{x with ak:=0},rfl⟩⟩
  refine n_eqN (d:=4) (fun h=>?_) (fun hn4=>?_)
  ·refine⟨18446744073709551615,rfl,fun n hn=>?_,fun hn=>?_⟩
   ·have hs:stepInstr x a=some {x with an:=n}:=by unfold stepInstr;rw[h];show(getN 18446744073709551615 a.v.data.toList).map _=_;unfold getN;rw[hn];rfl
    exact n_inc (by omega) ⟨rfl,⟨({x with an:=n},i+1),inv.next ha hs⟩,hms,wk_x hr rfl,fun _ _ _ h=>h⟩
   ·have hs:stepInstr x a=none:=by unfold stepInstr;rw[h];show(getN 18446744073709551615 a.v.data.toList).map _=_;unfold getN;rw[hn];rfl
    exact⟨rfl,_,_,wk_x hr rfl,.inr ⟨inv.bad ha hs,rfl,rfl,{x with an:=0},rfl⟩⟩
  refine n_eqN (d:=5) (fun h=>?_) (fun hn5=>?_)
  ·refine⟨255,rfl,fun n hn=>?_,fun hn=>?_⟩
   ·have hs:stepInstr x a=some {x with bk:=n}:=by unfold stepInstr;rw[h];show(getN 255 a.v.data.toList).map _=_;unfold getN;rw[hn];rfl
    exact n_fit uU64 uU8 (fit_u8 (by have:=(rnum_ok hn).2.1;omega)) (n_inc (by omega) ⟨rfl,⟨({x with bk:=n},i+1),inv.next ha hs⟩,hms,wk_x hr rfl,fun _ _ _ h=>h⟩)
   ·have hs:stepInstr x a=none:=by unfold stepInstr;rw[h];show(getN 255 a.v.data.toList).map _=_;unfold getN;rw[hn];rfl
    exact n_fit (m:=0) uU64 uU8 (fit_u8 (by omega)) ⟨rfl,_,_,wk_x hr rfl,.inr ⟨inv.bad ha hs,rfl,rfl,{x with bk:=0},rfl⟩⟩
  refine n_eqN (d:=6) (fun h=>?_) (fun hn6=>?_)
  ·refine⟨18446744073709551615,rfl,fun n hn=>?_,fun hn=>?_⟩
   ·have hs:stepInstr x a=some {x with bn:=n}:=by unfold stepInstr;rw[h];show(getN 18446744073709551615 a.v.data.toList).map _=_;unfold getN;rw[hn];rfl
    exact n_inc (by omega) ⟨rfl,⟨({x with bn:=n},i+1),inv.next ha hs⟩,hms,wk_x hr rfl,fun _ _ _ h=>h⟩
   ·have hs:stepInstr x a=none:=by unfold stepInstr;rw[h];show(getN 18446744073709551615 a.v.data.toList).map _=_;unfold getN;rw[hn];rfl
    exact⟨rfl,_,_,wk_x hr rfl,.inr ⟨inv.bad ha hs,rfl,rfl,{x with bn:=0},rfl⟩⟩
  refine n_eqN (d:=7) (fun h=>?_) (fun hn7=>?_)
  ·refine⟨2147483647,rfl,fun n hn=>?_,fun hn=>?_⟩
   ·have hs:stepInstr x a=some {x with n:=(n:Int)}:=by unfold stepInstr;rw[h];show(getI 2147483647 a.v.data.toList).map _=_;unfold getI;rw[hn];rfl
    exact n_fit uU64 uI64 (fit_i64 (by have:=(rnum_ok hn).2.1;omega)) (n_inc (by omega) ⟨rfl,⟨({x with n:=(n:Int)},i+1),inv.next ha hs⟩,hms,wk_x hr rfl,fun _ _ _ h=>h⟩)
   ·have hs:stepInstr x a=none:=by unfold stepInstr;rw[h];show(getI 2147483647 a.v.data.toList).map _=_;unfold getI;rw[hn];rfl
    exact n_fit (m:=0) uU64 uI64 (fit_i64 (by omega)) ⟨rfl,_,_,wk_x hr rfl,.inr ⟨inv.bad ha hs,rfl,rfl,{x with n:=0},rfl⟩⟩
  have hs:stepInstr x a=none:=by
   unfold stepInstr
   split<;>first|rfl|contradiction
  exact⟨rfl,_,_,wk_x hr rfl,.inr ⟨inv.bad ha hs,rfl,rfl,x,rfl⟩⟩
 ·exact⟨rfl,_,_,Wk.refl _ _ _ _,.inl ⟨x,inv.last (by omega),rfl,rfl,rfl⟩⟩
def LXrInstr(r:AObj):LXInstr:=fun c n vals obs A E=>∃l:List At,l.length<=255/\c=loopIn Try.prog 59 5/\n=37/\vals=[.func (.func 104) ⟨[]⟩ ⟨[pA 101]⟩,dsl (rowsT l),.int .i64 (Int.ofNat l.length),.int .i64 (0:Int)]/\obs=[some r,some (.cells [.int .u8 0,.int .i64 0,.int .u8 0,.int .u64 0,.int .u8 0,.int .u64 0,.int .i64 0] 70 7 false true)]/\
 (∀x,run stepInstr zInstr l=some x->A (x.op:Int) x.to (x.ak:Int) (x.an:Int) (x.bk:Int) (x.bn:Int) x.n)/\(run stepInstr zInstr l=none->∀x:Instr,E (x.op:Int) x.to (x.ak:Int) (x.an:Int) (x.bk:Int) (x.bn:Int) x.n)
theorem lpXInstr(r:AObj)(hr:belowO 102 (some r)=true):LoopOk Try.prog 100 [1,18,19,20] (sLoInstr (LXrInstr r)):=by
 show LoopOk Try.prog 100 [1,18,19,20] (lpS [4] _)
 refine lp_mk okp (W:=(howOf Z0 Zp [] [] (puDN MD MRN) [(28,23),(37,16),(20,11)])) (kn_pu (pu_two puDec puRN)) lp_none ?_
 intro c n vals obs K h
 split at h<;>try exact h.elim
 obtain⟨l,hl,hc,hn,hv,ho,hA,hE⟩:=h
 subst hc;subst hn;subst hv
 simp only[List.cons.injEq]at ho
 obtain⟨rfl,rfl⟩:=ho
 refine⟨StX stepInstr zInstr l,2,300,fun p=>l.length-p.1.2,IXInstr r l,fun _ e v o=>RXInstr r l e v o,⟨(zInstr,0),⟨Nat.zero_le _,rfl⟩⟩,rfl,Wk.refl _ _ _ _,?_,rndXInstr r hr l hl⟩
 intro e v o hR
 rcases hR with⟨x,h1,rfl,rfl,rfl⟩ | ⟨h1,rfl,rfl,y,rfl⟩
 ·exact hA x h1
 ·exact hE h1 y
theorem rdO_someInstr{s:List UInt8}{x:Instr}(h0:(decE 0 s).1=0)(h:run stepInstr zInstr (decE 0 s).2=some x):rdInstr s=some x:=by
 unfold rdInstr rdO rdE;rw[if_pos h0,h];rfl
theorem rdO_noneInstr{s:List UInt8}(h0:(decE 0 s).1=0)(h:run stepInstr zInstr (decE 0 s).2=none):rdInstr s=none:=by
 unfold rdInstr rdO rdE;rw[if_pos h0,h];rfl
theorem rdO_errInstr{s:List UInt8}(h0:(decE 0 s).1≠0):rdInstr s=none:=by
 unfold rdInstr rdO rdE;rw[if_neg h0,if_neg h0]
theorem rdCInstr(s:ByteArray):Is (gRdInstr (real Try.prog) MD MRN (LXrInstr (rdC s false)) s (QOInstr s)):=by
 refine⟨?_⟩
 rw[gRdInstr_eq]
 exact⟨fun h0=>n_dlen _ (rowsT_len _) ⟨_,dec_len _,rfl,rfl,rfl,rfl,fun x hx=>⟨x,false,.inl ⟨rfl,rdO_someInstr h0 hx⟩,rfl,wk_r⟩,fun hx x=>⟨x,true,.inr ⟨rfl,rdO_noneInstr h0 hx⟩,rfl,wk_r⟩⟩,
  fun h3=>⟨zInstr,true,.inr ⟨rfl,rdO_errInstr (by omega)⟩,rfl,wk_r⟩,fun h4=>⟨zInstr,true,.inr ⟨rfl,rdO_errInstr (by omega)⟩,rfl,wk_r⟩⟩
theorem okOneInstr:SumOk Try.prog 100 83 (sOneInstr MOrInstr):=by
 intro args H K h
 unfold sOneInstr at h
 split at h<;>try exact h.elim
 rename_i p
 split at h<;>try exact h.elim
 rename_i s e sz lo ow hg
 split at h<;>try exact h.elim
 rename_i hc
 simp only[Bool.and_eq_true]at hc
 rw[isRd_eq hc.1]at hg
 obtain⟨v,objs,⟨x,b,hb,rfl,hw⟩,hC⟩:=call_okI (kn_pu (pu_two puDec puRN)) (lp_ok (fun x hx=>by simp only[List.mem_singleton]at hx;subst hx;exact lpXInstr (rdC s false) rfl)) (rdCInstr s)
 have hC2:∀B,CallH Try.prog 100 B 83 [pA 100] (hR s) (.returned (.agg ⟨cInstr x⟩)) (hOf 100 [] [some (rdC s b)]):=fun B=>call_wk (hC B) hw
 rcases hb with⟨rfl,hx⟩ | ⟨rfl,hx⟩
 ·exact⟨_,_,fun B=>rd_any (rest:=[]) rfl rfl hC2 hg hc.2 B,h.1 x hx⟩
 ·exact⟨_,_,fun B=>rd_any (rest:=[]) rfl rfl hC2 hg hc.2 B,h.2 hx x⟩
def MOrBucket:MOBucket:=fun s A E=>(∀x:Bucket,rdBucket s.data.toList=some x->A (x.w:Int) x.b)/\(rdBucket s.data.toList=none->∀x:Bucket,E (x.w:Int) x.b)
def QOBucket(s:ByteArray):RK:=fun v objs=>∃(x:Bucket) (b:Bool),((b=false/\rdBucket s.data.toList=some x)∨(b=true/\rdBucket s.data.toList=none))/\v = .agg ⟨cBucket x⟩/\Wk 100 (100+1) [v] objs [v] [some (rdC s b)]
def xbBucket(x:Bucket):AObj := .cells [.int .u64 (x.w:Int),.int .i64 x.b] 82 2 false true
def IXBucket(r:AObj)(l:List At)(p:StX stepBucket zBucket l):List Value×List (Option AObj):=([.func (.func 105) ⟨[]⟩ ⟨[pA 101]⟩,dsl (rowsT l),.int .i64 (l.length:Int),.int .i64 (p.1.2:Int)],[some r,some (xbBucket p.1.1)])
def RXBucket(r:AObj)(l:List At)(e:Exit)(v:List Value)(o:List (Option AObj)):Prop:=
 (∃x,run stepBucket zBucket l=some x/\e = .exit 0/\v=[top]/\o=[some r,some (xbBucket x)])∨(run stepBucket zBucket l=none/\e = .ret/\v=[.int .i64 3]/\∃y,o=[some r,some (xbBucket y)])
theorem rndXBucket(r:AObj)(hr:belowO 102 (some r)=true)(l:List At)(hl:l.length<=255)(p:StX stepBucket zBucket l):
  Is (wpe Try.prog (real Try.prog) (howOf Z0 Zp [] [] (puDN MD MRN) [(28,23),(37,16),(20,11)]) 300 (.code false (loopIn Try.prog 59 5) (stOf 100 37 [1,18,19,20] [] (IXBucket r l p))) (roundQ 100 [1,18,19,20] [4] 37 []
   (fun vals objs=>∃a':StX stepBucket zBucket l,l.length-a'.1.2<l.length-p.1.2/\Wk 100 (100+2) vals objs (IXBucket r l a').1 (IXBucket r l a').2/\∀e v o,RXBucket r l e v o->RXBucket r l e v o)
   (fun e vals objs=>∃v o,Wk 100 (100+2) vals objs v o/\RXBucket r l e v o))):=by
 refine⟨?_⟩
 obtain⟨⟨x,i⟩,inv⟩:=p
 have hle:i<=l.length:=inv.le
 show gRdBucketR (real Try.prog) MD MRN (some r) (x.w:Int) x.b (rowsT l) (l.length:Int) (i:Int) _ _
 rw[gRdBucketR_eq]
 refine n_ltN (fun hlt=>?_) (fun hge=>?_)
 ·have ha:l[i]?=some l[i]:=List.getElem?_eq_getElem hlt
  generalize l[i]=a at ha
  have hms:l.length-(i+1)<l.length-i:=by omega
  refine n_dget i rfl (rowsT_get ha) rfl (n_rdI (z:=(a.t:Int)) rfl (n_rdS (z:=a.v) rfl ?_))
  refine n_eqN (d:=1) (fun h=>?_) (fun hn1=>?_)
  ·refine⟨18446744073709551615,rfl,fun n hn=>?_,fun hn=>?_⟩
   ·have hs:stepBucket x a=some {x with w:=n}:=by unfold stepBucket;rw[h];show(getN 18446744073709551615 a.v.data.toList).map _=_;unfold getN;rw[hn];rfl
    exact n_inc (by omega) ⟨rfl,⟨({x with w:=n},i+1),inv.next ha hs⟩,hms,wk_x hr rfl,fun _ _ _ h=>h⟩
   ·have hs:stepBucket x a=none:=by unfold stepBucket;rw[h];show(getN 18446744073709551615 a.v.data.toList).map _=_;unfold getN;rw[hn];rfl
    exact⟨rfl,_,_,wk_x hr rfl,.inr ⟨inv.bad ha hs,rfl,rfl,{x with w:=0},rfl⟩⟩
  refine n_eqN (d:=2) (fun h=>?_) (fun hn2=>?_)
  ·refine⟨2147483647,rfl,fun n hn=>?_,fun hn=>?_⟩
   ·have hs:stepBucket x a=some {x with b:=(n:Int)}:=by unfold stepBucket;rw[h];show(getI 2147483647 a.v.data.toList).map _=_;unfold getI;rw[hn];rfl
    exact n_fit uU64 uI64 (fit_i64 (by have:=(rnum_ok hn).2.1;omega)) (n_inc (by omega) ⟨rfl,⟨({x with b:=(n:Int)},i+1),inv.next ha hs⟩,hms,wk_x hr rfl,fun _ _ _ h=>h⟩)
   ·have hs:stepBucket x a=none:=by unfold stepBucket;rw[h];show(getI 2147483647 a.v.data.toList).map _=_;unfold getI;rw[hn];rfl
    exact n_fit (m:=0) uU64 uI64 (fit_i64 (by omega)) ⟨rfl,_,_,wk_x hr rfl,.inr ⟨inv.bad ha hs,rfl,rfl,{x with b:=0},rfl⟩⟩
  have hs:stepBucket x a=none:=by
   unfold stepBucket
   split<;>first|rfl|contradiction
  exact⟨rfl,_,_,wk_x hr rfl,.inr ⟨inv.bad ha hs,rfl,rfl,x,rfl⟩⟩
 ·exact⟨rfl,_,_,Wk.refl _ _ _ _,.inl ⟨x,inv.last (by omega),rfl,rfl,rfl⟩⟩
def LXrBucket(r:AObj):LXBucket:=fun c n vals obs A E=>∃l:List At,l.length<=255/\c=loopIn Try.prog 59 5/\n=37/\vals=[.func (.func 105) ⟨[]⟩ ⟨[pA 101]⟩,dsl (rowsT l),.int .i64 (Int.ofNat l.length),.int .i64 (0:Int)]/\obs=[some r,some (.cells [.int .u64 0,.int .i64 0] 82 2 false true)]/\
 (∀x,run stepBucket zBucket l=some x->A (x.w:Int) x.b)/\(run stepBucket zBucket l=none->∀x:Bucket,E (x.w:Int) x.b)
theorem lpXBucket(r:AObj)(hr:belowO 102 (some r)=true):LoopOk Try.prog 100 [1,18,19,20] (sLoBucket (LXrBucket r)):=by
 show LoopOk Try.prog 100 [1,18,19,20] (lpS [4] _)
 refine lp_mk okp (W:=(howOf Z0 Zp [] [] (puDN MD MRN) [(28,23),(37,16),(20,11)])) (kn_pu (pu_two puDec puRN)) lp_none ?_
 intro c n vals obs K h
 split at h<;>try exact h.elim
 obtain⟨l,hl,hc,hn,hv,ho,hA,hE⟩:=h
 subst hc;subst hn;subst hv
 simp only[List.cons.injEq]at ho
 obtain⟨rfl,rfl⟩:=ho
 refine⟨StX stepBucket zBucket l,2,300,fun p=>l.length-p.1.2,IXBucket r l,fun _ e v o=>RXBucket r l e v o,⟨(zBucket,0),⟨Nat.zero_le _,rfl⟩⟩,rfl,Wk.refl _ _ _ _,?_,rndXBucket r hr l hl⟩
 intro e v o hR
 rcases hR with⟨x,h1,rfl,rfl,rfl⟩ | ⟨h1,rfl,rfl,y,rfl⟩
 ·exact hA x h1
 ·exact hE h1 y
theorem rdO_someBucket{s:List UInt8}{x:Bucket}(h0:(decE 0 s).1=0)(h:run stepBucket zBucket (decE 0 s).2=some x):rdBucket s=some x:=by
 unfold rdBucket rdO rdE;rw[if_pos h0,h];rfl
theorem rdO_noneBucket{s:List UInt8}(h0:(decE 0 s).1=0)(h:run stepBucket zBucket (decE 0 s).2=none):rdBucket s=none:=by
 unfold rdBucket rdO rdE;rw[if_pos h0,h];rfl
theorem rdO_errBucket{s:List UInt8}(h0:(decE 0 s).1≠0):rdBucket s=none:=by
 unfold rdBucket rdO rdE;rw[if_neg h0,if_neg h0]
theorem rdCBucket(s:ByteArray):Is (gRdBucket (real Try.prog) MD MRN (LXrBucket (rdC s false)) s (QOBucket s)):=by
 refine⟨?_⟩
 rw[gRdBucket_eq]
 exact⟨fun h0=>n_dlen _ (rowsT_len _) ⟨_,dec_len _,rfl,rfl,rfl,rfl,fun x hx=>⟨x,false,.inl ⟨rfl,rdO_someBucket h0 hx⟩,rfl,wk_r⟩,fun hx x=>⟨x,true,.inr ⟨rfl,rdO_noneBucket h0 hx⟩,rfl,wk_r⟩⟩,
  fun h3=>⟨zBucket,true,.inr ⟨rfl,rdO_errBucket (by omega)⟩,rfl,wk_r⟩,fun h4=>⟨zBucket,true,.inr ⟨rfl,rdO_errBucket (by omega)⟩,rfl,wk_r⟩⟩
theorem okOneBucket:SumOk Try.prog 100 86 (sOneBucket MOrBucket):=by
 intro args H K h
 unfold sOneBucket at h
 split at h<;>try exact h.elim
 rename_i p
 split at h<;>try exact h.elim
 rename_i s e sz lo ow hg
 split at h<;>try exact h.elim
 rename_i hc
 simp only[Bool.and_eq_true]at hc
 rw[isRd_eq hc.1]at hg
 obtain⟨v,objs,⟨x,b,hb,rfl,hw⟩,hC⟩:=call_okI (kn_pu (pu_two puDec puRN)) (lp_ok (fun x hx=>by simp only[List.mem_singleton]at hx;subst hx;exact lpXBucket (rdC s false) rfl)) (rdCBucket s)
 have hC2:∀B,CallH Try.prog 100 B 86 [pA 100] (hR s) (.returned (.agg ⟨cBucket x⟩)) (hOf 100 [] [some (rdC s b)]):=fun B=>call_wk (hC B) hw
 rcases hb with⟨rfl,hx⟩ | ⟨rfl,hx⟩
 ·exact⟨_,_,fun B=>rd_any (rest:=[]) rfl rfl hC2 hg hc.2 B,h.1 x hx⟩
 ·exact⟨_,_,fun B=>rd_any (rest:=[]) rfl rfl hC2 hg hc.2 B,h.2 hx x⟩
end
end Go.Proofs.Ytblbaohcelldpaa.Ob
