/- . -/
import Derived.Test.YtblbaohcelldpaaGreatDoorU3
set_option linter.all false
set_option maxRecDepth 100000
namespace Go.Tlv
open Go Go.Abs
theorem ACY:∀(l:List At) (last:Nat),(∀a∈l,a.t<256)->JB last l=0->last<256->l.length+last<=255
 | [],last,_,_,h=>by simp;omega
 |a::l,last,ht,h,_=>by
  simp only[JB]at h
  split at h
  ·omega
  ·split at h
   ·omega
   ·have h3:=ht a (List.mem_cons_self ..)
    have:=ACY l a.t (fun x hx=>ht x (List.mem_cons_of_mem _ hx)) h h3
    simp only[List.length_cons];omega
theorem NA(s:List UInt8):(EG 0 s).2.length<=255:=by
 by_cases h:(EG 0 s).1=0
 ·obtain⟨h1,h2,h3⟩:=eB s.length s 0 _ (Nat.le_refl _) (Prod.ext h rfl)
  have:=ACY _ 0 h3 h1 (by omega)
  omega
 ·rw[QO _ _ h];simp
structure iU{α:Type}(step:α->At->Option α)(z:α)(l:List At)(x:α)(i:Nat):Prop where
 le:i<=l.length
 eq:run step z l=run step x (l.drop i)
abbrev StX{α:Type}(step:α->At->Option α)(z:α)(l:List At):={p:α×Nat // iU step z l p.1 p.2}
section
variable {α:Type} {step:α->At->Option α} {z:α} {l:List At} {x:α} {i:Nat}
theorem iU.one(inv:iU step z l x i){a:At}(ha:l[i]?=some a):run step z l=match step x a with
  |some y=>run step y (l.drop (i+1))
  |none=>none:=by
 have hlt:i<l.length:=(List.getElem?_eq_some_iff.1 ha).1
 have h2:=List.drop_eq_getElem_cons hlt
 rw[List.getElem?_eq_getElem hlt]at ha
 simp only[Option.some.injEq]at ha
 rw[inv.eq,h2,ha]
 rfl
theorem iU.next(inv:iU step z l x i){a:At}{y:α}(ha:l[i]?=some a)(hs:step x a=some y):iU step z l y (i+1):=
 ⟨(List.getElem?_eq_some_iff.1 ha).1,by rw[inv.one ha,hs]⟩
theorem iU.bad(inv:iU step z l x i){a:At}(ha:l[i]?=some a)(hs:step x a=none):run step z l=none:=by rw[inv.one ha,hs]
theorem iU.last(inv:iU step z l x i)(h:l.length<=i):run step z l=some x:=by
 rw[inv.eq,List.drop_eq_nil_of_le h];rfl
end
end Go.Tlv
namespace Go.Proofs.Ob
open Go Go.Abs Go.Tlv
noncomputable section
theorem fH:Tryz.prog.underlying 2=some (.int .i64):=by kernel_rfl
theorem JW{l:List At}{i:Nat}{a:At}(h:l[i]?=some a):(FX l)[i]?=some (.agg ⟨[.int .u8 (a.t:Int),.string a.v]⟩):=by
 unfold FX;rw[List.getElem?_map,h];rfl
theorem JP(l:List At):(FX l).length=l.length:=List.length_map _
theorem ASg{a b:AA}(ha:EC 102 (some a)=true)(hb:EC 102 (some b)=true):∀(i:Nat) o,([some a,some b]:Lo)[i]?=some (some o)->EC (100+2) (some o)=true:=by
 intro i o h
 rcases i with _|_|i
 ·simp only[List.getElem?_cons_zero,Option.some.injEq]at h;subst h;exact ha
 ·simp only[List.getElem?_cons_succ,List.getElem?_cons_zero,Option.some.injEq]at h;subst h;exact hb
 ·simp at h
theorem FT{AB:Lv}{r x:AA}{extra:Lo}(hr:EC 102 (some r)=true)(hx:EC 102 (some x)=true)(hv:BL (100+2) AB=true:=by rfl):Wk 100 (100+2) AB (some r::some x::extra) AB [some r,some x]:=
 I1 (k0:=2) (pre:=[some r,some x]) rfl hv (ASg hr hx)
theorem I8{AB:Lv}{r x:AA}{extra:Lo}(hr:EC 102 (some r)=true)(hx:EC 102 (some x)=true)(hv:BL (100+2) AB=true:=by rfl):Wk 100 (100+2) AB (some r::some x::extra) AB [some r,none]:=
 (FT hr hx hv).trans (EX (DT.refl _) (.cons (.refl _) (.cons (.none _) .nil)))
theorem ZF{a b:FuncId×(Lv->(Value->Prop)->Prop)}(h1:FY Tryz.prog 100 a.1 a.2)(h2:FY Tryz.prog 100 b.1 b.2):∀x∈[a,b],FY Tryz.prog 100 x.1 x.2:=fun x hx=>by
 simp only[List.mem_cons,List.not_mem_nil,or_false]at hx
 rcases hx with rfl|rfl
 ·exact h1
 ·exact h2
theorem F6{a:FuncId×(Lv->(Value->Prop)->Prop)}(h1:FY Tryz.prog 100 a.1 a.2):∀x∈[a],FY Tryz.prog 100 x.1 x.2:=fun x hx=>by
 simp only[List.mem_singleton]at hx;subst hx;exact h1
theorem AEi{P:Program}{B:Base}{f:FuncId}{args:Lv}{H H1 H2:Heap}{e:Ending}(h:BM P 100 B f args H e H1)(hg:∀n o,H2.get n=some o->H1.get n=some o)(hn:H2.next=H1.next):BM P 100 B f args H e H2:=
 fun F w x R ha=>(h F w x R ha).mono fun e' w' ⟨F',h1,h2,R'⟩=>⟨F',h1,h2,R'.part hg hn⟩
theorem AHY{f:FuncId}{rest:Lv}(hrest:BL 0 rest=true){s:ByteArray}{b:Bool}{v:Value}(hv:below 0 v=true)(hC:∀B,BM Tryz.prog 100 B f (pA 100::rest) (hR s) (.returned v) (hOf 100 [] [some (rdC s b)]))
  {H:Heap} {p:Nat} (hg:H.get p=some (rdC s false)) (hp:ok1 H p=true) (B:Base):BM Tryz.prog 100 B f (.pointer (some ⟨p,0,none⟩)::rest) H (.returned v) (IW H [p] [some (rdC s b)]):=by
 unfold ok1 at hp
 simp only[Bool.and_eq_true]at hp
 have hp1:=Nat.le_of_ble_eq_true hp.1
 have hp2:p<H.next:=Nat.le_of_ble_eq_true hp.2
 have h2:=qG (ins:=[some (rdC s false)]) (upd:=[some (rdC s b)]) (new:=[]) rfl (fun i hi=>by cases i<;>simp at hi) rfl hC (H:=H) (ns:=[p]) rfl (by simp) (fun m hm=>by simp only[List.mem_singleton]at hm;subst hm;exact⟨hp1,hp2⟩)
  (fun i o hi=>by
   cases i with
   |succ i=>simp at hi
   |zero=>
    simp only[List.getElem?_cons_zero,Option.some.injEq]at hi;subst hi
    exact⟨p,rfl,hg⟩) B
 have hτ:tau 100 [p] H.next 100=p:=MZ (Nat.le_refl _) rfl
 have e1:FE (tau 100 [p] H.next) rest=rest:=EA (n0:=0) (fun n h=>by omega) rest hrest
 have e2:F7 (tau 100 [p] H.next) v=v:=U3 (n0:=0) (fun n h=>by omega) v hv
 have ha:FE (tau 100 [p] H.next) (pA 100::rest) = .pointer (some ⟨p,0,none⟩)::rest:=by
  simp only[FE,pA,F7,hτ,e1]
 rw[ha]at h2
 simp only[mH,e2,List.map_cons,List.map_nil,Option.map_some,G8,rdC,FE,F7]at h2
 exact h2
theorem AH8{H:Heap}{p:Nat}{ob:AA}(hg:H.get p=some ob):∀n o,H.get n=some o->(IW H [p] [some ob]).get n=some o:=by
 intro n o hn
 have hpg:=LV [p] [some ob] H n rfl (by simp)
 by_cases e:n=p
 ·subst e
  rw[hpg.1 0 rfl]
  rw[hg]at hn;exact hn
 ·rw[hpg.2 (by simpa using e)];exact hn
theorem O5{e sz:Nat}{lo ow:Bool}(h:zL e sz lo ow=true){s:ByteArray}{b:Bool}:AA.cells [.string s,.bool b] e sz lo ow=rdC s b:=by
 simp only[zL,Bool.and_eq_true,Bool.not_eq_true']at h
 obtain⟨h1,h2,h3,h4⟩:=h
 rw[Nat.eq_of_beq_eq_true h1,Nat.eq_of_beq_eq_true h2,h3,h4];rfl
theorem KI{f:FuncId}{rest:Lv}(hrest:BL 0 rest=true){s:ByteArray}{b:Bool}{v:Value}(hv:below 0 v=true)(hC:∀B,BM Tryz.prog 100 B f (pA 100::rest) (hR s) (.returned v) (hOf 100 [] [some (rdC s b)]))
  {H:Heap} {p:Nat} (hg:H.get p=some (rdC s false)) (hp:ok1 H p=true) (B:Base):BM Tryz.prog 100 B f (.pointer (some ⟨p,0,none⟩)::rest) H (.returned v) (match b with|false=>H|true=>IW H [p] [some (rdC s true)]):=by
 have h:=AHY hrest hv hC hg hp B
 cases b with
 |true=>exact h
 |false=>exact AEi h (AH8 hg) rfl
theorem LM{W:How}(hkn:OM Tryz.prog 100 W)(hlp:SN Tryz.prog 100 W){n:Nat}{f:FuncId}{args:Lv}{H:Heap}{K:RK}(h:Is (wpe Tryz.prog (real Tryz.prog) W n (.call f args H) (FD 100 K))):
 ∃v AC,K v AC/\∀B,BM Tryz.prog 100 B f args H (.returned v) (hOf 100 [] AC):=XU okp hkn hlp h.out
theorem YG{v:Value}{s:ByteArray}{b:Bool}{extra:Lo}(hv:BL (100+1) [v]=true:=by rfl):Wk 100 (100+1) [v] (some (rdC s b)::extra) [v] [some (rdC s b)]:=
 I1 (k0:=1) (pre:=[some (rdC s b)]) rfl hv (fun i o h=>by
  cases i with
  |zero=>simp only[List.getElem?_cons_zero,Option.some.injEq]at h;subst h;rfl
  |succ i=>simp at h)
def rP:ACH:=fun s A E=>(∀x:Int,LW s.data.toList=some x->A x)/\(LW s.data.toList=none->∀x:Int,E x)
def AOi(s:ByteArray):RK:=fun v AC=>∃(x:Int) (b:Bool),((b=false/\LW s.data.toList=some x)∨(b=true/\LW s.data.toList=none))/\v = .int .i64 x/\Wk 100 (100+1) [v] AC [v] [some (rdC s b)]
theorem AMV(s:ByteArray):Is (AG8 (real Tryz.prog) MRN s (AOi s)):=by
 refine⟨?_⟩
 rw[AEK]
 exact⟨2147483647,rfl,fun n hn=>BX EH EZ (BG (by have:=(C8 hn).2.1;omega)) ⟨(n:Int),false,.inl ⟨rfl,by unfold LW BD;rw[hn];rfl⟩,rfl,YG⟩,fun hn=>BX (m:=0) EH EZ (BG (by omega)) ⟨0,true,.inr ⟨rfl,by unfold LW BD;rw[hn];rfl⟩,rfl,YG⟩⟩
theorem AHV:JU Tryz.prog 100 160 (bO rP):=by
 intro args H K h
 unfold bO at h
 split at h<;>try exact h.elim
 rename_i p
 split at h<;>try exact h.elim
 rename_i s e sz lo ow hg
 split at h<;>try exact h.elim
 rename_i hc
 simp only[Bool.and_eq_true]at hc
 rw[O5 hc.1]at hg
 obtain⟨v,AC,⟨x,b,hb,rfl,hw⟩,hC⟩:=LM (EY (F6 WV)) AZ (AMV s)
 have hC2:∀B,BM Tryz.prog 100 B 160 [pA 100] (hR s) (.returned (.int .i64 x)) (hOf 100 [] [some (rdC s b)]):=fun B=>IM (hC B) hw
 rcases hb with⟨rfl,hx⟩ | ⟨rfl,hx⟩
 ·exact⟨_,_,fun B=>KI (rest:=[]) rfl rfl hC2 hg hc.2 B,h.1 x hx⟩
 ·exact⟨_,_,fun B=>KI (rest:=[]) rfl rfl hC2 hg hc.2 B,h.2 hx x⟩
def rQ:ACI:=fun s A E=>(∀x:Nat,JQ s.data.toList=some x->A (x:Int))/\(JQ s.data.toList=none->∀x:Nat,E (x:Int))
def AOj(s:ByteArray):RK:=fun v AC=>∃(x:Nat) (b:Bool),((b=false/\JQ s.data.toList=some x)∨(b=true/\JQ s.data.toList=none))/\v = .int .u64 (x:Int)/\Wk 100 (100+1) [v] AC [v] [some (rdC s b)]
theorem AMW(s:ByteArray):Is (AG9 (real Tryz.prog) MRN s (AOj s)):=by
 refine⟨?_⟩
 rw[AEL]
 exact⟨18446744073709551615,rfl,fun n hn=>⟨n,false,.inl ⟨rfl,hn⟩,rfl,YG⟩,fun hn=>⟨0,true,.inr ⟨rfl,hn⟩,rfl,YG⟩⟩
theorem AHW:JU Tryz.prog 100 183 (bP rQ):=by
 intro args H K h
 unfold bP at h
 split at h<;>try exact h.elim
 rename_i p
 split at h<;>try exact h.elim
 rename_i s e sz lo ow hg
 split at h<;>try exact h.elim
 rename_i hc
 simp only[Bool.and_eq_true]at hc
 rw[O5 hc.1]at hg
 obtain⟨v,AC,⟨x,b,hb,rfl,hw⟩,hC⟩:=LM (EY (F6 WV)) AZ (AMW s)
 have hC2:∀B,BM Tryz.prog 100 B 183 [pA 100] (hR s) (.returned (.int .u64 (x:Int))) (hOf 100 [] [some (rdC s b)]):=fun B=>IM (hC B) hw
 rcases hb with⟨rfl,hx⟩ | ⟨rfl,hx⟩
 ·exact⟨_,_,fun B=>KI (rest:=[]) rfl rfl hC2 hg hc.2 B,h.1 x hx⟩
 ·exact⟨_,_,fun B=>KI (rest:=[]) rfl rfl hC2 hg hc.2 B,h.2 hx x⟩
def rO:ACG:=fun s A E=>(∀x:Arm,KH s.data.toList=some x->A (x.v:Int) x.nx)/\(KH s.data.toList=none->∀x:Arm,E (x.v:Int) x.nx)
def AOh(s:ByteArray):RK:=fun v AC=>∃(x:Arm) (b:Bool),((b=false/\KH s.data.toList=some x)∨(b=true/\KH s.data.toList=none))/\v = .agg ⟨D7 x⟩/\Wk 100 (100+1) [v] AC [v] [some (rdC s b)]
def AJh(x:Arm):AA := .cells [.int .u32 (x.v:Int),.int .i64 x.nx] 61 2 false true
def ACw(r:AA)(l:List At)(p:StX GG ZO l):Lv×Lo:=([.func (.func 231) ⟨[]⟩ ⟨[pA 101]⟩,dsl (FX l),.int .i64 (l.length:Int),.int .i64 (p.1.2:Int)],[some r,some (AJh p.1.1)])
def ACK(r:AA)(l:List At)(e:Exit)(v:Lv)(o:Lo):Prop:=
 (∃x,run GG ZO l=some x/\e = .exit 0/\v=[top]/\o=[some r,some (AJh x)])∨(run GG ZO l=none/\e = .ret/\v=[.int .i64 3]/\∃y,o=[some r,some (AJh y)])
theorem AKM(r:AA)(hr:EC 102 (some r)=true)(l:List At)(hl:l.length<=255)(p:StX GG ZO l):
  Is (wpe Tryz.prog (real Tryz.prog) (AP Z0 Zp [] [] (fM MD MRN) [(28,23),(37,16),(20,11)]) 300 (.code false (AJ Tryz.prog 158 5) (CX 100 37 [1,18,19,20] [] (ACw r l p))) (A7 100 [1,18,19,20] [4] 37 []
   (fun AB AC=>∃a':StX GG ZO l,l.length-a'.1.2<l.length-p.1.2/\Wk 100 (100+2) AB AC (ACw r l a').1 (ACw r l a').2/\∀e v o,ACK r l e v o->ACK r l e v o)
   (fun e AB AC=>∃v o,Wk 100 (100+2) AB AC v o/\ACK r l e v o))):=by
 refine⟨?_⟩
 obtain⟨⟨x,i⟩,inv⟩:=p
 have hle:i<=l.length:=inv.le
 show ADe (real Tryz.prog) MD MRN (some r) (x.v:Int) x.nx (FX l) (l.length:Int) (i:Int) _ _
 rw[ABE]
 refine EL (fun hlt=>?_) (fun hge=>?_)
 ·have ha:l[i]?=some l[i]:=List.getElem?_eq_getElem hlt
  generalize l[i]=a at ha
  have hms:l.length-(i+1)<l.length-i:=by omega
  refine DK i rfl (JW ha) rfl (CG (z:=(a.t:Int)) rfl (KL (z:=a.v) rfl ?_))
  refine DZ (d:=1) (fun h=>?_) (fun hn1=>?_)
  ·refine⟨4294967295,rfl,fun n hn=>?_,fun hn=>?_⟩
   ·have hs:GG x a=some {x with v:=n}:=by unfold GG;rw[h];show(ET 4294967295 a.v.data.toList).map _=_;unfold ET;rw[hn];rfl
    exact BX EH AFW (RY (by have:=(C8 hn).2.1;omega)) (BZ (by omega) ⟨rfl,⟨({x with v:=n},i+1),inv.next ha hs⟩,hms,FT hr rfl,fun _ _ _ h=>h⟩)
   ·have hs:GG x a=none:=by unfold GG;rw[h];show(ET 4294967295 a.v.data.toList).map _=_;unfold ET;rw[hn];rfl
    exact BX (m:=0) EH AFW (RY (by omega)) ⟨rfl,_,_,FT hr rfl,.inr ⟨inv.bad ha hs,rfl,rfl,{x with v:=0},rfl⟩⟩
  refine DZ (d:=2) (fun h=>?_) (fun hn2=>?_)
  ·refine⟨2147483647,rfl,fun n hn=>?_,fun hn=>?_⟩
   ·have hs:GG x a=some {x with nx:=(n:Int)}:=by unfold GG;rw[h];show(BD 2147483647 a.v.data.toList).map _=_;unfold BD;rw[hn];rfl
    exact BX EH EZ (BG (by have:=(C8 hn).2.1;omega)) (BZ (by omega) ⟨rfl,⟨({x with nx:=(n:Int)},i+1),inv.next ha hs⟩,hms,FT hr rfl,fun _ _ _ h=>h⟩)
   ·have hs:GG x a=none:=by unfold GG;rw[h];show(BD 2147483647 a.v.data.toList).map _=_;unfold BD;rw[hn];rfl
    exact BX (m:=0) EH EZ (BG (by omega)) ⟨rfl,_,_,FT hr rfl,.inr ⟨inv.bad ha hs,rfl,rfl,{x with nx:=0},rfl⟩⟩
  have hs:GG x a=none:=by
   unfold GG
   split<;>first|rfl|contradiction
  exact⟨rfl,_,_,FT hr rfl,.inr ⟨inv.bad ha hs,rfl,rfl,x,rfl⟩⟩
 ·exact⟨rfl,_,_,Wk.refl _ _ _ _,.inl ⟨x,inv.last (by omega),rfl,rfl,rfl⟩⟩
def AF9(r:AA):ACA:=fun c n AB obs A E=>∃l:List At,l.length<=255/\c=AJ Tryz.prog 158 5/\n=37/\AB=[.func (.func 231) ⟨[]⟩ ⟨[pA 101]⟩,dsl (FX l),.int .i64 (Int.ofNat l.length),.int .i64 (0:Int)]/\obs=[some r,some (.cells [.int .u32 0,.int .i64 0] 61 2 false true)]/\
 (∀x,run GG ZO l=some x->A (x.v:Int) x.nx)/\(run GG ZO l=none->∀x:Arm,E (x.v:Int) x.nx)
theorem AMB(r:AA)(hr:EC 102 (some r)=true):BH Tryz.prog 100 [1,18,19,20] (AIF (AF9 r)):=by
 show BH Tryz.prog 100 [1,18,19,20] (lpS [4] _)
 refine FQ okp (W:=(AP Z0 Zp [] [] (fM MD MRN) [(28,23),(37,16),(20,11)])) (EY (ZF QZ WV)) AZ ?_
 intro c n AB obs K h
 split at h<;>try exact h.elim
 obtain⟨l,hl,hc,hn,hv,ho,hA,hE⟩:=h
 subst hc;subst hn;subst hv
 simp only[List.cons.injEq]at ho
 obtain⟨rfl,rfl⟩:=ho
 refine⟨StX GG ZO l,2,300,fun p=>l.length-p.1.2,ACw r l,fun _ e v o=>ACK r l e v o,⟨(ZO,0),⟨Nat.zero_le _,rfl⟩⟩,rfl,Wk.refl _ _ _ _,?_,AKM r hr l hl⟩
 intro e v o hR
 rcases hR with⟨x,h1,rfl,rfl,rfl⟩ | ⟨h1,rfl,rfl,y,rfl⟩
 ·exact hA x h1
 ·exact hE h1 y
theorem AAl{s:List UInt8}{x:Arm}(h0:(EG 0 s).1=0)(h:run GG ZO (EG 0 s).2=some x):KH s=some x:=by
 unfold KH rdO rdE;rw[if_pos h0,h];rfl
theorem AAk{s:List UInt8}(h0:(EG 0 s).1=0)(h:run GG ZO (EG 0 s).2=none):KH s=none:=by
 unfold KH rdO rdE;rw[if_pos h0,h];rfl
theorem kX{s:List UInt8}(h0:(EG 0 s).1≠0):KH s=none:=by
 unfold KH rdO rdE;rw[if_neg h0,if_neg h0]
theorem AMU(s:ByteArray):Is (AG7 (real Tryz.prog) MD MRN (AF9 (rdC s false)) s (AOh s)):=by
 refine⟨?_⟩
 rw[AEJ]
 exact⟨fun h0=>BI _ (JP _) ⟨_,NA _,rfl,rfl,rfl,rfl,fun x hx=>⟨x,false,.inl ⟨rfl,AAl h0 hx⟩,rfl,YG⟩,fun hx x=>⟨x,true,.inr ⟨rfl,AAk h0 hx⟩,rfl,YG⟩⟩,
  fun h3=>⟨ZO,true,.inr ⟨rfl,kX (by omega)⟩,rfl,YG⟩,fun h4=>⟨ZO,true,.inr ⟨rfl,kX (by omega)⟩,rfl,YG⟩⟩
theorem AHU:JU Tryz.prog 100 162 (bN rO):=by
 intro args H K h
 unfold bN at h
 split at h<;>try exact h.elim
 rename_i p
 split at h<;>try exact h.elim
 rename_i s e sz lo ow hg
 split at h<;>try exact h.elim
 rename_i hc
 simp only[Bool.and_eq_true]at hc
 rw[O5 hc.1]at hg
 obtain⟨v,AC,⟨x,b,hb,rfl,hw⟩,hC⟩:=LM (EY (ZF QZ WV)) (GH (fun x hx=>by simp only[List.mem_singleton]at hx;subst hx;exact AMB (rdC s false) rfl)) (AMU s)
 have hC2:∀B,BM Tryz.prog 100 B 162 [pA 100] (hR s) (.returned (.agg ⟨D7 x⟩)) (hOf 100 [] [some (rdC s b)]):=fun B=>IM (hC B) hw
 rcases hb with⟨rfl,hx⟩ | ⟨rfl,hx⟩
 ·exact⟨_,_,fun B=>KI (rest:=[]) rfl rfl hC2 hg hc.2 B,h.1 x hx⟩
 ·exact⟨_,_,fun B=>KI (rest:=[]) rfl rfl hC2 hg hc.2 B,h.2 hx x⟩
def ZY:gQ:=fun s A E=>(∀x:Instr,FP s.data.toList=some x->A (x.op:Int) x.to (x.ak:Int) (x.an:Int) (x.bk:Int) (x.bn:Int) x.n)/\(FP s.data.toList=none->∀x:Instr,E (x.op:Int) x.to (x.ak:Int) (x.an:Int) (x.bk:Int) (x.bn:Int) x.n)
def AJv(s:ByteArray):RK:=fun v AC=>∃(x:Instr) (b:Bool),((b=false/\FP s.data.toList=some x)∨(b=true/\FP s.data.toList=none))/\v = .agg ⟨BN x⟩/\Wk 100 (100+1) [v] AC [v] [some (rdC s b)]
def wE(x:Instr):AA := .cells [.int .u8 (x.op:Int),.int .i64 x.to,.int .u8 (x.ak:Int),.int .u64 (x.an:Int),.int .u8 (x.bk:Int),.int .u64 (x.bn:Int),.int .i64 x.n] 66 7 false true
def gB(r:AA)(l:List At)(p:StX CB NF l):Lv×Lo:=([.func (.func 235) ⟨[]⟩ ⟨[pA 101]⟩,dsl (FX l),.int .i64 (l.length:Int),.int .i64 (p.1.2:Int)],[some r,some (wE p.1.1)])
def gX(r:AA)(l:List At)(e:Exit)(v:Lv)(o:Lo):Prop:=
 (∃x,run CB NF l=some x/\e = .exit 0/\v=[top]/\o=[some r,some (wE x)])∨(run CB NF l=none/\e = .ret/\v=[.int .i64 3]/\∃y,o=[some r,some (wE y)])
theorem AFN(r:AA)(hr:EC 102 (some r)=true)(l:List At)(hl:l.length<=255)(p:StX CB NF l):
  Is (wpe Tryz.prog (real Tryz.prog) (AP Z0 Zp [] [] (fM MD MRN) [(28,23),(37,16),(20,11)]) 300 (.code false (AJ Tryz.prog 158 5) (CX 100 37 [1,18,19,20] [] (gB r l p))) (A7 100 [1,18,19,20] [4] 37 []
   (fun AB AC=>∃a':StX CB NF l,l.length-a'.1.2<l.length-p.1.2/\Wk 100 (100+2) AB AC (gB r l a').1 (gB r l a').2/\∀e v o,gX r l e v o->gX r l e v o)
   (fun e AB AC=>∃v o,Wk 100 (100+2) AB AC v o/\gX r l e v o))):=by
 refine⟨?_⟩
 obtain⟨⟨x,i⟩,inv⟩:=p
 have hle:i<=l.length:=inv.le
 show pO (real Tryz.prog) MD MRN (some r) (x.op:Int) x.to (x.ak:Int) (x.an:Int) (x.bk:Int) (x.bn:Int) x.n (FX l) (l.length:Int) (i:Int) _ _
 rw[uR]
 refine EL (fun hlt=>?_) (fun hge=>?_)
 ·have ha:l[i]?=some l[i]:=List.getElem?_eq_getElem hlt
  generalize l[i]=a at ha
  have hms:l.length-(i+1)<l.length-i:=by omega
  refine DK i rfl (JW ha) rfl (CG (z:=(a.t:Int)) rfl (KL (z:=a.v) rfl ?_))
  refine DZ (d:=1) (fun h=>?_) (fun hn1=>?_)
  ·refine⟨255,rfl,fun n hn=>?_,fun hn=>?_⟩
   ·have hs:CB x a=some {x with op:=n}:=by unfold CB;rw[h];show(ET 255 a.v.data.toList).map _=_;unfold ET;rw[hn];rfl
    exact BX EH uU8 (PT (by have:=(C8 hn).2.1;omega)) (BZ (by omega) ⟨rfl,⟨({x with op:=n},i+1),inv.next ha hs⟩,hms,FT hr rfl,fun _ _ _ h=>h⟩)
   ·have hs:CB x a=none:=by unfold CB;rw[h];show(ET 255 a.v.data.toList).map _=_;unfold ET;rw[hn];rfl
    exact BX (m:=0) EH uU8 (PT (by omega)) ⟨rfl,_,_,FT hr rfl,.inr ⟨inv.bad ha hs,rfl,rfl,{x with op:=0},rfl⟩⟩
  refine DZ (d:=2) (fun h=>?_) (fun hn2=>?_)
  ·refine⟨2147483647,rfl,fun n hn=>?_,fun hn=>?_⟩
   ·have hs:CB x a=some {x with to:=(n:Int)}:=by unfold CB;rw[h];show(BD 2147483647 a.v.data.toList).map _=_;unfold BD;rw[hn];rfl
    exact BX EH EZ (BG (by have:=(C8 hn).2.1;omega)) (BZ (by omega) ⟨rfl,⟨({x with to:=(n:Int)},i+1),inv.next ha hs⟩,hms,FT hr rfl,fun _ _ _ h=>h⟩)
   ·have hs:CB x a=none:=by unfold CB;rw[h];show(BD 2147483647 a.v.data.toList).map _=_;unfold BD;rw[hn];rfl
    exact BX (m:=0) EH EZ (BG (by omega)) ⟨rfl,_,_,FT hr rfl,.inr ⟨inv.bad ha hs,rfl,rfl,{x with to:=0},rfl⟩⟩
  refine DZ (d:=3) (fun h=>?_) (fun hn3=>?_)
  ·refine⟨255,rfl,fun n hn=>?_,fun hn=>?_⟩
   ·have hs:CB x a=some {x with ak:=n}:=by unfold CB;rw[h];show(ET 255 a.v.data.toList).map _=_;unfold ET;rw[hn];rfl
    exact BX EH uU8 (PT (by have:=(C8 hn).2.1;omega)) (BZ (by omega) ⟨rfl,⟨({x with ak:=n},i+1),inv.next ha hs⟩,hms,FT hr rfl,fun _ _ _ h=>h⟩)
   ·have hs:CB x a=none:=by unfold CB;rw[h];show(ET 255 a.v.data.toList).map _=_;unfold ET;rw[hn];rfl
    exact BX (m:=0) EH uU8 (PT (by omega)) ⟨rfl,_,_,FT hr rfl,.inr ⟨inv.bad ha hs,rfl,rfl,{x with ak:=0},rfl⟩⟩
  refine DZ (d:=4) (fun h=>?_) (fun hn4=>?_)
  ·refine⟨18446744073709551615,rfl,fun n hn=>?_,fun hn=>?_⟩
   ·have hs:CB x a=some {x with an:=n}:=by unfold CB;rw[h];show(ET 18446744073709551615 a.v.data.toList).map _=_;unfold ET;rw[hn];rfl
    exact BZ (by omega) ⟨rfl,⟨({x with an:=n},i+1),inv.next ha hs⟩,hms,FT hr rfl,fun _ _ _ h=>h⟩
   ·have hs:CB x a=none:=by unfold CB;rw[h];show(ET 18446744073709551615 a.v.data.toList).map _=_;unfold ET;rw[hn];rfl
    exact⟨rfl,_,_,FT hr rfl,.inr ⟨inv.bad ha hs,rfl,rfl,{x with an:=0},rfl⟩⟩
  refine DZ (d:=5) (fun h=>?_) (fun hn5=>?_)
  ·refine⟨255,rfl,fun n hn=>?_,fun hn=>?_⟩
   ·have hs:CB x a=some {x with bk:=n}:=by unfold CB;rw[h];show(ET 255 a.v.data.toList).map _=_;unfold ET;rw[hn];rfl
    exact BX EH uU8 (PT (by have:=(C8 hn).2.1;omega)) (BZ (by omega) ⟨rfl,⟨({x with bk:=n},i+1),inv.next ha hs⟩,hms,FT hr rfl,fun _ _ _ h=>h⟩)
   ·have hs:CB x a=none:=by unfold CB;rw[h];show(ET 255 a.v.data.toList).map _=_;unfold ET;rw[hn];rfl
    exact BX (m:=0) EH uU8 (PT (by omega)) ⟨rfl,_,_,FT hr rfl,.inr ⟨inv.bad ha hs,rfl,rfl,{x with bk:=0},rfl⟩⟩
  refine DZ (d:=6) (fun h=>?_) (fun hn6=>?_)
  ·refine⟨18446744073709551615,rfl,fun n hn=>?_,fun hn=>?_⟩
   ·have hs:CB x a=some {x with bn:=n}:=by unfold CB;rw[h];show(ET 18446744073709551615 a.v.data.toList).map _=_;unfold ET;rw[hn];rfl
    exact BZ (by omega) ⟨rfl,⟨({x with bn:=n},i+1),inv.next ha hs⟩,hms,FT hr rfl,fun _ _ _ h=>h⟩
   ·have hs:CB x a=none:=by unfold CB;rw[h];show(ET 18446744073709551615 a.v.data.toList).map _=_;unfold ET;rw[hn];rfl
    exact⟨rfl,_,_,FT hr rfl,.inr ⟨inv.bad ha hs,rfl,rfl,{x with bn:=0},rfl⟩⟩
  refine DZ (d:=7) (fun h=>?_) (fun hn7=>?_)
  ·refine⟨2147483647,rfl,fun n hn=>?_,fun hn=>?_⟩
   ·have hs:CB x a=some {x with n:=(n:Int)}:=by unfold CB;rw[h];show(BD 2147483647 a.v.data.toList).map _=_;unfold BD;rw[hn];rfl
    exact BX EH EZ (BG (by have:=(C8 hn).2.1;omega)) (BZ (by omega) ⟨rfl,⟨({x with n:=(n:Int)},i+1),inv.next ha hs⟩,hms,FT hr rfl,fun _ _ _ h=>h⟩)
   ·have hs:CB x a=none:=by unfold CB;rw[h];show(BD 2147483647 a.v.data.toList).map _=_;unfold BD;rw[hn];rfl
    exact BX (m:=0) EH EZ (BG (by omega)) ⟨rfl,_,_,FT hr rfl,.inr ⟨inv.bad ha hs,rfl,rfl,{x with n:=0},rfl⟩⟩
  have hs:CB x a=none:=by
   unfold CB
   split<;>first|rfl|contradiction
  exact⟨rfl,_,_,FT hr rfl,.inr ⟨inv.bad ha hs,rfl,rfl,x,rfl⟩⟩
 ·exact⟨rfl,_,_,Wk.refl _ _ _ _,.inl ⟨x,inv.last (by omega),rfl,rfl,rfl⟩⟩
def wK(r:AA):gL:=fun c n AB obs A E=>∃l:List At,l.length<=255/\c=AJ Tryz.prog 158 5/\n=37/\AB=[.func (.func 235) ⟨[]⟩ ⟨[pA 101]⟩,dsl (FX l),.int .i64 (Int.ofNat l.length),.int .i64 (0:Int)]/\obs=[some r,some (.cells [.int .u8 0,.int .i64 0,.int .u8 0,.int .u64 0,.int .u8 0,.int .u64 0,.int .i64 0] 66 7 false true)]/\
 (∀x,run CB NF l=some x->A (x.op:Int) x.to (x.ak:Int) (x.an:Int) (x.bk:Int) (x.bn:Int) x.n)/\(run CB NF l=none->∀x:Instr,E (x.op:Int) x.to (x.ak:Int) (x.an:Int) (x.bk:Int) (x.bn:Int) x.n)
theorem AHC(r:AA)(hr:EC 102 (some r)=true):BH Tryz.prog 100 [1,18,19,20] (AAx (wK r)):=by
 show BH Tryz.prog 100 [1,18,19,20] (lpS [4] _)
 refine FQ okp (W:=(AP Z0 Zp [] [] (fM MD MRN) [(28,23),(37,16),(20,11)])) (EY (ZF QZ WV)) AZ ?_
 intro c n AB obs K h
 split at h<;>try exact h.elim
 obtain⟨l,hl,hc,hn,hv,ho,hA,hE⟩:=h
 subst hc;subst hn;subst hv
 simp only[List.cons.injEq]at ho
 obtain⟨rfl,rfl⟩:=ho
 refine⟨StX CB NF l,2,300,fun p=>l.length-p.1.2,gB r l,fun _ e v o=>gX r l e v o,⟨(NF,0),⟨Nat.zero_le _,rfl⟩⟩,rfl,Wk.refl _ _ _ _,?_,AFN r hr l hl⟩
 intro e v o hR
 rcases hR with⟨x,h1,rfl,rfl,rfl⟩ | ⟨h1,rfl,rfl,y,rfl⟩
 ·exact hA x h1
 ·exact hE h1 y
theorem nG{s:List UInt8}{x:Instr}(h0:(EG 0 s).1=0)(h:run CB NF (EG 0 s).2=some x):FP s=some x:=by
 unfold FP rdO rdE;rw[if_pos h0,h];rfl
theorem nE{s:List UInt8}(h0:(EG 0 s).1=0)(h:run CB NF (EG 0 s).2=none):FP s=none:=by
 unfold FP rdO rdE;rw[if_pos h0,h];rfl
theorem bK{s:List UInt8}(h0:(EG 0 s).1≠0):FP s=none:=by
 unfold FP rdO rdE;rw[if_neg h0,if_neg h0]
theorem AId(s:ByteArray):Is (yH (real Tryz.prog) MD MRN (wK (rdC s false)) s (AJv s)):=by
 refine⟨?_⟩
 rw[yI]
 exact⟨fun h0=>BI _ (JP _) ⟨_,NA _,rfl,rfl,rfl,rfl,fun x hx=>⟨x,false,.inl ⟨rfl,nG h0 hx⟩,rfl,YG⟩,fun hx x=>⟨x,true,.inr ⟨rfl,nE h0 hx⟩,rfl,YG⟩⟩,
  fun h3=>⟨NF,true,.inr ⟨rfl,bK (by omega)⟩,rfl,YG⟩,fun h4=>⟨NF,true,.inr ⟨rfl,bK (by omega)⟩,rfl,YG⟩⟩
theorem AB2:JU Tryz.prog 100 193 (TQ ZY):=by
 intro args H K h
 unfold TQ at h
 split at h<;>try exact h.elim
 rename_i p
 split at h<;>try exact h.elim
 rename_i s e sz lo ow hg
 split at h<;>try exact h.elim
 rename_i hc
 simp only[Bool.and_eq_true]at hc
 rw[O5 hc.1]at hg
 obtain⟨v,AC,⟨x,b,hb,rfl,hw⟩,hC⟩:=LM (EY (ZF QZ WV)) (GH (fun x hx=>by simp only[List.mem_singleton]at hx;subst hx;exact AHC (rdC s false) rfl)) (AId s)
 have hC2:∀B,BM Tryz.prog 100 B 193 [pA 100] (hR s) (.returned (.agg ⟨BN x⟩)) (hOf 100 [] [some (rdC s b)]):=fun B=>IM (hC B) hw
 rcases hb with⟨rfl,hx⟩ | ⟨rfl,hx⟩
 ·exact⟨_,_,fun B=>KI (rest:=[]) rfl rfl hC2 hg hc.2 B,h.1 x hx⟩
 ·exact⟨_,_,fun B=>KI (rest:=[]) rfl rfl hC2 hg hc.2 B,h.2 hx x⟩
def XO:ZX:=fun s A E=>(∀x:DN,EQ s.data.toList=some x->A (x.w:Int) x.b)/\(EQ s.data.toList=none->∀x:DN,E (x.w:Int) x.b)
def AGg(s:ByteArray):RK:=fun v AC=>∃(x:DN) (b:Bool),((b=false/\EQ s.data.toList=some x)∨(b=true/\EQ s.data.toList=none))/\v = .agg ⟨BB x⟩/\Wk 100 (100+1) [v] AC [v] [some (rdC s b)]
def lV(x:DN):AA := .cells [.int .u64 (x.w:Int),.int .i64 x.b] 181 2 false true
def ZR(r:AA)(l:List At)(p:StX D9 KV l):Lv×Lo:=([.func (.func 238) ⟨[]⟩ ⟨[pA 101]⟩,dsl (FX l),.int .i64 (l.length:Int),.int .i64 (p.1.2:Int)],[some r,some (lV p.1.1)])
def ZZ(r:AA)(l:List At)(e:Exit)(v:Lv)(o:Lo):Prop:=
 (∃x,run D9 KV l=some x/\e = .exit 0/\v=[top]/\o=[some r,some (lV x)])∨(run D9 KV l=none/\e = .ret/\v=[.int .i64 3]/\∃y,o=[some r,some (lV y)])
theorem ACg(r:AA)(hr:EC 102 (some r)=true)(l:List At)(hl:l.length<=255)(p:StX D9 KV l):
  Is (wpe Tryz.prog (real Tryz.prog) (AP Z0 Zp [] [] (fM MD MRN) [(28,23),(37,16),(20,11)]) 300 (.code false (AJ Tryz.prog 158 5) (CX 100 37 [1,18,19,20] [] (ZR r l p))) (A7 100 [1,18,19,20] [4] 37 []
   (fun AB AC=>∃a':StX D9 KV l,l.length-a'.1.2<l.length-p.1.2/\Wk 100 (100+2) AB AC (ZR r l a').1 (ZR r l a').2/\∀e v o,ZZ r l e v o->ZZ r l e v o)
   (fun e AB AC=>∃v o,Wk 100 (100+2) AB AC v o/\ZZ r l e v o))):=by
 refine⟨?_⟩
 obtain⟨⟨x,i⟩,inv⟩:=p
 have hle:i<=l.length:=inv.le
 show j4 (real Tryz.prog) MD MRN (some r) (x.w:Int) x.b (FX l) (l.length:Int) (i:Int) _ _
 rw[mO]
 refine EL (fun hlt=>?_) (fun hge=>?_)
 ·have ha:l[i]?=some l[i]:=List.getElem?_eq_getElem hlt
  generalize l[i]=a at ha
  have hms:l.length-(i+1)<l.length-i:=by omega
  refine DK i rfl (JW ha) rfl (CG (z:=(a.t:Int)) rfl (KL (z:=a.v) rfl ?_))
  refine DZ (d:=1) (fun h=>?_) (fun hn1=>?_)
  ·refine⟨18446744073709551615,rfl,fun n hn=>?_,fun hn=>?_⟩
   ·have hs:D9 x a=some {x with w:=n}:=by unfold D9;rw[h];show(ET 18446744073709551615 a.v.data.toList).map _=_;unfold ET;rw[hn];rfl
    exact BZ (by omega) ⟨rfl,⟨({x with w:=n},i+1),inv.next ha hs⟩,hms,FT hr rfl,fun _ _ _ h=>h⟩
   ·have hs:D9 x a=none:=by unfold D9;rw[h];show(ET 18446744073709551615 a.v.data.toList).map _=_;unfold ET;rw[hn];rfl
    exact⟨rfl,_,_,FT hr rfl,.inr ⟨inv.bad ha hs,rfl,rfl,{x with w:=0},rfl⟩⟩
  refine DZ (d:=2) (fun h=>?_) (fun hn2=>?_)
  ·refine⟨2147483647,rfl,fun n hn=>?_,fun hn=>?_⟩
   ·have hs:D9 x a=some {x with b:=(n:Int)}:=by unfold D9;rw[h];show(BD 2147483647 a.v.data.toList).map _=_;unfold BD;rw[hn];rfl
    exact BX EH EZ (BG (by have:=(C8 hn).2.1;omega)) (BZ (by omega) ⟨rfl,⟨({x with b:=(n:Int)},i+1),inv.next ha hs⟩,hms,FT hr rfl,fun _ _ _ h=>h⟩)
   ·have hs:D9 x a=none:=by unfold D9;rw[h];show(BD 2147483647 a.v.data.toList).map _=_;unfold BD;rw[hn];rfl
    exact BX (m:=0) EH EZ (BG (by omega)) ⟨rfl,_,_,FT hr rfl,.inr ⟨inv.bad ha hs,rfl,rfl,{x with b:=0},rfl⟩⟩
  have hs:D9 x a=none:=by
   unfold D9
   split<;>first|rfl|contradiction
  exact⟨rfl,_,_,FT hr rfl,.inr ⟨inv.bad ha hs,rfl,rfl,x,rfl⟩⟩
 ·exact⟨rfl,_,_,Wk.refl _ _ _ _,.inl ⟨x,inv.last (by omega),rfl,rfl,rfl⟩⟩
def nN(r:AA):ZU:=fun c n AB obs A E=>∃l:List At,l.length<=255/\c=AJ Tryz.prog 158 5/\n=37/\AB=[.func (.func 238) ⟨[]⟩ ⟨[pA 101]⟩,dsl (FX l),.int .i64 (Int.ofNat l.length),.int .i64 (0:Int)]/\obs=[some r,some (.cells [.int .u64 0,.int .i64 0] 181 2 false true)]/\
 (∀x,run D9 KV l=some x->A (x.w:Int) x.b)/\(run D9 KV l=none->∀x:DN,E (x.w:Int) x.b)
theorem AE3(r:AA)(hr:EC 102 (some r)=true):BH Tryz.prog 100 [1,18,19,20] (qR (nN r)):=by
 show BH Tryz.prog 100 [1,18,19,20] (lpS [4] _)
 refine FQ okp (W:=(AP Z0 Zp [] [] (fM MD MRN) [(28,23),(37,16),(20,11)])) (EY (ZF QZ WV)) AZ ?_
 intro c n AB obs K h
 split at h<;>try exact h.elim
 obtain⟨l,hl,hc,hn,hv,ho,hA,hE⟩:=h
 subst hc;subst hn;subst hv
 simp only[List.cons.injEq]at ho
 obtain⟨rfl,rfl⟩:=ho
 refine⟨StX D9 KV l,2,300,fun p=>l.length-p.1.2,ZR r l,fun _ e v o=>ZZ r l e v o,⟨(KV,0),⟨Nat.zero_le _,rfl⟩⟩,rfl,Wk.refl _ _ _ _,?_,ACg r hr l hl⟩
 intro e v o hR
 rcases hR with⟨x,h1,rfl,rfl,rfl⟩ | ⟨h1,rfl,rfl,y,rfl⟩
 ·exact hA x h1
 ·exact hE h1 y
theorem kZ{s:List UInt8}{x:DN}(h0:(EG 0 s).1=0)(h:run D9 KV (EG 0 s).2=some x):EQ s=some x:=by
 unfold EQ rdO rdE;rw[if_pos h0,h];rfl
theorem kY{s:List UInt8}(h0:(EG 0 s).1=0)(h:run D9 KV (EG 0 s).2=none):EQ s=none:=by
 unfold EQ rdO rdE;rw[if_pos h0,h];rfl
theorem YT{s:List UInt8}(h0:(EG 0 s).1≠0):EQ s=none:=by
 unfold EQ rdO rdE;rw[if_neg h0,if_neg h0]
theorem AFA(s:ByteArray):Is (pI (real Tryz.prog) MD MRN (nN (rdC s false)) s (AGg s)):=by
 refine⟨?_⟩
 rw[uN]
 exact⟨fun h0=>BI _ (JP _) ⟨_,NA _,rfl,rfl,rfl,rfl,fun x hx=>⟨x,false,.inl ⟨rfl,kZ h0 hx⟩,rfl,YG⟩,fun hx x=>⟨x,true,.inr ⟨rfl,kY h0 hx⟩,rfl,YG⟩⟩,
  fun h3=>⟨KV,true,.inr ⟨rfl,YT (by omega)⟩,rfl,YG⟩,fun h4=>⟨KV,true,.inr ⟨rfl,YT (by omega)⟩,rfl,YG⟩⟩
theorem zS:JU Tryz.prog 100 201 (Q5 XO):=by
 intro args H K h
 unfold Q5 at h
 split at h<;>try exact h.elim
 rename_i p
 split at h<;>try exact h.elim
 rename_i s e sz lo ow hg
 split at h<;>try exact h.elim
 rename_i hc
 simp only[Bool.and_eq_true]at hc
 rw[O5 hc.1]at hg
 obtain⟨v,AC,⟨x,b,hb,rfl,hw⟩,hC⟩:=LM (EY (ZF QZ WV)) (GH (fun x hx=>by simp only[List.mem_singleton]at hx;subst hx;exact AE3 (rdC s false) rfl)) (AFA s)
 have hC2:∀B,BM Tryz.prog 100 B 201 [pA 100] (hR s) (.returned (.agg ⟨BB x⟩)) (hOf 100 [] [some (rdC s b)]):=fun B=>IM (hC B) hw
 rcases hb with⟨rfl,hx⟩ | ⟨rfl,hx⟩
 ·exact⟨_,_,fun B=>KI (rest:=[]) rfl rfl hC2 hg hc.2 B,h.1 x hx⟩
 ·exact⟨_,_,fun B=>KI (rest:=[]) rfl rfl hC2 hg hc.2 B,h.2 hx x⟩
end
end Go.Proofs.Ob
