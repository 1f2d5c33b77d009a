/- . -/
import Derived.Test.YtblbaohcelldpaaGreatDoorU3
set_option linter.all false
set_option maxRecDepth 100000
namespace Go.Tlv
open Go Go.Abs
theorem yO:∀(l:List At) (last:Nat),(∀a∈l,a.t<256)->JS last l=0->last<256->l.length+last<=255
 | [],last,_,_,h=>by simp;omega
 |a::l,last,ht,h,_=>by
  simp only[JS]at h
  split at h
  ·omega
  ·split at h
   ·omega
   ·have h3:=ht a (List.mem_cons_self ..)
    have:=yO l a.t (fun x hx=>ht x (List.mem_cons_of_mem _ hx)) h h3
    simp only[List.length_cons];omega
theorem I7(s:List UInt8):(CP 0 s).2.length<=255:=by
 by_cases h:(CP 0 s).1=0
 ·obtain⟨h1,h2,h3⟩:=UK s.length s 0 _ (Nat.le_refl _) (Prod.ext h rfl)
  have:=yO _ 0 h3 h1 (by omega)
  omega
 ·rw[MH _ _ h];simp
structure YG{α:Type}(step:α->At->Option α)(z:α)(l:List At)(x:α)(i:Nat):Prop where
 le:i<=l.length
 eq:run step z l=run step x (l.drop i)
abbrev StX{α:Type}(step:α->At->Option α)(z:α)(l:List At):={p:α×Nat // YG step z l p.1 p.2}
section
variable {α:Type} {step:α->At->Option α} {z:α} {l:List At} {x:α} {i:Nat}
theorem YG.one(inv:YG step z l x i){a:At}(ha:l[i]?=some a):run step z l=match step x a with
  |some y=>run step y (l.drop (i+1))
  |none=>none:=by
 have hlt:i<l.length:=(List.getElem?_eq_some_iff.1 ha).1
 have h2:=List.drop_eq_getElem_cons hlt
 rw[List.getElem?_eq_getElem hlt]at ha
 simp only[Option.some.injEq]at ha
 rw[inv.eq,h2,ha]
 rfl
theorem YG.next(inv:YG step z l x i){a:At}{y:α}(ha:l[i]?=some a)(hs:step x a=some y):YG step z l y (i+1):=
 ⟨(List.getElem?_eq_some_iff.1 ha).1,by rw[inv.one ha,hs]⟩
theorem YG.bad(inv:YG step z l x i){a:At}(ha:l[i]?=some a)(hs:step x a=none):run step z l=none:=by rw[inv.one ha,hs]
theorem YG.last(inv:YG step z l x i)(h:l.length<=i):run step z l=some x:=by
 rw[inv.eq,List.drop_eq_nil_of_le h];rfl
end
end Go.Tlv
namespace Go.Proofs.Ob
open Go Go.Abs Go.Tlv
noncomputable section
theorem YD:Tryz.prog.underlying 2=some (.int .i64):=by kernel_rfl
theorem GH{l:List At}{i:Nat}{a:At}(h:l[i]?=some a):(CZ l)[i]?=some (.agg ⟨[.int .u8 (a.t:Int),.string a.v]⟩):=by
 unfold CZ;rw[List.getElem?_map,h];rfl
theorem FY(l:List At):(CZ l).length=l.length:=List.length_map _
theorem ALo{a b:AJ}(ha:C8 102 (some a)=true)(hb:C8 102 (some b)=true):∀(i:Nat) o,([some a,some b]:Lo)[i]?=some (some o)->C8 (100+2) (some o)=true:=by
 intro i o h
 rcases i with _|_|i
 ·simp only[List.getElem?_cons_zero,Option.some.injEq]at h;subst h;exact ha
 ·simp only[List.getElem?_cons_succ,List.getElem?_cons_zero,Option.some.injEq]at h;subst h;exact hb
 ·simp at h
theorem EE{AB:Lv}{r x:AJ}{extra:Lo}(hr:C8 102 (some r)=true)(hx:C8 102 (some x)=true)(hv:A8 (100+2) AB=true:=by rfl):Wk 100 (100+2) AB (some r::some x::extra) AB [some r,some x]:=
 I8 (k0:=2) (pre:=[some r,some x]) rfl hv (ALo hr hx)
theorem GD{AB:Lv}{r x:AJ}{extra:Lo}(hr:C8 102 (some r)=true)(hx:C8 102 (some x)=true)(hv:A8 (100+2) AB=true:=by rfl):Wk 100 (100+2) AB (some r::some x::extra) AB [some r,none]:=
 (EE hr hx hv).trans (CQ (BR.refl _) (.cons (.refl _) (.cons (.none _) .nil)))
theorem Y0{a b:FuncId×(Lv->(Value->Prop)->Prop)}(h1:EW Tryz.prog 100 a.1 a.2)(h2:EW Tryz.prog 100 b.1 b.2):∀x∈[a,b],EW Tryz.prog 100 x.1 x.2:=fun x hx=>by
 simp only[List.mem_cons,List.not_mem_nil,or_false]at hx
 rcases hx with rfl|rfl
 ·exact h1
 ·exact h2
theorem EO{a:FuncId×(Lv->(Value->Prop)->Prop)}(h1:EW Tryz.prog 100 a.1 a.2):∀x∈[a],EW Tryz.prog 100 x.1 x.2:=fun x hx=>by
 simp only[List.mem_singleton]at hx;subst hx;exact h1
theorem AAz{P:Program}{B:Base}{f:FuncId}{args:Lv}{H H1 H2:Heap}{e:Ending}(h:BP P 100 B f args H e H1)(hg:∀n o,H2.get n=some o->H1.get n=some o)(hn:H2.next=H1.next):BP P 100 B f args H e H2:=
 fun F w x R ha=>(h F w x R ha).mono fun e' w' ⟨F',h1,h2,R'⟩=>⟨F',h1,h2,R'.part hg hn⟩
theorem AC8{f:FuncId}{rest:Lv}(hrest:A8 0 rest=true){s:ByteArray}{b:Bool}{v:Value}(hv:below 0 v=true)(hC:∀B,BP Tryz.prog 100 B f (pA 100::rest) (hR s) (.returned v) (hOf 100 [] [some (rdC s b)]))
  {H:Heap} {p:Nat} (hg:H.get p=some (rdC s false)) (hp:ok1 H p=true) (B:Base):BP Tryz.prog 100 B f (.pointer (some ⟨p,0,none⟩)::rest) H (.returned v) (G9 H [p] [some (rdC s b)]):=by
 unfold ok1 at hp
 simp only[Bool.and_eq_true]at hp
 have hp1:=Nat.le_of_ble_eq_true hp.1
 have hp2:p<H.next:=Nat.le_of_ble_eq_true hp.2
 have h2:=AGv (ins:=[some (rdC s false)]) (upd:=[some (rdC s b)]) (new:=[]) rfl (fun i hi=>by cases i<;>simp at hi) rfl hC (H:=H) (ns:=[p]) rfl (by simp) (fun m hm=>by simp only[List.mem_singleton]at hm;subst hm;exact⟨hp1,hp2⟩)
  (fun i o hi=>by
   cases i with
   |succ i=>simp at hi
   |zero=>
    simp only[List.getElem?_cons_zero,Option.some.injEq]at hi;subst hi
    exact⟨p,rfl,hg⟩) B
 have hτ:tau 100 [p] H.next 100=p:=UB (Nat.le_refl _) rfl
 have e1:FZ (tau 100 [p] H.next) rest=rest:=CU (n0:=0) (fun n h=>by omega) rest hrest
 have e2:GA (tau 100 [p] H.next) v=v:=RX (n0:=0) (fun n h=>by omega) v hv
 have ha:FZ (tau 100 [p] H.next) (pA 100::rest) = .pointer (some ⟨p,0,none⟩)::rest:=by
  simp only[FZ,pA,GA,hτ,e1]
 rw[ha]at h2
 simp only[lW,e2,List.map_cons,List.map_nil,Option.map_some,GV,rdC,FZ,GA]at h2
 exact h2
theorem ADg{H:Heap}{p:Nat}{ob:AJ}(hg:H.get p=some ob):∀n o,H.get n=some o->(G9 H [p] [some ob]).get n=some o:=by
 intro n o hn
 have hpg:=K7 [p] [some ob] H n rfl (by simp)
 by_cases e:n=p
 ·subst e
  rw[hpg.1 0 rfl]
  rw[hg]at hn;exact hn
 ·rw[hpg.2 (by simpa using e)];exact hn
theorem LW{e sz:Nat}{lo ow:Bool}(h:rM e sz lo ow=true){s:ByteArray}{b:Bool}:AJ.cells [.string s,.bool b] e sz lo ow=rdC s b:=by
 simp only[rM,Bool.and_eq_true,Bool.not_eq_true']at h
 obtain⟨h1,h2,h3,h4⟩:=h
 rw[Nat.eq_of_beq_eq_true h1,Nat.eq_of_beq_eq_true h2,h3,h4];rfl
theorem IC{f:FuncId}{rest:Lv}(hrest:A8 0 rest=true){s:ByteArray}{b:Bool}{v:Value}(hv:below 0 v=true)(hC:∀B,BP Tryz.prog 100 B f (pA 100::rest) (hR s) (.returned v) (hOf 100 [] [some (rdC s b)]))
  {H:Heap} {p:Nat} (hg:H.get p=some (rdC s false)) (hp:ok1 H p=true) (B:Base):BP Tryz.prog 100 B f (.pointer (some ⟨p,0,none⟩)::rest) H (.returned v) (match b with|false=>H|true=>G9 H [p] [some (rdC s true)]):=by
 have h:=AC8 hrest hv hC hg hp B
 cases b with
 |true=>exact h
 |false=>exact AAz h (ADg hg) rfl
theorem JB{W:How}(hkn:QP Tryz.prog 100 W)(hlp:QQ Tryz.prog 100 W){n:Nat}{f:FuncId}{args:Lv}{H:Heap}{K:RK}(h:Is (wpe Tryz.prog (real Tryz.prog) W n (.call f args H) (PT 100 K))):
 ∃v AL,K v AL/\∀B,BP Tryz.prog 100 B f args H (.returned v) (hOf 100 [] AL):=yM okp hkn hlp h.out
theorem U2{v:Value}{s:ByteArray}{b:Bool}{extra:Lo}(hv:A8 (100+1) [v]=true:=by rfl):Wk 100 (100+1) [v] (some (rdC s b)::extra) [v] [some (rdC s b)]:=
 I8 (k0:=1) (pre:=[some (rdC s b)]) rfl hv (fun i o h=>by
  cases i with
  |zero=>simp only[List.getElem?_cons_zero,Option.some.injEq]at h;subst h;rfl
  |succ i=>simp at h)
def kS:xV:=fun s A E=>(∀x:Int,GJ s.data.toList=some x->A x)/\(GJ s.data.toList=none->∀x:Int,E x)
def AIO(s:ByteArray):RK:=fun v AL=>∃(x:Int) (b:Bool),((b=false/\GJ s.data.toList=some x)∨(b=true/\GJ s.data.toList=none))/\v = .int .i64 x/\Wk 100 (100+1) [v] AL [v] [some (rdC s b)]
theorem AH2(s:ByteArray):Is (ACp (real Tryz.prog) MRN s (AIO s)):=by
 refine⟨?_⟩
 rw[AAM]
 exact⟨2147483647,rfl,fun n hn=>BI CW DU (AX (by have:=(BV hn).2.1;omega)) ⟨(n:Int),false,.inl ⟨rfl,by unfold GJ AV;rw[hn];rfl⟩,rfl,U2⟩,fun hn=>BI (m:=0) CW DU (AX (by omega)) ⟨0,true,.inr ⟨rfl,by unfold GJ AV;rw[hn];rfl⟩,rfl,U2⟩⟩
theorem AC5:OV Tryz.prog 100 160 (X5 kS):=by
 intro args H K h
 unfold X5 at h
 split at h<;>try exact h.elim
 rename_i p
 split at h<;>try exact h.elim
 rename_i s e sz lo ow hg
 split at h<;>try exact h.elim
 rename_i hc
 simp only[Bool.and_eq_true]at hc
 rw[LW hc.1]at hg
 obtain⟨v,AL,⟨x,b,hb,rfl,hw⟩,hC⟩:=JB (DI (EO TJ)) BN (AH2 s)
 have hC2:∀B,BP Tryz.prog 100 B 160 [pA 100] (hR s) (.returned (.int .i64 x)) (hOf 100 [] [some (rdC s b)]):=fun B=>GZ (hC B) hw
 rcases hb with⟨rfl,hx⟩ | ⟨rfl,hx⟩
 ·exact⟨_,_,fun B=>IC (rest:=[]) rfl rfl hC2 hg hc.2 B,h.1 x hx⟩
 ·exact⟨_,_,fun B=>IC (rest:=[]) rfl rfl hC2 hg hc.2 B,h.2 hx x⟩
def kT:xW:=fun s A E=>(∀x:Nat,ET s.data.toList=some x->A (x:Int))/\(ET s.data.toList=none->∀x:Nat,E (x:Int))
def AIP(s:ByteArray):RK:=fun v AL=>∃(x:Nat) (b:Bool),((b=false/\ET s.data.toList=some x)∨(b=true/\ET s.data.toList=none))/\v = .int .u64 (x:Int)/\Wk 100 (100+1) [v] AL [v] [some (rdC s b)]
theorem AH3(s:ByteArray):Is (ACq (real Tryz.prog) MRN s (AIP s)):=by
 refine⟨?_⟩
 rw[AAN]
 exact⟨18446744073709551615,rfl,fun n hn=>⟨n,false,.inl ⟨rfl,hn⟩,rfl,U2⟩,fun hn=>⟨0,true,.inr ⟨rfl,hn⟩,rfl,U2⟩⟩
theorem AC6:OV Tryz.prog 100 183 (X6 kT):=by
 intro args H K h
 unfold X6 at h
 split at h<;>try exact h.elim
 rename_i p
 split at h<;>try exact h.elim
 rename_i s e sz lo ow hg
 split at h<;>try exact h.elim
 rename_i hc
 simp only[Bool.and_eq_true]at hc
 rw[LW hc.1]at hg
 obtain⟨v,AL,⟨x,b,hb,rfl,hw⟩,hC⟩:=JB (DI (EO TJ)) BN (AH3 s)
 have hC2:∀B,BP Tryz.prog 100 B 183 [pA 100] (hR s) (.returned (.int .u64 (x:Int))) (hOf 100 [] [some (rdC s b)]):=fun B=>GZ (hC B) hw
 rcases hb with⟨rfl,hx⟩ | ⟨rfl,hx⟩
 ·exact⟨_,_,fun B=>IC (rest:=[]) rfl rfl hC2 hg hc.2 B,h.1 x hx⟩
 ·exact⟨_,_,fun B=>IC (rest:=[]) rfl rfl hC2 hg hc.2 B,h.2 hx x⟩
def kR:xU:=fun s A E=>(∀x:Arm,GI s.data.toList=some x->A (x.v:Int) x.nx)/\(GI s.data.toList=none->∀x:Arm,E (x.v:Int) x.nx)
def AIN(s:ByteArray):RK:=fun v AL=>∃(x:Arm) (b:Bool),((b=false/\GI s.data.toList=some x)∨(b=true/\GI s.data.toList=none))/\v = .agg ⟨FV x⟩/\Wk 100 (100+1) [v] AL [v] [some (rdC s b)]
def AEb(x:Arm):AJ := .cells [.int .u32 (x.v:Int),.int .i64 x.nx] 61 2 false true
def xJ(r:AJ)(l:List At)(p:StX DY SB l):Lv×Lo:=([.func (.func 231) ⟨[]⟩ ⟨[pA 101]⟩,dsl (CZ l),.int .i64 (l.length:Int),.int .i64 (p.1.2:Int)],[some r,some (AEb p.1.1)])
def xY(r:AJ)(l:List At)(e:Exit)(v:Lv)(o:Lo):Prop:=
 (∃x,run DY SB l=some x/\e = .exit 0/\v=[top]/\o=[some r,some (AEb x)])∨(run DY SB l=none/\e = .ret/\v=[.int .i64 3]/\∃y,o=[some r,some (AEb y)])
theorem AFO(r:AJ)(hr:C8 102 (some r)=true)(l:List At)(hl:l.length<=255)(p:StX DY SB l):
  Is (wpe Tryz.prog (real Tryz.prog) (AU Z0 Zp [] [] (ZO MD MRN) [(28,23),(37,16),(20,11)]) 300 (.code false (AO Tryz.prog 158 5) (C9 100 37 [1,18,19,20] [] (xJ r l p))) (BM 100 [1,18,19,20] [4] 37 []
   (fun AB AL=>∃a':StX DY SB l,l.length-a'.1.2<l.length-p.1.2/\Wk 100 (100+2) AB AL (xJ r l a').1 (xJ r l a').2/\∀e v o,xY r l e v o->xY r l e v o)
   (fun e AB AL=>∃v o,Wk 100 (100+2) AB AL v o/\xY r l e v o))):=by
 refine⟨?_⟩
 obtain⟨⟨x,i⟩,inv⟩:=p
 have hle:i<=l.length:=inv.le
 show yS (real Tryz.prog) MD MRN (some r) (x.v:Int) x.nx (CZ l) (l.length:Int) (i:Int) _ _
 rw[vB]
 refine DW (fun hlt=>?_) (fun hge=>?_)
 ·have ha:l[i]?=some l[i]:=List.getElem?_eq_getElem hlt
  generalize l[i]=a at ha
  have hms:l.length-(i+1)<l.length-i:=by omega
  refine EG i rfl (GH ha) rfl (EN (z:=(a.t:Int)) rfl (JM (z:=a.v) rfl ?_))
  refine CG (d:=1) (fun h=>?_) (fun hn1=>?_)
  ·refine⟨4294967295,rfl,fun n hn=>?_,fun hn=>?_⟩
   ·have hs:DY x a=some {x with v:=n}:=by unfold DY;rw[h];show(DN 4294967295 a.v.data.toList).map _=_;unfold DN;rw[hn];rfl
    exact BI CW tY (JP (by have:=(BV hn).2.1;omega)) (BS (by omega) ⟨rfl,⟨({x with v:=n},i+1),inv.next ha hs⟩,hms,EE hr rfl,fun _ _ _ h=>h⟩)
   ·have hs:DY x a=none:=by unfold DY;rw[h];show(DN 4294967295 a.v.data.toList).map _=_;unfold DN;rw[hn];rfl
    exact BI (m:=0) CW tY (JP (by omega)) ⟨rfl,_,_,EE hr rfl,.inr ⟨inv.bad ha hs,rfl,rfl,{x with v:=0},rfl⟩⟩
  refine CG (d:=2) (fun h=>?_) (fun hn2=>?_)
  ·refine⟨2147483647,rfl,fun n hn=>?_,fun hn=>?_⟩
   ·have hs:DY x a=some {x with nx:=(n:Int)}:=by unfold DY;rw[h];show(AV 2147483647 a.v.data.toList).map _=_;unfold AV;rw[hn];rfl
    exact BI CW DU (AX (by have:=(BV hn).2.1;omega)) (BS (by omega) ⟨rfl,⟨({x with nx:=(n:Int)},i+1),inv.next ha hs⟩,hms,EE hr rfl,fun _ _ _ h=>h⟩)
   ·have hs:DY x a=none:=by unfold DY;rw[h];show(AV 2147483647 a.v.data.toList).map _=_;unfold AV;rw[hn];rfl
    exact BI (m:=0) CW DU (AX (by omega)) ⟨rfl,_,_,EE hr rfl,.inr ⟨inv.bad ha hs,rfl,rfl,{x with nx:=0},rfl⟩⟩
  have hs:DY x a=none:=by
   unfold DY
   split<;>first|rfl|contradiction
  exact⟨rfl,_,_,EE hr rfl,.inr ⟨inv.bad ha hs,rfl,rfl,x,rfl⟩⟩
 ·exact⟨rfl,_,_,Wk.refl _ _ _ _,.inl ⟨x,inv.last (by omega),rfl,rfl,rfl⟩⟩
def ABF(r:AJ):xN:=fun c n AB obs A E=>∃l:List At,l.length<=255/\c=AO Tryz.prog 158 5/\n=37/\AB=[.func (.func 231) ⟨[]⟩ ⟨[pA 101]⟩,dsl (CZ l),.int .i64 (Int.ofNat l.length),.int .i64 (0:Int)]/\obs=[some r,some (.cells [.int .u32 0,.int .i64 0] 61 2 false true)]/\
 (∀x,run DY SB l=some x->A (x.v:Int) x.nx)/\(run DY SB l=none->∀x:Arm,E (x.v:Int) x.nx)
theorem AHH(r:AJ)(hr:C8 102 (some r)=true):BH Tryz.prog 100 [1,18,19,20] (ADC (ABF r)):=by
 show BH Tryz.prog 100 [1,18,19,20] (lpS [4] _)
 refine FW okp (W:=(AU Z0 Zp [] [] (ZO MD MRN) [(28,23),(37,16),(20,11)])) (DI (Y0 OE TJ)) BN ?_
 intro c n AB obs K h
 split at h<;>try exact h.elim
 obtain⟨l,hl,hc,hn,hv,ho,hA,hE⟩:=h
 subst hc;subst hn;subst hv
 simp only[List.cons.injEq]at ho
 obtain⟨rfl,rfl⟩:=ho
 refine⟨StX DY SB l,2,300,fun p=>l.length-p.1.2,xJ r l,fun _ e v o=>xY r l e v o,⟨(SB,0),⟨Nat.zero_le _,rfl⟩⟩,rfl,Wk.refl _ _ _ _,?_,AFO r hr l hl⟩
 intro e v o hR
 rcases hR with⟨x,h1,rfl,rfl,rfl⟩ | ⟨h1,rfl,rfl,y,rfl⟩
 ·exact hA x h1
 ·exact hE h1 y
theorem sS{s:List UInt8}{x:Arm}(h0:(CP 0 s).1=0)(h:run DY SB (CP 0 s).2=some x):GI s=some x:=by
 unfold GI rdO rdE;rw[if_pos h0,h];rfl
theorem sQ{s:List UInt8}(h0:(CP 0 s).1=0)(h:run DY SB (CP 0 s).2=none):GI s=none:=by
 unfold GI rdO rdE;rw[if_pos h0,h];rfl
theorem eQ{s:List UInt8}(h0:(CP 0 s).1≠0):GI s=none:=by
 unfold GI rdO rdE;rw[if_neg h0,if_neg h0]
theorem AH1(s:ByteArray):Is (ACo (real Tryz.prog) MD MRN (ABF (rdC s false)) s (AIN s)):=by
 refine⟨?_⟩
 rw[AAL]
 exact⟨fun h0=>CL _ (FY _) ⟨_,I7 _,rfl,rfl,rfl,rfl,fun x hx=>⟨x,false,.inl ⟨rfl,sS h0 hx⟩,rfl,U2⟩,fun hx x=>⟨x,true,.inr ⟨rfl,sQ h0 hx⟩,rfl,U2⟩⟩,
  fun h3=>⟨SB,true,.inr ⟨rfl,eQ (by omega)⟩,rfl,U2⟩,fun h4=>⟨SB,true,.inr ⟨rfl,eQ (by omega)⟩,rfl,U2⟩⟩
theorem AC4:OV Tryz.prog 100 162 (X4 kR):=by
 intro args H K h
 unfold X4 at h
 split at h<;>try exact h.elim
 rename_i p
 split at h<;>try exact h.elim
 rename_i s e sz lo ow hg
 split at h<;>try exact h.elim
 rename_i hc
 simp only[Bool.and_eq_true]at hc
 rw[LW hc.1]at hg
 obtain⟨v,AL,⟨x,b,hb,rfl,hw⟩,hC⟩:=JB (DI (Y0 OE TJ)) (E9 (fun x hx=>by simp only[List.mem_singleton]at hx;subst hx;exact AHH (rdC s false) rfl)) (AH1 s)
 have hC2:∀B,BP Tryz.prog 100 B 162 [pA 100] (hR s) (.returned (.agg ⟨FV x⟩)) (hOf 100 [] [some (rdC s b)]):=fun B=>GZ (hC B) hw
 rcases hb with⟨rfl,hx⟩ | ⟨rfl,hx⟩
 ·exact⟨_,_,fun B=>IC (rest:=[]) rfl rfl hC2 hg hc.2 B,h.1 x hx⟩
 ·exact⟨_,_,fun B=>IC (rest:=[]) rfl rfl hC2 hg hc.2 B,h.2 hx x⟩
def WH:aH:=fun s A E=>(∀x:Instr,DV s.data.toList=some x->A (x.op:Int) x.to (x.ak:Int) (x.an:Int) (x.bk:Int) (x.bn:Int) x.n)/\(DV s.data.toList=none->∀x:Instr,E (x.op:Int) x.to (x.ak:Int) (x.an:Int) (x.bk:Int) (x.bn:Int) x.n)
def AEj(s:ByteArray):RK:=fun v AL=>∃(x:Instr) (b:Bool),((b=false/\DV s.data.toList=some x)∨(b=true/\DV s.data.toList=none))/\v = .agg ⟨CO x⟩/\Wk 100 (100+1) [v] AL [v] [some (rdC s b)]
def oG(x:Instr):AJ := .cells [.int .u8 (x.op:Int),.int .i64 x.to,.int .u8 (x.ak:Int),.int .u64 (x.an:Int),.int .u8 (x.bk:Int),.int .u64 (x.bn:Int),.int .i64 x.n] 66 7 false true
def Z4(r:AJ)(l:List At)(p:StX A9 I6 l):Lv×Lo:=([.func (.func 235) ⟨[]⟩ ⟨[pA 101]⟩,dsl (CZ l),.int .i64 (l.length:Int),.int .i64 (p.1.2:Int)],[some r,some (oG p.1.1)])
def aM(r:AJ)(l:List At)(e:Exit)(v:Lv)(o:Lo):Prop:=
 (∃x,run A9 I6 l=some x/\e = .exit 0/\v=[top]/\o=[some r,some (oG x)])∨(run A9 I6 l=none/\e = .ret/\v=[.int .i64 3]/\∃y,o=[some r,some (oG y)])
theorem ABl(r:AJ)(hr:C8 102 (some r)=true)(l:List At)(hl:l.length<=255)(p:StX A9 I6 l):
  Is (wpe Tryz.prog (real Tryz.prog) (AU Z0 Zp [] [] (ZO MD MRN) [(28,23),(37,16),(20,11)]) 300 (.code false (AO Tryz.prog 158 5) (C9 100 37 [1,18,19,20] [] (Z4 r l p))) (BM 100 [1,18,19,20] [4] 37 []
   (fun AB AL=>∃a':StX A9 I6 l,l.length-a'.1.2<l.length-p.1.2/\Wk 100 (100+2) AB AL (Z4 r l a').1 (Z4 r l a').2/\∀e v o,aM r l e v o->aM r l e v o)
   (fun e AB AL=>∃v o,Wk 100 (100+2) AB AL v o/\aM r l e v o))):=by
 refine⟨?_⟩
 obtain⟨⟨x,i⟩,inv⟩:=p
 have hle:i<=l.length:=inv.le
 show iY (real Tryz.prog) MD MRN (some r) (x.op:Int) x.to (x.ak:Int) (x.an:Int) (x.bk:Int) (x.bn:Int) x.n (CZ l) (l.length:Int) (i:Int) _ _
 rw[mG]
 refine DW (fun hlt=>?_) (fun hge=>?_)
 ·have ha:l[i]?=some l[i]:=List.getElem?_eq_getElem hlt
  generalize l[i]=a at ha
  have hms:l.length-(i+1)<l.length-i:=by omega
  refine EG i rfl (GH ha) rfl (EN (z:=(a.t:Int)) rfl (JM (z:=a.v) rfl ?_))
  refine CG (d:=1) (fun h=>?_) (fun hn1=>?_)
  ·refine⟨255,rfl,fun n hn=>?_,fun hn=>?_⟩
   ·have hs:A9 x a=some {x with op:=n}:=by unfold A9;rw[h];show(DN 255 a.v.data.toList).map _=_;unfold DN;rw[hn];rfl
    exact BI CW uU8 (KU (by have:=(BV hn).2.1;omega)) (BS (by omega) ⟨rfl,⟨({x with op:=n},i+1),inv.next ha hs⟩,hms,EE hr rfl,fun _ _ _ h=>h⟩)
   ·have hs:A9 x a=none:=by unfold A9;rw[h];show(DN 255 a.v.data.toList).map _=_;unfold DN;rw[hn];rfl
    exact BI (m:=0) CW uU8 (KU (by omega)) ⟨rfl,_,_,EE hr rfl,.inr ⟨inv.bad ha hs,rfl,rfl,{x with op:=0},rfl⟩⟩
  refine CG (d:=2) (fun h=>?_) (fun hn2=>?_)
  ·refine⟨2147483647,rfl,fun n hn=>?_,fun hn=>?_⟩
   ·have hs:A9 x a=some {x with to:=(n:Int)}:=by unfold A9;rw[h];show(AV 2147483647 a.v.data.toList).map _=_;unfold AV;rw[hn];rfl
    exact BI CW DU (AX (by have:=(BV hn).2.1;omega)) (BS (by omega) ⟨rfl,⟨({x with to:=(n:Int)},i+1),inv.next ha hs⟩,hms,EE hr rfl,fun _ _ _ h=>h⟩)
   ·have hs:A9 x a=none:=by unfold A9;rw[h];show(AV 2147483647 a.v.data.toList).map _=_;unfold AV;rw[hn];rfl
    exact BI (m:=0) CW DU (AX (by omega)) ⟨rfl,_,_,EE hr rfl,.inr ⟨inv.bad ha hs,rfl,rfl,{x with to:=0},rfl⟩⟩
  refine CG (d:=3) (fun h=>?_) (fun hn3=>?_)
  ·refine⟨255,rfl,fun n hn=>?_,fun hn=>?_⟩
   ·have hs:A9 x a=some {x with ak:=n}:=by unfold A9;rw[h];show(DN 255 a.v.data.toList).map _=_;unfold DN;rw[hn];rfl
    exact BI CW uU8 (KU (by have:=(BV hn).2.1;omega)) (BS (by omega) ⟨rfl,⟨({x with ak:=n},i+1),inv.next ha hs⟩,hms,EE hr rfl,fun _ _ _ h=>h⟩)
   ·have hs:A9 x a=none:=by unfold A9;rw[h];show(DN 255 a.v.data.toList).map _=_;unfold DN;rw[hn];rfl
    exact BI (m:=0) CW uU8 (KU (by omega)) ⟨rfl,_,_,EE hr rfl,.inr ⟨inv.bad ha hs,rfl,rfl,{x with ak:=0},rfl⟩⟩
  refine CG (d:=4) (fun h=>?_) (fun hn4=>?_)
  ·refine⟨18446744073709551615,rfl,fun n hn=>?_,fun hn=>?_⟩
   ·have hs:A9 x a=some {x with an:=n}:=by unfold A9;rw[h];show(DN 18446744073709551615 a.v.data.toList).map _=_;unfold DN;rw[hn];rfl
    exact BS (by omega) ⟨rfl,⟨({x with an:=n},i+1),inv.next ha hs⟩,hms,EE hr rfl,fun _ _ _ h=>h⟩
   ·have hs:A9 x a=none:=by unfold A9;rw[h];show(DN 18446744073709551615 a.v.data.toList).map _=_;unfold DN;rw[hn];rfl
    exact⟨rfl,_,_,EE hr rfl,.inr ⟨inv.bad ha hs,rfl,rfl,{x with an:=0},rfl⟩⟩
  refine CG (d:=5) (fun h=>?_) (fun hn5=>?_)
  ·refine⟨255,rfl,fun n hn=>?_,fun hn=>?_⟩
   ·have hs:A9 x a=some {x with bk:=n}:=by unfold A9;rw[h];show(DN 255 a.v.data.toList).map _=_;unfold DN;rw[hn];rfl
    exact BI CW uU8 (KU (by have:=(BV hn).2.1;omega)) (BS (by omega) ⟨rfl,⟨({x with bk:=n},i+1),inv.next ha hs⟩,hms,EE hr rfl,fun _ _ _ h=>h⟩)
   ·have hs:A9 x a=none:=by unfold A9;rw[h];show(DN 255 a.v.data.toList).map _=_;unfold DN;rw[hn];rfl
    exact BI (m:=0) CW uU8 (KU (by omega)) ⟨rfl,_,_,EE hr rfl,.inr ⟨inv.bad ha hs,rfl,rfl,{x with bk:=0},rfl⟩⟩
  refine CG (d:=6) (fun h=>?_) (fun hn6=>?_)
  ·refine⟨18446744073709551615,rfl,fun n hn=>?_,fun hn=>?_⟩
   ·have hs:A9 x a=some {x with bn:=n}:=by unfold A9;rw[h];show(DN 18446744073709551615 a.v.data.toList).map _=_;unfold DN;rw[hn];rfl
    exact BS (by omega) ⟨rfl,⟨({x with bn:=n},i+1),inv.next ha hs⟩,hms,EE hr rfl,fun _ _ _ h=>h⟩
   ·have hs:A9 x a=none:=by unfold A9;rw[h];show(DN 18446744073709551615 a.v.data.toList).map _=_;unfold DN;rw[hn];rfl
    exact⟨rfl,_,_,EE hr rfl,.inr ⟨inv.bad ha hs,rfl,rfl,{x with bn:=0},rfl⟩⟩
  refine CG (d:=7) (fun h=>?_) (fun hn7=>?_)
  ·refine⟨2147483647,rfl,fun n hn=>?_,fun hn=>?_⟩
   ·have hs:A9 x a=some {x with n:=(n:Int)}:=by unfold A9;rw[h];show(AV 2147483647 a.v.data.toList).map _=_;unfold AV;rw[hn];rfl
    exact BI CW DU (AX (by have:=(BV hn).2.1;omega)) (BS (by omega) ⟨rfl,⟨({x with n:=(n:Int)},i+1),inv.next ha hs⟩,hms,EE hr rfl,fun _ _ _ h=>h⟩)
   ·have hs:A9 x a=none:=by unfold A9;rw[h];show(AV 2147483647 a.v.data.toList).map _=_;unfold AV;rw[hn];rfl
    exact BI (m:=0) CW DU (AX (by omega)) ⟨rfl,_,_,EE hr rfl,.inr ⟨inv.bad ha hs,rfl,rfl,{x with n:=0},rfl⟩⟩
  have hs:A9 x a=none:=by
   unfold A9
   split<;>first|rfl|contradiction
  exact⟨rfl,_,_,EE hr rfl,.inr ⟨inv.bad ha hs,rfl,rfl,x,rfl⟩⟩
 ·exact⟨rfl,_,_,Wk.refl _ _ _ _,.inl ⟨x,inv.last (by omega),rfl,rfl,rfl⟩⟩
def oM(r:AJ):aC:=fun c n AB obs A E=>∃l:List At,l.length<=255/\c=AO Tryz.prog 158 5/\n=37/\AB=[.func (.func 235) ⟨[]⟩ ⟨[pA 101]⟩,dsl (CZ l),.int .i64 (Int.ofNat l.length),.int .i64 (0:Int)]/\obs=[some r,some (.cells [.int .u8 0,.int .i64 0,.int .u8 0,.int .u64 0,.int .u8 0,.int .u64 0,.int .i64 0] 66 7 false true)]/\
 (∀x,run A9 I6 l=some x->A (x.op:Int) x.to (x.ak:Int) (x.an:Int) (x.bk:Int) (x.bn:Int) x.n)/\(run A9 I6 l=none->∀x:Instr,E (x.op:Int) x.to (x.ak:Int) (x.an:Int) (x.bk:Int) (x.bn:Int) x.n)
theorem ACT(r:AJ)(hr:C8 102 (some r)=true):BH Tryz.prog 100 [1,18,19,20] (tH (oM r)):=by
 show BH Tryz.prog 100 [1,18,19,20] (lpS [4] _)
 refine FW okp (W:=(AU Z0 Zp [] [] (ZO MD MRN) [(28,23),(37,16),(20,11)])) (DI (Y0 OE TJ)) BN ?_
 intro c n AB obs K h
 split at h<;>try exact h.elim
 obtain⟨l,hl,hc,hn,hv,ho,hA,hE⟩:=h
 subst hc;subst hn;subst hv
 simp only[List.cons.injEq]at ho
 obtain⟨rfl,rfl⟩:=ho
 refine⟨StX A9 I6 l,2,300,fun p=>l.length-p.1.2,Z4 r l,fun _ e v o=>aM r l e v o,⟨(I6,0),⟨Nat.zero_le _,rfl⟩⟩,rfl,Wk.refl _ _ _ _,?_,ABl r hr l hl⟩
 intro e v o hR
 rcases hR with⟨x,h1,rfl,rfl,rfl⟩ | ⟨h1,rfl,rfl,y,rfl⟩
 ·exact hA x h1
 ·exact hE h1 y
theorem gV{s:List UInt8}{x:Instr}(h0:(CP 0 s).1=0)(h:run A9 I6 (CP 0 s).2=some x):DV s=some x:=by
 unfold DV rdO rdE;rw[if_pos h0,h];rfl
theorem gU{s:List UInt8}(h0:(CP 0 s).1=0)(h:run A9 I6 (CP 0 s).2=none):DV s=none:=by
 unfold DV rdO rdE;rw[if_pos h0,h];rfl
theorem XY{s:List UInt8}(h0:(CP 0 s).1≠0):DV s=none:=by
 unfold DV rdO rdE;rw[if_neg h0,if_neg h0]
theorem ADl(s:ByteArray):Is (qG (real Tryz.prog) MD MRN (oM (rdC s false)) s (AEj s)):=by
 refine⟨?_⟩
 rw[qH]
 exact⟨fun h0=>CL _ (FY _) ⟨_,I7 _,rfl,rfl,rfl,rfl,fun x hx=>⟨x,false,.inl ⟨rfl,gV h0 hx⟩,rfl,U2⟩,fun hx x=>⟨x,true,.inr ⟨rfl,gU h0 hx⟩,rfl,U2⟩⟩,
  fun h3=>⟨I6,true,.inr ⟨rfl,XY (by omega)⟩,rfl,U2⟩,fun h4=>⟨I6,true,.inr ⟨rfl,XY (by omega)⟩,rfl,U2⟩⟩
theorem vX:OV Tryz.prog 100 193 (QK WH):=by
 intro args H K h
 unfold QK at h
 split at h<;>try exact h.elim
 rename_i p
 split at h<;>try exact h.elim
 rename_i s e sz lo ow hg
 split at h<;>try exact h.elim
 rename_i hc
 simp only[Bool.and_eq_true]at hc
 rw[LW hc.1]at hg
 obtain⟨v,AL,⟨x,b,hb,rfl,hw⟩,hC⟩:=JB (DI (Y0 OE TJ)) (E9 (fun x hx=>by simp only[List.mem_singleton]at hx;subst hx;exact ACT (rdC s false) rfl)) (ADl s)
 have hC2:∀B,BP Tryz.prog 100 B 193 [pA 100] (hR s) (.returned (.agg ⟨CO x⟩)) (hOf 100 [] [some (rdC s b)]):=fun B=>GZ (hC B) hw
 rcases hb with⟨rfl,hx⟩ | ⟨rfl,hx⟩
 ·exact⟨_,_,fun B=>IC (rest:=[]) rfl rfl hC2 hg hc.2 B,h.1 x hx⟩
 ·exact⟨_,_,fun B=>IC (rest:=[]) rfl rfl hC2 hg hc.2 B,h.2 hx x⟩
def UF:WG:=fun s A E=>(∀x:EP,CX s.data.toList=some x->A (x.w:Int) x.b)/\(CX s.data.toList=none->∀x:EP,E (x.w:Int) x.b)
def ABM(s:ByteArray):RK:=fun v AL=>∃(x:EP) (b:Bool),((b=false/\CX s.data.toList=some x)∨(b=true/\CX s.data.toList=none))/\v = .agg ⟨CF x⟩/\Wk 100 (100+1) [v] AL [v] [some (rdC s b)]
def fM(x:EP):AJ := .cells [.int .u64 (x.w:Int),.int .i64 x.b] 181 2 false true
def V9(r:AJ)(l:List At)(p:StX CE GN l):Lv×Lo:=([.func (.func 238) ⟨[]⟩ ⟨[pA 101]⟩,dsl (CZ l),.int .i64 (l.length:Int),.int .i64 (p.1.2:Int)],[some r,some (fM p.1.1)])
def WI(r:AJ)(l:List At)(e:Exit)(v:Lv)(o:Lo):Prop:=
 (∃x,run CE GN l=some x/\e = .exit 0/\v=[top]/\o=[some r,some (fM x)])∨(run CE GN l=none/\e = .ret/\v=[.int .i64 3]/\∃y,o=[some r,some (fM y)])
theorem wK(r:AJ)(hr:C8 102 (some r)=true)(l:List At)(hl:l.length<=255)(p:StX CE GN l):
  Is (wpe Tryz.prog (real Tryz.prog) (AU Z0 Zp [] [] (ZO MD MRN) [(28,23),(37,16),(20,11)]) 300 (.code false (AO Tryz.prog 158 5) (C9 100 37 [1,18,19,20] [] (V9 r l p))) (BM 100 [1,18,19,20] [4] 37 []
   (fun AB AL=>∃a':StX CE GN l,l.length-a'.1.2<l.length-p.1.2/\Wk 100 (100+2) AB AL (V9 r l a').1 (V9 r l a').2/\∀e v o,WI r l e v o->WI r l e v o)
   (fun e AB AL=>∃v o,Wk 100 (100+2) AB AL v o/\WI r l e v o))):=by
 refine⟨?_⟩
 obtain⟨⟨x,i⟩,inv⟩:=p
 have hle:i<=l.length:=inv.le
 show dL (real Tryz.prog) MD MRN (some r) (x.w:Int) x.b (CZ l) (l.length:Int) (i:Int) _ _
 rw[gD]
 refine DW (fun hlt=>?_) (fun hge=>?_)
 ·have ha:l[i]?=some l[i]:=List.getElem?_eq_getElem hlt
  generalize l[i]=a at ha
  have hms:l.length-(i+1)<l.length-i:=by omega
  refine EG i rfl (GH ha) rfl (EN (z:=(a.t:Int)) rfl (JM (z:=a.v) rfl ?_))
  refine CG (d:=1) (fun h=>?_) (fun hn1=>?_)
  ·refine⟨18446744073709551615,rfl,fun n hn=>?_,fun hn=>?_⟩
   ·have hs:CE x a=some {x with w:=n}:=by unfold CE;rw[h];show(DN 18446744073709551615 a.v.data.toList).map _=_;unfold DN;rw[hn];rfl
    exact BS (by omega) ⟨rfl,⟨({x with w:=n},i+1),inv.next ha hs⟩,hms,EE hr rfl,fun _ _ _ h=>h⟩
   ·have hs:CE x a=none:=by unfold CE;rw[h];show(DN 18446744073709551615 a.v.data.toList).map _=_;unfold DN;rw[hn];rfl
    exact⟨rfl,_,_,EE hr rfl,.inr ⟨inv.bad ha hs,rfl,rfl,{x with w:=0},rfl⟩⟩
  refine CG (d:=2) (fun h=>?_) (fun hn2=>?_)
  ·refine⟨2147483647,rfl,fun n hn=>?_,fun hn=>?_⟩
   ·have hs:CE x a=some {x with b:=(n:Int)}:=by unfold CE;rw[h];show(AV 2147483647 a.v.data.toList).map _=_;unfold AV;rw[hn];rfl
    exact BI CW DU (AX (by have:=(BV hn).2.1;omega)) (BS (by omega) ⟨rfl,⟨({x with b:=(n:Int)},i+1),inv.next ha hs⟩,hms,EE hr rfl,fun _ _ _ h=>h⟩)
   ·have hs:CE x a=none:=by unfold CE;rw[h];show(AV 2147483647 a.v.data.toList).map _=_;unfold AV;rw[hn];rfl
    exact BI (m:=0) CW DU (AX (by omega)) ⟨rfl,_,_,EE hr rfl,.inr ⟨inv.bad ha hs,rfl,rfl,{x with b:=0},rfl⟩⟩
  have hs:CE x a=none:=by
   unfold CE
   split<;>first|rfl|contradiction
  exact⟨rfl,_,_,EE hr rfl,.inr ⟨inv.bad ha hs,rfl,rfl,x,rfl⟩⟩
 ·exact⟨rfl,_,_,Wk.refl _ _ _ _,.inl ⟨x,inv.last (by omega),rfl,rfl,rfl⟩⟩
def iC(r:AJ):WB:=fun c n AB obs A E=>∃l:List At,l.length<=255/\c=AO Tryz.prog 158 5/\n=37/\AB=[.func (.func 238) ⟨[]⟩ ⟨[pA 101]⟩,dsl (CZ l),.int .i64 (Int.ofNat l.length),.int .i64 (0:Int)]/\obs=[some r,some (.cells [.int .u64 0,.int .i64 0] 181 2 false true)]/\
 (∀x,run CE GN l=some x->A (x.w:Int) x.b)/\(run CE GN l=none->∀x:EP,E (x.w:Int) x.b)
theorem AA1(r:AJ)(hr:C8 102 (some r)=true):BH Tryz.prog 100 [1,18,19,20] (jZ (iC r)):=by
 show BH Tryz.prog 100 [1,18,19,20] (lpS [4] _)
 refine FW okp (W:=(AU Z0 Zp [] [] (ZO MD MRN) [(28,23),(37,16),(20,11)])) (DI (Y0 OE TJ)) BN ?_
 intro c n AB obs K h
 split at h<;>try exact h.elim
 obtain⟨l,hl,hc,hn,hv,ho,hA,hE⟩:=h
 subst hc;subst hn;subst hv
 simp only[List.cons.injEq]at ho
 obtain⟨rfl,rfl⟩:=ho
 refine⟨StX CE GN l,2,300,fun p=>l.length-p.1.2,V9 r l,fun _ e v o=>WI r l e v o,⟨(GN,0),⟨Nat.zero_le _,rfl⟩⟩,rfl,Wk.refl _ _ _ _,?_,wK r hr l hl⟩
 intro e v o hR
 rcases hR with⟨x,h1,rfl,rfl,rfl⟩ | ⟨h1,rfl,rfl,y,rfl⟩
 ·exact hA x h1
 ·exact hE h1 y
theorem eU{s:List UInt8}{x:EP}(h0:(CP 0 s).1=0)(h:run CE GN (CP 0 s).2=some x):CX s=some x:=by
 unfold CX rdO rdE;rw[if_pos h0,h];rfl
theorem eT{s:List UInt8}(h0:(CP 0 s).1=0)(h:run CE GN (CP 0 s).2=none):CX s=none:=by
 unfold CX rdO rdE;rw[if_pos h0,h];rfl
theorem VB{s:List UInt8}(h0:(CP 0 s).1≠0):CX s=none:=by
 unfold CX rdO rdE;rw[if_neg h0,if_neg h0]
theorem AA9(s:ByteArray):Is (iU (real Tryz.prog) MD MRN (iC (rdC s false)) s (ABM s)):=by
 refine⟨?_⟩
 rw[l7]
 exact⟨fun h0=>CL _ (FY _) ⟨_,I7 _,rfl,rfl,rfl,rfl,fun x hx=>⟨x,false,.inl ⟨rfl,eU h0 hx⟩,rfl,U2⟩,fun hx x=>⟨x,true,.inr ⟨rfl,eT h0 hx⟩,rfl,U2⟩⟩,
  fun h3=>⟨GN,true,.inr ⟨rfl,VB (by omega)⟩,rfl,U2⟩,fun h4=>⟨GN,true,.inr ⟨rfl,VB (by omega)⟩,rfl,U2⟩⟩
theorem rV:OV Tryz.prog 100 201 (OM UF):=by
 intro args H K h
 unfold OM at h
 split at h<;>try exact h.elim
 rename_i p
 split at h<;>try exact h.elim
 rename_i s e sz lo ow hg
 split at h<;>try exact h.elim
 rename_i hc
 simp only[Bool.and_eq_true]at hc
 rw[LW hc.1]at hg
 obtain⟨v,AL,⟨x,b,hb,rfl,hw⟩,hC⟩:=JB (DI (Y0 OE TJ)) (E9 (fun x hx=>by simp only[List.mem_singleton]at hx;subst hx;exact AA1 (rdC s false) rfl)) (AA9 s)
 have hC2:∀B,BP Tryz.prog 100 B 201 [pA 100] (hR s) (.returned (.agg ⟨CF x⟩)) (hOf 100 [] [some (rdC s b)]):=fun B=>GZ (hC B) hw
 rcases hb with⟨rfl,hx⟩ | ⟨rfl,hx⟩
 ·exact⟨_,_,fun B=>IC (rest:=[]) rfl rfl hC2 hg hc.2 B,h.1 x hx⟩
 ·exact⟨_,_,fun B=>IC (rest:=[]) rfl rfl hC2 hg hc.2 B,h.2 hx x⟩
end
end Go.Proofs.Ob
