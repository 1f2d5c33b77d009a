/- . -/
import Derived.Test.YtblbaohcelldpaaGreatDoorWA
set_option linter.all false
namespace Go.Abs
open Go
noncomputable section
section
variable {P:Program} {k:IntKind} {a b:Int} {X Y:Prop}
theorem ALF(h1:a<b->X)(h2:¬a<b->Y):(real P).cmp .lss k a k b X Y:=⟨decide (a<b),by simp[H8],fun h=>h1 (by simpa using h),fun h=>h2 (by simpa using h)⟩
theorem bG(h1:a<=b->X)(h2:¬a<=b->Y):(real P).cmp .leq k a k b X Y:=⟨decide (a<=b),by simp[H8],fun h=>h1 (by simpa using h),fun h=>h2 (by simpa using h)⟩
theorem dB(h1:b<a->X)(h2:¬b<a->Y):(real P).cmp .gtr k a k b X Y:=⟨decide (a > b),by simp[H8],fun h=>h1 (by simpa using h),fun h=>h2 (by simpa using h)⟩
theorem N7(h1:b<=a->X)(h2:¬b<=a->Y):(real P).cmp .geq k a k b X Y:=⟨decide (a≥b),by simp[H8],fun h=>h1 (by simpa using h),fun h=>h2 (by simpa using h)⟩
theorem H5(h1:a=b->X)(h2:¬a=b->Y):(real P).cmp .eql k a k b X Y:=⟨decide (a=b),by simp[H8],fun h=>h1 (by simpa using h),fun h=>h2 (by simpa using h)⟩
theorem YO(h1:¬a=b->X)(h2:a=b->Y):(real P).cmp .neq k a k b X Y:=⟨!decide (a=b),by simp[H8],fun h=>h1 (by simpa using h),fun h=>h2 (by simpa using h)⟩
theorem wrap64{n:Int}(h1 : -9223372036854775808<=n)(h2:n<=9223372036854775807):fP .i64 n=n:=by
 unfold fP;simp[h1,h2]
theorem YN{K:Int->Prop}(h1 : -9223372036854775808<=a+b)(h2:a+b<=9223372036854775807)(hk:K (a+b)):(real P).ari .add .i64 a .i64 b K:=⟨_,by simp[H8,wrap64 h1 h2],hk⟩
theorem ASW{K:Int->Prop}(h1 : -9223372036854775808<=a-b)(h2:a-b<=9223372036854775807)(hk:K (a-b)):(real P).ari .sub .i64 a .i64 b K:=⟨_,by simp[H8,wrap64 h1 h2],hk⟩
theorem ASV{K:Int->Prop}(ha:0<=a)(hb:0<b)(hk:K (a % b)):(real P).ari .rem k a k b K:=by
 refine⟨a % b,?_,hk⟩
 have:¬b=0:=by omega
 simp[H8,this,Int.tmod_eq_emod_of_nonneg ha]
theorem FC{s:ByteArray}{K:Int->Prop}(hk:K s.data.toList.length):(real P).slen s K:=hk
theorem APr{len off n:Nat}{i:Int}{K:Nat->Prop}(j:Nat)(h:i=j)(hl:j<len)(hk:K (off+j*n)):(real P).idx len off n i K:=⟨j,h,hl,hk⟩
theorem CG{vs:List Value}{off:Nat}{z:Int}{K:Int->Prop}(h:vs[off]?=some (.int k z))(hk:K z):(real P).rdI k vs off K:=⟨z,h,hk⟩
theorem KL{vs:List Value}{off:Nat}{z:ByteArray}{K:ByteArray->Prop}(h:vs[off]?=some (.string z))(hk:K z):(real P).rdS vs off K:=⟨z,h,hk⟩
theorem OE{x y:ByteArray}(h1:x.data.toList=y.data.toList->X)(h2:¬x.data.toList=y.data.toList->Y):(real P).scmp .eql x y X Y:=
 ⟨x.data.toList==y.data.toList,by simp[U1],fun h=>h1 (by simpa using h),fun h=>h2 (by simpa using h)⟩
theorem FM{x y:ByteArray}(h1:¬x.data.toList=y.data.toList->X)(h2:x.data.toList=y.data.toList->Y):(real P).scmp .neq x y X Y:=
 ⟨!(x.data.toList==y.data.toList),by simp[U1],fun h=>h1 (by simpa using h),fun h=>h2 (by simpa using h)⟩
theorem AMI{ats:Array TypeId}{T:TypeId}{K:Int->Prop}(hk:K (if b<a then b else a)):(real P).minI .min ats T .i64 a b K:=by
 refine⟨_,fun H=>?_,hk⟩
 have h:FW P (Builtin.min_ ats T #[.int .i64 a,.int .i64 b])=some (.int .i64 (if b<a then b else a)):=by
  simp[FW,Builtin.min_,Builtin.min2]
  rfl
 simp only[MQ,DV,plain,Bool.and_self]
 simp[h]
theorem OC{x y:ByteArray}(h:x.data.toList=y.data.toList):x=y:=by
 apply ByteArray.ext;exact Array.ext' h
theorem UU{m:Nat}(h1:0<m->X)(h2:m=0->Y):(real P).cmp .gtr k (m:Int) k (0:Int) X Y:=dB (fun h=>h1 (by omega)) (fun h=>h2 (by omega))
theorem wrap_u8(m:Nat):IntKind.u8.wrap (m:Int)=((m % 256:Nat):Int):=by
 simp[IntKind.wrap,IntKind.signed,IntKind.bits]
theorem VI{src dst:TypeId}{ks kd:IntKind}{K:Int->Prop}(hs:P.underlying src=some (.int ks))(hd:P.underlying dst=some (.int kd))(hk:K (kd.wrap a)):(real P).conv src dst k a kd K:=by
 refine⟨kd.wrap a,fun H=>?_,hk⟩
 have h1:BR P (convert src dst (.int k a))=some (.int kd (kd.wrap a)):=by
  simp only[convert,CJ,KS hs,KS hd,Option.bind_some]
  rfl
 unfold G7
 rw[hs,hd]
 simp only[plain,FW,h1]
theorem LB{G:Nat}{AB:List Value}{AC:List (Option AA)}(h:BL G AB=true):Wk G G AB AC AB []:=by
 have hn:Names G 0 [] (G+AC.length) AB AC AB []:=by
  refine⟨?_,rfl,List.nodup_nil,fun x hx=>(by cases hx),by omega,fun i o hi=>by simp at hi⟩
  have:=EA (n0:=G) (τ:=tau (G+0) [] (G+AC.length)) (fun n hn=>Q6 (by omega)) AB h
  have e:∀(τ:Nat->Nat) (l:List Value),FE τ l=l.map (F7 τ):=by
   intro τ l
   induction l with
   |nil=>rfl
   |cons v l ih=>simp only[FE,List.map_cons,ih]
  rw[e]at this;exact this.symm
 exact XN hn
def PQ(v:Value):Value->List (Option AA)->Prop:=fun v' AC=>Wk 100 100 [v'] AC [v] []
theorem PQ.pure{v:Value}{AC:List (Option AA)}(h:below 100 v=true):PQ v v AC:=LB (by simp only[BL,h];rfl)
theorem GL(hP:D8 P 100=true){W:How}(hkn:OM P 100 W)(hlp:SN P 100 W){f:FuncId}{args:List Value}{v:Value}{n:Nat}(ha:BL 100 args=true)(hv:below 100 v=true)
  (h:Is (wpe P (real P) W n (.call f args (hOf 100 [] [])) (FD 100 (PQ v)))) (B:Base) (H:Heap):BM P 100 B f args H (.returned v) H:=by
 obtain⟨v',AC,h1,h2⟩:=XU hP hkn hlp h.out
 exact QG (fun B=>IM (ins:=[]) (h2 B) h1) ha hv B H
theorem PQ.of{v v':Value}{AC:List (Option AA)}(e:v'=v)(h:below 100 v=true):PQ v v' AC:=by subst e;exact PQ.pure h
def ATY(P:Program)(N:Nd)(W:How)(n:Nat)(f:FuncId)(args:List Value)(h:Heap)(Q:Res->Prop):Prop:=
 opt (P.funcs[f]?) fun fn=>opt fn.body fun c=>wpe P N W n (.code false c ⟨Tm.of args fn.ntmps,[],h,.run⟩) (AQk fn (wpe P N W n) Q)
theorem AWJ(hP:D8 P 100=true){W:How}(hkn:OM P 100 W)(hlp:SN P 100 W){f:FuncId}{args:List Value}{hh:Heap}{n:Nat}{Q:Res->Prop}(h:ATY P (real P) W n f args hh Q):∃r,(∀B,Holds P 100 B (.call f args hh) r)/\Q r:=by
 obtain⟨fn,hf,h⟩:=FL h
 obtain⟨c,hc,h⟩:=FL h
 obtain⟨r,h1,h2⟩:=ZN hP hkn hlp _ _ _ h
 cases r with
 |en _ _ _=>exact(h1 ZB).elim
 |ex e s1=>
  cases e<;>(try(exact h2.elim))
  ·obtain⟨r2,h3,h4⟩:=ZN hP hkn hlp _ _ _ h2
   exact⟨r2,fun B=>vE hP hf hc (.inl ⟨rfl,rfl⟩) (h1 B) (h3 B),h4⟩
  ·obtain⟨r2,h3,h4⟩:=ZN hP hkn hlp _ _ _ h2
   exact⟨r2,fun B=>vE hP hf hc (.inr (.inl ⟨rfl,rfl⟩)) (h1 B) (h3 B),h4⟩
  ·obtain⟨r2,h3,h4⟩:=ZN hP hkn hlp _ _ _ h2
   exact⟨r2,fun B=>vE hP hf hc (.inr (.inr ⟨_,rfl,rfl⟩)) (h1 B) (h3 B),h4⟩
theorem AXy(hP:D8 P 100=true){W:How}(hkn:OM P 100 W)(hlp:SN P 100 W){f:FuncId}{args:List Value}{v:Value}{n:Nat}(ha:BL 100 args=true)(hv:below 100 v=true)
  (h:Is (ATY P (real P) W n f args (hOf 100 [] []) (FD 100 (PQ v)))) (B:Base) (H:Heap):BM P 100 B f args H (.returned v) H:=by
 obtain⟨r,h1,h2⟩:=AWJ hP hkn hlp h.out
 unfold FD at h2
 split at h2
 ·rename_i v' u h'
  split at h2
  ·rename_i hle
   exact QG (fun B=>IM (ins:=[]) (TB (Nat.le_of_ble_eq_true hle) (h1 B)) h2) ha hv B H
  ·exact h2.elim
 ·exact h2.elim
theorem DC{sy:Sy}{sp:Nat->Bool}{lp:LpL}{cf:List (Nat×Nat)}:OM P 100 (AP sy sp [] lp [] cf):=M3 (fun x hx=>by cases hx) (fun x hx=>by cases hx)
theorem EY{sy:Sy}{sp:Nat->Bool}{lp:LpL}{pu:PuL}{cf:List (Nat×Nat)}(h':∀x∈pu,FY P 100 x.1 x.2):OM P 100 (AP sy sp [] lp pu cf):=M3 (fun x hx=>by cases hx) h'
theorem AZ{sy:Sy}{sp:Nat->Bool}{kn:KnL}{pu:PuL}{cf:List (Nat×Nat)}:SN P 100 (AP sy sp kn [] pu cf):=GH fun x hx=>by cases hx
theorem WK{m:Nat}{K:Int->Prop}(hm:m<18446744073709551616)(hk:K ((m / 256:Nat):Int)):(real P).ari .shr .u64 (m:Int) .u64 (8:Int) K:=by
 refine⟨((m / 256:Nat):Int),?_,hk⟩
 have e:((m:Int)).fdiv (2 ^ (min (8:Int).toNat (IntKind.u64).bits))=((m / 256:Nat):Int):=by
  have:(2:Int) ^ (min (8:Int).toNat (IntKind.u64).bits)=256:=by decide
  rw[this,Int.fdiv_eq_ediv_of_nonneg _ (by omega)];omega
 simp only[H8,e];rfl
theorem R4{src dst:TypeId}{m:Nat}{K:Int->Prop}(hs:P.underlying src=some (.int .u64))(hd:P.underlying dst=some (.int .u8))(hk:K ((m % 256:Nat):Int)):(real P).conv src dst .u64 (m:Int) .u8 K:=
 VI hs hd (by rw[wrap_u8];exact hk)
theorem VP{zs:List Int}{K:ByteArray->Prop}(hk:K (bytesOf (zs.map fun n=>UInt8.ofNat n.toNat))):(real P).str zs K:=hk
theorem AV(l:List UInt8):(bytesOf l).data.toList=l:=rfl
theorem bytes_eta(s:ByteArray):bytesOf s.data.toList=s:=by apply OC;rfl
theorem AAS{s t:ByteArray}{K:ByteArray->Prop}(h:s.data.toList.length+t.data.toList.length<=1099511627776)(hk:K (bytesOf (s.data.toList++t.data.toList))):(real P).cat s t K:=by
 refine⟨_,?_,hk⟩
 simp only[U1,Nat.ble_eq_true_of_le h]
theorem AXT{m d:Nat}{K:Int->Prop}(hd:0<d)(hm:m<18446744073709551616)(hk:K ((m / d:Nat):Int)):(real P).ari .quo .u64 (m:Int) .u64 (d:Int) K:=by
 refine⟨((m / d:Nat):Int),?_,hk⟩
 have hlt:m / d<18446744073709551616:=Nat.lt_of_le_of_lt (Nat.div_le_self _ _) hm
 have e:IntKind.u64.wrap ((m:Int).tdiv (d:Int))=((m / d:Nat):Int):=by
  rw[show((m:Int).tdiv (d:Int))=((m / d:Nat):Int)by simp]
  generalize m / d=q at hlt
  simp[IntKind.wrap,IntKind.signed,IntKind.bits];omega
 have hd0:¬(d:Int)=0:=by omega
 simp only[H8,e]
 rw[show decide ((d:Int)=0)=false by simpa using hd0];rfl
theorem APs{m d:Nat}{K:Int->Prop}(hd:0<d)(hk:K ((m % d:Nat):Int)):(real P).ari .rem k (m:Int) k (d:Int) K:=ASV (by omega) (by omega) (by rw[show((m:Int) % (d:Int))=((m % d:Nat):Int)by simp];exact hk)
theorem DZ{m d:Nat}(h1:m=d->X)(h2:m≠d->Y):(real P).cmp .eql k (m:Int) k (d:Int) X Y:=H5 (fun h=>h1 (by omega)) (fun h=>h2 (by omega))
theorem MP{m d:Nat}(h1:m≠d->X)(h2:m=d->Y):(real P).cmp .neq k (m:Int) k (d:Int) X Y:=YO (fun h=>h1 (by omega)) (fun h=>h2 (by omega))
theorem EL{m d:Nat}(h1:m<d->X)(h2:d<=m->Y):(real P).cmp .lss k (m:Int) k (d:Int) X Y:=ALF (fun h=>h1 (by omega)) (fun h=>h2 (by omega))
theorem SL{m d:Nat}(h1:m<=d->X)(h2:d<m->Y):(real P).cmp .leq k (m:Int) k (d:Int) X Y:=bG (fun h=>h1 (by omega)) (fun h=>h2 (by omega))
theorem YD{m d:Nat}(h1:d<m->X)(h2:m<=d->Y):(real P).cmp .gtr k (m:Int) k (d:Int) X Y:=dB (fun h=>h1 (by omega)) (fun h=>h2 (by omega))
def dsl(rs:List Value):Value := .iface mkD (.agg ⟨rs⟩)
theorem BI{rs:List Value}{K:Nat->Prop}(n:Nat)(h:rs.length=n)(hk:K n):(real P).dlen rs K:=by subst h;exact hk
theorem DK{rs cs:List Value}{i:Int}{n:Nat}{K:List Value->Prop}(j:Nat)(hi:i=j)(h:rs[j]?=some (.agg ⟨cs⟩))(hn:cs.length=n)(hk:K cs):(real P).dget rs i n K:=⟨j,cs,hi,h,hn,hk⟩
def mkS(b k:Nat):Value := .iface mkM (.slice (some ⟨b,0,none⟩) k k)
def mo(vs:List Value)(e sz:Nat):Option AA:=match vs with
 | []=>none
 |v::l=>some (.cells (v::l) e sz true true)
theorem J4{vs:List Value}{e sz:Nat}(h:vs≠[]):mo vs e sz=some (.cells vs e sz true true):=by
 cases vs with
 |nil=>exact absurd rfl h
 |cons v l=>rfl
theorem D6{vs:List Value}{n size:Nat}{elem:TypeId}{K:List Value->Prop}(h:vs.length=n*size)(hs:size≠0)(hk:K vs):(real P).base true n n (mo vs elem size) elem size K:=by
 refine⟨vs,?_,hk⟩
 by_cases hv:vs=[]
 ·subst hv
  refine .inl ⟨rfl,?_,rfl⟩
  simp only[List.length_nil]at h
  rcases Nat.mul_eq_zero.1 h.symm with h|h
  ·exact h
  ·exact absurd h hs
 ·refine .inr ⟨fun e=>hv (List.eq_nil_of_length_eq_zero (by rw[h,e,Nat.zero_mul])),J4 hv,rfl,hs,h⟩
theorem WJ{b:Bool}{vs:List Value}{n size:Nat}{elem:TypeId}{K:List Value->Prop}(h:vs.length=n*size)(hn:n≠0)(hs:size≠0)(hk:K vs):(real P).base b n n (some (.cells vs elem size true true)) elem size K:=
 ⟨vs,.inr ⟨hn,rfl,rfl,hs,h⟩,hk⟩
theorem FV{len n size bytes:Nat}{vs xs:List Value}{K:List Value->Nat->Prop}(hn:n≠0)(hl:xs.length=n*size)(hc:xs.all isCell=true)(hb:(2*(len+n)+192)*bytes<=J3)(hb2:len+n<=1099511627776)(hk:K (vs++xs) (len+n)):
 (real P).appX len vs n xs size bytes K:=⟨_,_,hn,hl,hc,hb,hb2,rfl,rfl,hk⟩
theorem AHO{len bytes:Nat}{vs:List Value}{s:ByteArray}{K0:Prop}{K:List Value->Nat->Prop}(h0:s.data.toList=[]->K0)(h1:s.data.toList≠[]->(2*(len+s.data.toList.length)+192)*bytes<=J3/\len+s.data.toList.length<=1099511627776/\K (vs++QM s) (len+s.data.toList.length)):
 (real P).appS len vs s bytes K0 K:=⟨h0,h1⟩
theorem AHQ{m:Nat}{K:Int->Prop}(hb:8<=k.bits)(hk:K ((m / 256:Nat):Int)):(real P).ari .shr k (m:Int) .u64 (8:Int) K:=by
 refine⟨((m / 256:Nat):Int),?_,hk⟩
 have e:((m:Int)).fdiv (2 ^ (min (8:Int).toNat k.bits))=((m / 256:Nat):Int):=by
  have h8:min (8:Int).toNat k.bits=8:=by show min 8 k.bits=8;omega
  rw[h8,Int.fdiv_eq_ediv_of_nonneg _ (by omega)];omega
 simp only[H8,e];rfl
theorem UV{src dst:TypeId}{ks:IntKind}{m:Nat}{K:Int->Prop}(hs:P.underlying src=some (.int ks))(hd:P.underlying dst=some (.int .u8))(hk:K ((m % 256:Nat):Int)):(real P).conv src dst k (m:Int) .u8 K:=
 VI hs hd (by rw[wrap_u8];exact hk)
theorem BZ{m:Nat}{K:Int->Prop}(h:m+1<=9223372036854775807)(hk:K ((m+1:Nat):Int)):(real P).ari .add .i64 (m:Int) .i64 (1:Int) K:=YN (by omega) (by omega) hk
theorem AHR{vs:List Value}{n:Nat}{e:TypeId}{bs:List UInt8}{K:ByteArray->Prop}(h:vs.length=n)(hb:LA vs=some bs)(hk:K (bytesOf bs)):(real P).strM n (mo vs e 1) K:=by
 by_cases hv:vs=[]
 ·subst hv
  refine⟨[],.inl ⟨h.symm,rfl⟩,?_⟩
  have:bs=[]:=by simpa [LA,jE]using hb.symm
  rw[this]at hk;exact hk
 ·refine⟨bs,.inr ⟨fun e=>hv (List.eq_nil_of_length_eq_zero (by rw[h,e])),vs,e,1,true,true,J4 hv,by omega,?_⟩,hk⟩
  rw[←h,List.take_length];exact hb
def EC(n0:Nat):Option AA->Bool
 |none=>true
 |some (.cells vs _ _ _ _)=>BL n0 vs
 |some (.map ks vs _ _)=>BL n0 ks&&BL n0 vs
theorem ZE{n0:Nat}{τ:Nat->Nat}(hτ:∀n,n<n0->τ n=n){o:AA}(h:EC n0 (some o)=true):G8 τ o=o:=by
 cases o with
 |cells vs e sz lo ow=>simp only[EC]at h;simp only[G8,EA hτ vs h]
 |map ks vs bs cl=>simp only[EC,Bool.and_eq_true]at h;simp only[G8,EA hτ ks h.1,EA hτ vs h.2]
theorem MK(τ:Nat->Nat):∀l:List Value,FE τ l=l.map (F7 τ)
 | []=>rfl
 |v::l=>by simp only[FE,List.map_cons,MK τ l]
theorem ACr{k0 j k:Nat}{rest:List Value}{AC pre:List (Option AA)}{vs:List Value}{e sz:Nat}(hj:k0<=j)(ho:AC[j]?=some (some (.cells vs e sz true true)))(hv:BL 0 vs=true)(hr:BL (100+k0) rest=true)(hk:k≠0)
  (hp:pre.length=k0) (hpre:∀(i:Nat) o,pre[i]?=some (some o)->AC[i]?=some (some o)/\EC (100+k0) (some o)=true):
  Wk 100 (100+k0) (.slice (some ⟨100+j,0,none⟩) k k::rest) AC (mkS (100+k0) k::rest) (pre++[some (.cells vs e sz true true)]):=by
 have hlt:j<AC.length:=(List.getElem?_eq_some_iff.1 ho).1
 have hτ:∀n,n<100+k0->tau (100+k0) [100+j] (100+AC.length) n=n:=fun n h=>Q6 h
 have hτ0:tau (100+k0) [100+j] (100+AC.length) (100+k0)=100+j:=MZ (Nat.le_refl _) (by simp)
 have hn:Names 100 k0 [100+j] (100+AC.length) (.slice (some ⟨100+j,0,none⟩) k k::rest) AC (.slice (some ⟨100+k0,0,none⟩) k k::rest) (pre++[some (.cells vs e sz true true)]):=by
  refine⟨?_,by rw[List.length_append,hp];rfl,by simp,fun x hx=>?_,by omega,fun i o hi=>?_⟩
  ·rw[List.map_cons,←MK,EA hτ rest hr]
   simp only[F7,hτ0]
  ·simp only[List.mem_singleton]at hx;omega
  ·rw[List.getElem?_append]at hi
   split at hi
   ·rename_i hlt2
    obtain⟨h1,h2⟩:=hpre i o hi
    rw[hτ _ (by omega),show 100+i-100=i by omega,ZE hτ h2];exact h1
   ·rename_i hge
    have hi0:i=k0:=by
     have:=(List.getElem?_eq_some_iff.1 hi).1
     simp only[List.length_singleton]at this;omega
    subst hi0
    rw[hp,Nat.sub_self]at hi
    simp only[List.getElem?_cons_zero,Option.some.injEq]at hi;subst hi
    rw[hτ0,show 100+j-100=j by omega,ho]
    have:FE (tau (100+i) [100+j] (100+AC.length)) vs=vs:=EA (n0:=0) (fun n h=>by omega) vs hv
    simp only[G8,this]
 exact(XN hn).trans (EX (.cons (.mark hk) (DT.refl _)) (F5.refl _))
end
end
end Go.Abs
