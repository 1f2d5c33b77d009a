/- The nodes, one law each. -/
import Derived.Test.YtblbaohcelldpaaGreatW9
set_option linter.all false
namespace Go.Abs
open Go
noncomputable section
section
variable {P:Program} {k:IntKind} {a b:Int} {X Y:Prop}
theorem n_lss(h1:a<b->X)(h2:¬a<b->Y):(real P).cmp .lss k a k b X Y:=⟨decide (a<b),by simp[intBin],fun h=>h1 (by simpa using h),fun h=>h2 (by simpa using h)⟩
theorem n_leq(h1:a<=b->X)(h2:¬a<=b->Y):(real P).cmp .leq k a k b X Y:=⟨decide (a<=b),by simp[intBin],fun h=>h1 (by simpa using h),fun h=>h2 (by simpa using h)⟩
theorem n_gtr(h1:b<a->X)(h2:¬b<a->Y):(real P).cmp .gtr k a k b X Y:=⟨decide (a > b),by simp[intBin],fun h=>h1 (by simpa using h),fun h=>h2 (by simpa using h)⟩
theorem n_geq(h1:b<=a->X)(h2:¬b<=a->Y):(real P).cmp .geq k a k b X Y:=⟨decide (a≥b),by simp[intBin],fun h=>h1 (by simpa using h),fun h=>h2 (by simpa using h)⟩
theorem n_eql(h1:a=b->X)(h2:¬a=b->Y):(real P).cmp .eql k a k b X Y:=⟨decide (a=b),by simp[intBin],fun h=>h1 (by simpa using h),fun h=>h2 (by simpa using h)⟩
theorem n_neq(h1:¬a=b->X)(h2:a=b->Y):(real P).cmp .neq k a k b X Y:=⟨!decide (a=b),by simp[intBin],fun h=>h1 (by simpa using h),fun h=>h2 (by simpa using h)⟩
theorem wrap64{n:Int}(h1 : -9223372036854775808<=n)(h2:n<=9223372036854775807):wrapA .i64 n=n:=by
 unfold wrapA;simp[h1,h2]
theorem n_add{K:Int->Prop}(h1 : -9223372036854775808<=a+b)(h2:a+b<=9223372036854775807)(hk:K (a+b)):(real P).ari .add .i64 a .i64 b K:=⟨_,by simp[intBin,wrap64 h1 h2],hk⟩
theorem n_rem{K:Int->Prop}(ha:0<=a)(hb:0<b)(hk:K (a % b)):(real P).ari .rem k a k b K:=by
 refine⟨a % b,?_,hk⟩
 have:¬b=0:=by omega
 simp[intBin,this,Int.tmod_eq_emod_of_nonneg ha]
theorem n_slen{s:ByteArray}{K:Int->Prop}(hk:K s.data.toList.length):(real P).slen s K:=hk
theorem n_rdI{vs:List Value}{off:Nat}{z:Int}{K:Int->Prop}(h:vs[off]?=some (.int k z))(hk:K z):(real P).rdI k vs off K:=⟨z,h,hk⟩
theorem n_rdS{vs:List Value}{off:Nat}{z:ByteArray}{K:ByteArray->Prop}(h:vs[off]?=some (.string z))(hk:K z):(real P).rdS vs off K:=⟨z,h,hk⟩
theorem n_rdB{vs:List Value}{off:Nat}{t:Bool}(h:vs[off]?=some (.bool t))(h1:t=true->X)(h2:t=false->Y):(real P).rdB vs off X Y:=⟨t,h,h1,h2⟩
theorem n_scmp_eq{x y:ByteArray}(h1:x.data.toList=y.data.toList->X)(h2:¬x.data.toList=y.data.toList->Y):(real P).scmp .eql x y X Y:=
 ⟨x.data.toList==y.data.toList,by simp[strBin],fun h=>h1 (by simpa using h),fun h=>h2 (by simpa using h)⟩
theorem n_scmp_ne{x y:ByteArray}(h1:¬x.data.toList=y.data.toList->X)(h2:x.data.toList=y.data.toList->Y):(real P).scmp .neq x y X Y:=
 ⟨!(x.data.toList==y.data.toList),by simp[strBin],fun h=>h1 (by simpa using h),fun h=>h2 (by simpa using h)⟩
theorem bytes_ext{x y:ByteArray}(h:x.data.toList=y.data.toList):x=y:=by
 apply ByteArray.ext;exact Array.ext' h
theorem n_gtr0{m:Nat}(h1:0<m->X)(h2:m=0->Y):(real P).cmp .gtr k (m:Int) k (0:Int) X Y:=n_gtr (fun h=>h1 (by omega)) (fun h=>h2 (by omega))
theorem wrap_u8(m:Nat):IntKind.u8.wrap (m:Int)=((m % 256:Nat):Int):=by
 simp[IntKind.wrap,IntKind.signed,IntKind.bits]
theorem real_conv{src dst:TypeId}{ks kd:IntKind}{K:Int->Prop}(hs:P.underlying src=some (.int ks))(hd:P.underlying dst=some (.int kd))(hk:K (kd.wrap a)):(real P).conv src dst k a kd K:=by
 refine⟨kd.wrap a,fun H=>?_,hk⟩
 have h1:pureSem P (convert src dst (.int k a))=some (.int kd (kd.wrap a)):=by
  simp only[convert,pureSem_bind,pureSem_underlying hs,pureSem_underlying hd,Option.bind_some]
  rfl
 unfold aConvert
 rw[hs,hd]
 simp only[plain,pureVal,h1]
theorem wk_pure{G:Nat}{vals:List Value}{objs:List (Option AObj)}(h:belowL G vals=true):Wk G G vals objs vals []:=by
 have hn:Names G 0 [] (G+objs.length) vals objs vals []:=by
  refine⟨?_,rfl,List.nodup_nil,fun x hx=>(by cases hx),by omega,fun i o hi=>by simp at hi⟩
  have:=vrenL_below (n0:=G) (τ:=tau (G+0) [] (G+objs.length)) (fun n hn=>tau_lt (by omega)) vals h
  have e:∀(τ:Nat->Nat) (l:List Value),vrenL τ l=l.map (vren τ):=by
   intro τ l
   induction l with
   |nil=>rfl
   |cons v l ih=>simp only[vrenL,List.map_cons,ih]
  rw[e]at this;exact this.symm
 exact wk_names hn
def PQ(v:Value):Value->List (Option AObj)->Prop:=fun v' objs=>Wk 100 100 [v'] objs [v] []
theorem PQ.pure{v:Value}{objs:List (Option AObj)}(h:below 100 v=true):PQ v v objs:=wk_pure (by simp only[belowL,h];rfl)
theorem pu_mk(hP:okProg P 100=true){W:How}(hkn:KnOk P 100 W)(hlp:LpOk P 100 W){f:FuncId}{args:List Value}{v:Value}{n:Nat}(ha:belowL 100 args=true)(hv:below 100 v=true)
  (h:Is (wpe P (real P) W n (.call f args (hOf 100 [] [])) (retQ 100 (PQ v)))) (B:Base) (H:Heap):CallH P 100 B f args H (.returned v) H:=by
 obtain⟨v',objs,h1,h2⟩:=call_ok hP hkn hlp h.out
 exact pure_lift (fun B=>call_wk (ins:=[]) (h2 B) h1) ha hv B H
theorem PQ.of{v v':Value}{objs:List (Option AObj)}(e:v'=v)(h:below 100 v=true):PQ v v' objs:=by subst e;exact PQ.pure h
def callBody(P:Program)(N:Nd)(W:How)(n:Nat)(f:FuncId)(args:List Value)(h:Heap)(Q:Res->Prop):Prop:=
 opt (P.funcs[f]?) fun fn=>opt fn.body fun c=>wpe P N W n (.code false c ⟨Tm.of args fn.ntmps,[],h,.run⟩) (wBody fn (wpe P N W n) Q)
theorem body_ok(hP:okProg P 100=true){W:How}(hkn:KnOk P 100 W)(hlp:LpOk P 100 W){f:FuncId}{args:List Value}{hh:Heap}{n:Nat}{Q:Res->Prop}(h:callBody P (real P) W n f args hh Q):∃r,(∀B,Holds P 100 B (.call f args hh) r)/\Q r:=by
 obtain⟨fn,hf,h⟩:=opt_elim h
 obtain⟨c,hc,h⟩:=opt_elim h
 obtain⟨r,h1,h2⟩:=wpe_ok hP hkn hlp _ _ _ h
 cases r with
 |en _ _ _=>exact(h1 noBase).elim
 |ex e s1=>
  cases e<;>(try(exact h2.elim))
  ·obtain⟨r2,h3,h4⟩:=wpe_ok hP hkn hlp _ _ _ h2
   exact⟨r2,fun B=>h_callE hP hf hc (.inl ⟨rfl,rfl⟩) (h1 B) (h3 B),h4⟩
  ·obtain⟨r2,h3,h4⟩:=wpe_ok hP hkn hlp _ _ _ h2
   exact⟨r2,fun B=>h_callE hP hf hc (.inr (.inl ⟨rfl,rfl⟩)) (h1 B) (h3 B),h4⟩
  ·obtain⟨r2,h3,h4⟩:=wpe_ok hP hkn hlp _ _ _ h2
   exact⟨r2,fun B=>h_callE hP hf hc (.inr (.inr ⟨_,rfl,rfl⟩)) (h1 B) (h3 B),h4⟩
theorem kn_none{sy:Sy}{sp:Nat->Bool}{lp:LpL}{cf:List (Nat×Nat)}:KnOk P 100 (howOf sy sp [] lp [] cf):=kn_ok (fun x hx=>by cases hx) (fun x hx=>by cases hx)
theorem kn_pu{sy:Sy}{sp:Nat->Bool}{lp:LpL}{pu:PuL}{cf:List (Nat×Nat)}(h':∀x∈pu,PuOk P 100 x.1 x.2):KnOk P 100 (howOf sy sp [] lp pu cf):=kn_ok (fun x hx=>by cases hx) h'
theorem lp_none{sy:Sy}{sp:Nat->Bool}{kn:KnL}{pu:PuL}{cf:List (Nat×Nat)}:LpOk P 100 (howOf sy sp kn [] pu cf):=lp_ok fun x hx=>by cases hx
theorem n_shr8{m:Nat}{K:Int->Prop}(hm:m<18446744073709551616)(hk:K ((m / 256:Nat):Int)):(real P).ari .shr .u64 (m:Int) .u64 (8:Int) K:=by
 refine⟨((m / 256:Nat):Int),?_,hk⟩
 have e:((m:Int)).fdiv (2 ^ (min (8:Int).toNat (IntKind.u64).bits))=((m / 256:Nat):Int):=by
  have:(2:Int) ^ (min (8:Int).toNat (IntKind.u64).bits)=256:=by decide
  rw[this,Int.fdiv_eq_ediv_of_nonneg _ (by omega)];omega
 simp only[intBin,e];rfl
theorem n_conv8{src dst:TypeId}{m:Nat}{K:Int->Prop}(hs:P.underlying src=some (.int .u64))(hd:P.underlying dst=some (.int .u8))(hk:K ((m % 256:Nat):Int)):(real P).conv src dst .u64 (m:Int) .u8 K:=
 real_conv hs hd (by rw[wrap_u8];exact hk)
theorem n_str{zs:List Int}{K:ByteArray->Prop}(hk:K (bytesOf (zs.map fun n=>UInt8.ofNat n.toNat))):(real P).str zs K:=hk
theorem bytes_toList(l:List UInt8):(bytesOf l).data.toList=l:=rfl
theorem bytes_eta(s:ByteArray):bytesOf s.data.toList=s:=by apply bytes_ext;rfl
theorem n_cat{s t:ByteArray}{K:ByteArray->Prop}(h:s.data.toList.length+t.data.toList.length<=1099511627776)(hk:K (bytesOf (s.data.toList++t.data.toList))):(real P).cat s t K:=by
 refine⟨_,?_,hk⟩
 simp only[strBin,Nat.ble_eq_true_of_le h]
theorem n_remN{m d:Nat}{K:Int->Prop}(hd:0<d)(hk:K ((m % d:Nat):Int)):(real P).ari .rem k (m:Int) k (d:Int) K:=n_rem (by omega) (by omega) (by rw[show((m:Int) % (d:Int))=((m % d:Nat):Int)by simp];exact hk)
theorem n_eqN{m d:Nat}(h1:m=d->X)(h2:m≠d->Y):(real P).cmp .eql k (m:Int) k (d:Int) X Y:=n_eql (fun h=>h1 (by omega)) (fun h=>h2 (by omega))
theorem n_neN{m d:Nat}(h1:m≠d->X)(h2:m=d->Y):(real P).cmp .neq k (m:Int) k (d:Int) X Y:=n_neq (fun h=>h1 (by omega)) (fun h=>h2 (by omega))
theorem n_ltN{m d:Nat}(h1:m<d->X)(h2:d<=m->Y):(real P).cmp .lss k (m:Int) k (d:Int) X Y:=n_lss (fun h=>h1 (by omega)) (fun h=>h2 (by omega))
theorem n_leN{m d:Nat}(h1:m<=d->X)(h2:d<m->Y):(real P).cmp .leq k (m:Int) k (d:Int) X Y:=n_leq (fun h=>h1 (by omega)) (fun h=>h2 (by omega))
theorem n_gtN{m d:Nat}(h1:d<m->X)(h2:m<=d->Y):(real P).cmp .gtr k (m:Int) k (d:Int) X Y:=n_gtr (fun h=>h1 (by omega)) (fun h=>h2 (by omega))
theorem n_sat{s:ByteArray}{i:Int}{K:Int->Prop}(j:Nat){b:UInt8}(hi:i=j)(hb:s.data.toList[j]?=some b)(hk:K (b.toNat:Int)):(real P).sat s i K:=⟨j,b,hi,hb,hk⟩
theorem bytes_size(s:ByteArray):s.size=s.data.toList.length:=by cases s;simp[ByteArray.size]
theorem n_ssl_from{s:ByteArray}{K:ByteArray->Prop}(l:Nat){i:Int}(hi:i=l)(hl:l<=s.data.toList.length)(hk:K (bytesOf (s.data.toList.drop l))):(real P).ssl s (some i) none K:=by
 refine⟨l,s.size,s.size,?_,?_⟩
 ·subst hi
  simp only[Option.map_some,Option.map_none,bnds,bnd]
  rw[show(decide (0<=(l:Int))&&Nat.ble (l:Int).toNat s.size)=true by rw[bytes_size];simp;exact hl]
  simp only[Int.toNat_natCast,Nat.ble_eq_true_of_le (Nat.le_refl s.size)]
 ·rw[bytes_size,List.take_of_length_le (by simp)];exact hk
theorem n_ssl_to{s:ByteArray}{K:ByteArray->Prop}(h:Nat){i:Int}(hi:i=h)(hl:h<=s.data.toList.length)(hk:K (bytesOf (s.data.toList.take h))):(real P).ssl s none (some i) K:=by
 refine⟨0,h,s.size,?_,?_⟩
 ·subst hi
  simp only[Option.map_some,Option.map_none,bnds,bnd]
  rw[show(decide (0<=(h:Int))&&Nat.ble (h:Int).toNat s.size)=true by rw[bytes_size];simp;exact hl]
  simp only[Int.toNat_natCast]
  rw[show Nat.ble h s.size=true from Nat.ble_eq_true_of_le (by rw[bytes_size];exact hl)]
 ·rw[List.drop_zero,Nat.sub_zero];exact hk
def dsl(rs:List Value):Value := .iface mkD (.agg ⟨rs⟩)
theorem n_dlen{rs:List Value}{K:Nat->Prop}(n:Nat)(h:rs.length=n)(hk:K n):(real P).dlen rs K:=by subst h;exact hk
theorem n_dget{rs cs:List Value}{i:Int}{n:Nat}{K:List Value->Prop}(j:Nat)(hi:i=j)(h:rs[j]?=some (.agg ⟨cs⟩))(hn:cs.length=n)(hk:K cs):(real P).dget rs i n K:=⟨j,cs,hi,h,hn,hk⟩
theorem n_rdD{vs rs:List Value}{off:Nat}{K:List Value->Prop}(h:vs[off]?=some (.iface mkD (.agg ⟨rs⟩)))(hk:K rs):(real P).rdD vs off K:=⟨rs,h,hk⟩
def mkS(b k:Nat):Value := .iface mkM (.slice (some ⟨b,0,none⟩) k k)
def mo(vs:List Value)(e sz:Nat):Option AObj:=match vs with
 | []=>none
 |v::l=>some (.cells (v::l) e sz true true)
theorem mo_ne{vs:List Value}{e sz:Nat}(h:vs≠[]):mo vs e sz=some (.cells vs e sz true true):=by
 cases vs with
 |nil=>exact absurd rfl h
 |cons v l=>rfl
theorem n_base_mo{vs:List Value}{n size:Nat}{elem:TypeId}{K:List Value->Prop}(h:vs.length=n*size)(hs:size≠0)(hk:K vs):(real P).base true n n (mo vs elem size) elem size K:=by
 refine⟨vs,?_,hk⟩
 by_cases hv:vs=[]
 ·subst hv
  refine .inl ⟨rfl,?_,rfl⟩
  simp only[List.length_nil]at h
  rcases Nat.mul_eq_zero.1 h.symm with h|h
  ·exact h
  ·exact absurd h hs
 ·refine .inr ⟨fun e=>hv (List.eq_nil_of_length_eq_zero (by rw[h,e,Nat.zero_mul])),mo_ne hv,rfl,hs,h⟩
theorem n_base_c{b:Bool}{vs:List Value}{n size:Nat}{elem:TypeId}{K:List Value->Prop}(h:vs.length=n*size)(hn:n≠0)(hs:size≠0)(hk:K vs):(real P).base b n n (some (.cells vs elem size true true)) elem size K:=
 ⟨vs,.inr ⟨hn,rfl,rfl,hs,h⟩,hk⟩
theorem n_appX{len n size bytes:Nat}{vs xs:List Value}{K:List Value->Nat->Prop}(hn:n≠0)(hl:xs.length=n*size)(hc:xs.all isCell=true)(hb:(2*(len+n)+192)*bytes<=tops)(hb2:len+n<=1099511627776)(hk:K (vs++xs) (len+n)):
 (real P).appX len vs n xs size bytes K:=⟨_,_,hn,hl,hc,hb,hb2,rfl,rfl,hk⟩
theorem n_appS{len bytes:Nat}{vs:List Value}{s:ByteArray}{K0:Prop}{K:List Value->Nat->Prop}(h0:s.data.toList=[]->K0)(h1:s.data.toList≠[]->(2*(len+s.data.toList.length)+192)*bytes<=tops/\len+s.data.toList.length<=1099511627776/\K (vs++bytesV s) (len+s.data.toList.length)):
 (real P).appS len vs s bytes K0 K:=⟨h0,h1⟩
theorem n_shrN{m:Nat}{K:Int->Prop}(hb:8<=k.bits)(hk:K ((m / 256:Nat):Int)):(real P).ari .shr k (m:Int) .u64 (8:Int) K:=by
 refine⟨((m / 256:Nat):Int),?_,hk⟩
 have e:((m:Int)).fdiv (2 ^ (min (8:Int).toNat k.bits))=((m / 256:Nat):Int):=by
  have h8:min (8:Int).toNat k.bits=8:=by show min 8 k.bits=8;omega
  rw[h8,Int.fdiv_eq_ediv_of_nonneg _ (by omega)];omega
 simp only[intBin,e];rfl
theorem n_toU8{src dst:TypeId}{ks:IntKind}{m:Nat}{K:Int->Prop}(hs:P.underlying src=some (.int ks))(hd:P.underlying dst=some (.int .u8))(hk:K ((m % 256:Nat):Int)):(real P).conv src dst k (m:Int) .u8 K:=
 real_conv hs hd (by rw[wrap_u8];exact hk)
theorem n_inc{m:Nat}{K:Int->Prop}(h:m+1<=9223372036854775807)(hk:K ((m+1:Nat):Int)):(real P).ari .add .i64 (m:Int) .i64 (1:Int) K:=n_add (by omega) (by omega) hk
theorem n_strM{vs:List Value}{n:Nat}{e:TypeId}{bs:List UInt8}{K:ByteArray->Prop}(h:vs.length=n)(hb:toBytes vs=some bs)(hk:K (bytesOf bs)):(real P).strM n (mo vs e 1) K:=by
 by_cases hv:vs=[]
 ·subst hv
  refine⟨[],.inl ⟨h.symm,rfl⟩,?_⟩
  have:bs=[]:=by simpa [toBytes,allU8]using hb.symm
  rw[this]at hk;exact hk
 ·refine⟨bs,.inr ⟨fun e=>hv (List.eq_nil_of_length_eq_zero (by rw[h,e])),vs,e,1,true,true,mo_ne hv,by omega,?_⟩,hk⟩
  rw[←h,List.take_length];exact hb
def belowO(n0:Nat):Option AObj->Bool
 |none=>true
 |some (.cells vs _ _ _ _)=>belowL n0 vs
 |some (.map ks vs _ _)=>belowL n0 ks&&belowL n0 vs
theorem oren_below{n0:Nat}{τ:Nat->Nat}(hτ:∀n,n<n0->τ n=n){o:AObj}(h:belowO n0 (some o)=true):oren τ o=o:=by
 cases o with
 |cells vs e sz lo ow=>simp only[belowO]at h;simp only[oren,vrenL_below hτ vs h]
 |map ks vs bs cl=>simp only[belowO,Bool.and_eq_true]at h;simp only[oren,vrenL_below hτ ks h.1,vrenL_below hτ vs h.2]
theorem vrenL_map(τ:Nat->Nat):∀l:List Value,vrenL τ l=l.map (vren τ)
 | []=>rfl
 |v::l=>by simp only[vrenL,List.map_cons,vrenL_map τ l]
theorem wk_out{k0 j k:Nat}{rest:List Value}{objs pre:List (Option AObj)}{vs:List Value}{e sz:Nat}(hj:k0<=j)(ho:objs[j]?=some (some (.cells vs e sz true true)))(hv:belowL 0 vs=true)(hr:belowL (100+k0) rest=true)(hk:k≠0)
  (hp:pre.length=k0) (hpre:∀(i:Nat) o,pre[i]?=some (some o)->objs[i]?=some (some o)/\belowO (100+k0) (some o)=true):
  Wk 100 (100+k0) (.slice (some ⟨100+j,0,none⟩) k k::rest) objs (mkS (100+k0) k::rest) (pre++[some (.cells vs e sz true true)]):=by
 have hlt:j<objs.length:=(List.getElem?_eq_some_iff.1 ho).1
 have hτ:∀n,n<100+k0->tau (100+k0) [100+j] (100+objs.length) n=n:=fun n h=>tau_lt h
 have hτ0:tau (100+k0) [100+j] (100+objs.length) (100+k0)=100+j:=tau_in (Nat.le_refl _) (by simp)
 have hn:Names 100 k0 [100+j] (100+objs.length) (.slice (some ⟨100+j,0,none⟩) k k::rest) objs (.slice (some ⟨100+k0,0,none⟩) k k::rest) (pre++[some (.cells vs e sz true true)]):=by
  refine⟨?_,by rw[List.length_append,hp];rfl,by simp,fun x hx=>?_,by omega,fun i o hi=>?_⟩
  ·rw[List.map_cons,←vrenL_map,vrenL_below hτ rest hr]
   simp only[vren,hτ0]
  ·simp only[List.mem_singleton]at hx;omega
  ·rw[List.getElem?_append]at hi
   split at hi
   ·rename_i hlt2
    obtain⟨h1,h2⟩:=hpre i o hi
    rw[hτ _ (by omega),show 100+i-100=i by omega,oren_below hτ h2];exact h1
   ·rename_i hge
    have hi0:i=k0:=by
     have:=(List.getElem?_eq_some_iff.1 hi).1
     simp only[List.length_singleton]at this;omega
    subst hi0
    rw[hp,Nat.sub_self]at hi
    simp only[List.getElem?_cons_zero,Option.some.injEq]at hi;subst hi
    rw[hτ0,show 100+j-100=j by omega,ho]
    have:vrenL (tau (100+i) [100+j] (100+objs.length)) vs=vs:=vrenL_below (n0:=0) (fun n h=>by omega) vs hv
    simp only[oren,this]
 exact(wk_names hn).trans (wk_weak (.cons (.mark hk) (WeakL.refl _)) (WeakOs.refl _))
end
end
end Go.Abs
