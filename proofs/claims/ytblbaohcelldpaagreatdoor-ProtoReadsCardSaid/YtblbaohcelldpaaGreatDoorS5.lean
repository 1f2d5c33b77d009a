/- . -/
import Derived.Test.YtblbaohcelldpaaGreatDoorS4
set_option linter.all false
namespace Go.Tlv
open Go Go.Abs
structure Cod{β:Type}(get:List UInt8->Option β)(put:β->List UInt8)(good:β->Prop)(z:β):Prop where
 back:∀a,good a->get (put a)=some a
 ok:∀s a,get s=some a->good a/\put a=s
 len:∀a,good a->(put a).length<=65535
 z0:put z=[]
 zg:good z
theorem Cod.inj{β:Type}{get:List UInt8->Option β}{put:β->List UInt8}{good:β->Prop}{z:β}(C:Cod get put good z){a b:β}(ha:good a)(hb:good b)(h:put a=put b):a=b:=by
 have h1:=C.back a ha
 rw[h,C.back b hb]at h1
 simp only[Option.some.injEq]at h1;exact h1.symm
theorem YC{n:Nat}(h:n<18446744073709551616):EL (n:Int)=n:=by unfold EL;omega
theorem lt8{n:Nat}(h:n<18446744073709551616):n<256 ^ 8:=by
 have h3:(256:Nat) ^ 8=18446744073709551616:=by decide
 omega
theorem UU{n:Nat}(h:n<18446744073709551616):(I5 n).length<=65535:=Nat.le_trans (d9 (k:=8) (lt8 h)) (by omega)
def AV(top:Nat)(s:List UInt8):Option Int:=(GQ s top).map (fun n:Nat=>(n:Int))
def EF(v:Int):List UInt8:=I5 (EL v)
def gdI(top:Nat)(v:Int):Prop:=0<=v/\v<=(top:Int)
theorem BD(top:Nat)(h:top<18446744073709551616):Cod (AV top) EF (gdI top) 0 where
 back:=fun a ⟨h1,h2⟩=>by
  obtain⟨m,rfl⟩:=Int.eq_ofNat_of_zero_le h1
  unfold AV EF
  rw[YC (by omega),UY (by omega) (by omega)];rfl
 ok:=fun s a hs=>by
  obtain⟨n,hn,rfl⟩:=Option.map_eq_some_iff.1 hs
  obtain⟨h1,h2,h3⟩:=BV hn
  refine⟨⟨by omega,by omega⟩,?_⟩
  unfold EF
  rw[YC h3];exact h1
 len:=fun a ⟨h1,h2⟩=>UU (KM a)
 z0:=EA
 zg:=⟨by omega,by omega⟩
def DN(top:Nat)(s:List UInt8):Option Nat:=GQ s top
def TL(v:Nat):List UInt8:=I5 (EL (v:Int))
def gQ(v:Nat):List UInt8:=I5 v
def gdN(top:Nat)(v:Nat):Prop:=v<=top
theorem IE(top:Nat)(h:top<18446744073709551616):Cod (DN top) TL (gdN top) 0 where
 back:=fun a (h1:a<=top)=>by
  unfold DN TL
  rw[YC (by omega),UY (by omega) (by omega)]
 ok:=fun s a hs=>by
  obtain⟨h1,h2,h3⟩:=BV hs
  refine⟨h2,?_⟩
  unfold TL
  rw[YC h3];exact h1
 len:=fun a (h1:a<=top)=>UU (KM _)
 z0:=EA
 zg:=Nat.zero_le _
theorem KT(top:Nat)(h:top<18446744073709551616):Cod (DN top) gQ (gdN top) 0 where
 back:=fun a (h1:a<=top)=>UY h1 (by omega)
 ok:=fun s a hs=>by
  obtain⟨h1,h2,h3⟩:=BV hs
  exact⟨h2,h1⟩
 len:=fun a (h1:a<=top)=>UU (by omega)
 z0:=EA
 zg:=Nat.zero_le _
def R8(top:Nat)(s:List UInt8):Option ByteArray:=if s.length<=top then some (bytesOf s)else none
def sM(v:ByteArray):List UInt8:=v.data.toList
def gdS(top:Nat)(v:ByteArray):Prop:=v.data.toList.length<=top
theorem cO(top:Nat)(h:top<=65535):Cod (R8 top) sM (gdS top) (bytesOf []) where
 back:=fun a (h1:a.data.toList.length<=top)=>by
  unfold R8 sM
  rw[if_pos h1,bytes_eta]
 ok:=fun s a hs=>by
  unfold R8 at hs
  split at hs
  ·rename_i h1
   simp only[Option.some.injEq]at hs;subst hs
   exact⟨h1,rfl⟩
  ·cases hs
 len:=fun a (h1:a.data.toList.length<=top)=>Nat.le_trans h1 h
 z0:=rfl
 zg:=Nat.zero_le _
def ZN(s:List UInt8):Option Bool:=(GQ s 1).map fun n=>n==1
def wC(b:Bool):List UInt8:=if b=true then I5 1 else[]
def gdB(b:Bool):Prop:=True
theorem AAA:Cod ZN wC gdB false where
 back:=fun a _=>by
  cases a
  ·rfl
  ·unfold ZN wC
   rw[if_pos rfl,UY (by omega) (by omega)];rfl
 ok:=fun s a hs=>by
  obtain⟨n,hn,rfl⟩:=Option.map_eq_some_iff.1 hs
  obtain⟨h1,h2,h3⟩:=BV hn
  refine⟨trivial,?_⟩
  have:n=0∨n=1:=by omega
  rcases this with rfl|rfl
  ·rw[←h1,EA];rfl
  ·exact h1
 len:=fun a _=>by
  unfold wC
  split
  ·exact UU (by omega)
  ·simp
 z0:=rfl
 zg:=trivial
structure VD{β:Type}(rd:List UInt8->Option β)(one:β->ByteArray)(good:β->Prop):Prop where
 back:∀a,good a->rd (one a).data.toList=some a
 ok:∀s a,rd s=some a->good a/\(one a).data.toList=s
 len:∀a,good a->(one a).data.toList.length<=2000
def D9{β:Type}(rd:List UInt8->Option β)(top:Nat)(s:List UInt8):Option (List β):=if (DK top 0 s).1=0 then H5 (fun b=>rd b.data.toList) (DK top 0 s).2 else none
def EZ{β:Type}(one:β->ByteArray)(l:List β):List UInt8:=QB (l.map one)
def gdL{β:Type}(good:β->Prop)(top:Nat)(l:List β):Prop:=l.length<=top/\∀a∈l,good a
theorem TA:∀ {l:List ByteArray},(∀s∈l,s.data.toList.length<=65535)->y9 l=0
 | [],_=>rfl
 |s::l,h=>by
  unfold y9
  rw[if_neg (Nat.not_lt.2 (h s (List.mem_cons_self ..)))]
  exact TA fun x hx=>h x (List.mem_cons_of_mem _ hx)
theorem rO:∀ {l:List ByteArray} {n:Nat},(∀s∈l,s.data.toList.length<=n)->(gF l).length<=l.length*(n+2)
 | [],n,_=>by simp[gF]
 |s::l,n,h=>by
  have h1:=h s (List.mem_cons_self ..)
  have h2:=rO (l:=l) (n:=n) fun x hx=>h x (List.mem_cons_of_mem _ hx)
  show(itB s++gF l).length<=_
  rw[List.length_append,List.length_cons,Nat.succ_mul]
  have:(itB s).length=2+s.data.toList.length:=by simp[itB,two];omega
  omega
theorem J9 {β:Type} {rd:List UInt8->Option β} {one:β->ByteArray} {good:β->Prop} (I:VD rd one good) (top:Nat) (h:top<=32):Cod (D9 rd top) (EZ one) (gdL good top) [] where
  back:=fun l ⟨h1,h2⟩=>by
    have hs:∀s∈l.map one,s.data.toList.length<=65535:=fun s hs=>by
      obtain⟨a,ha,rfl⟩:=List.mem_map.1 hs
      exact Nat.le_trans (I.len a (h2 a ha)) (by omega)
    unfold D9 EZ QB
    rw[if_pos (TA hs),show vQ (l.map one)=gF (l.map one)from rfl,YT _ top 0 hs (by simp;exact h1),if_pos rfl]
    exact dW fun b hb=>I.back b (h2 b hb)
  ok := fun s l hs=>by
    unfold D9 at hs
    split at hs
    · rename_i h0
      have hd:DK top 0 s=(0,(DK top 0 s).2):=Prod.ext h0 rfl
      obtain⟨k1,k2,k3⟩:=UQ s.length s top 0 _ (Nat.le_refl _) hd
      obtain⟨g1,g2⟩:=mX hs
      have g3:=g2 one fun a b hab=>NN (I.ok _ _ hab).2
      refine⟨⟨?_,dV (fun a b hab=>(I.ok _ _ hab).1) hs⟩,?_⟩
      · rw[g1]
        rcases k2 with k2|k2
        · omega
        · rw[k2];simp
      · unfold EZ QB
        rw[g3,if_pos (TA k3)];exact k1
    · cases hs
  len:=fun l ⟨h1,h2⟩=>by
    unfold EZ QB
    split
    · show(gF (l.map one)).length<=_
      have:=rO (l:=l.map one) (n:=2000) fun s hs=>by
        obtain⟨a,ha,rfl⟩:=List.mem_map.1 hs
        exact I.len a (h2 a ha)
      rw[List.length_map]at this
      have h3:l.length*(2000+2)<=32*(2000+2):=Nat.mul_le_mul_right _ (by omega)
      omega
    · simp
  z0:=rfl
  zg:=⟨Nat.zero_le _,fun a ha=>by cases ha⟩
theorem P6(l:List At)(k:Nat)(s:ByteArray):OO l k s=l++OQ k s.data.toList:=by
 unfold OO OQ
 split
 ·simp
 ·rw[bytes_eta]
theorem IV(l:List At)(k n:Nat):addN l k n=l++OQ k (I5 n):=by unfold addN;rw[P6];rfl
theorem ABW(l:List At)(k:Nat)(b:Bool):AGQ l k b=l++OQ k (wC b):=by
 unfold AGQ wC
 split
 ·exact IV l k 1
 ·simp[OQ]
theorem ACf{l:List At}{n:Nat}(h:∀a∈l,a.v.data.toList.length<=n):(encS l).length<=l.length*(n+3):=by
 unfold encS
 split
 ·rename_i h0
  clear h0
  induction l with
  |nil=>simp[KO]
  |cons a l ih=>
   have h1:=h a (List.mem_cons_self ..)
   have h2:=ih fun x hx=>h x (List.mem_cons_of_mem _ hx)
   show(AAx a++KO l).length<=_
   rw[List.length_append,List.length_cons,Nat.succ_mul]
   have:(AAx a).length=3+a.v.data.toList.length:=by simp[AAx,two];omega
   omega
 ·simp
theorem VH{f:Nat->List UInt8}:∀(n j:Nat),(BQ f n j).length<=n
 | 0,_=>by simp[BQ]
 |n+1,j=>by
  have:=VH (f:=f) n (j+1)
  simp only[BQ,List.length_append]
  have:(OQ (j+1) (f (j+1))).length<=1:=by unfold OQ;split<;>simp
  omega
theorem pG{f:Nat->List UInt8}{b:Nat}(hf:∀k,(f k).length<=b):∀(n j:Nat),∀a∈BQ f n j,a.v.data.toList.length<=b
 | 0,_,a,h=>by cases h
 |n+1,j,a,h=>by
  simp only[BQ,List.mem_append]at h
  rcases h with h|h
  ·unfold OQ at h
   split at h
   ·cases h
   ·simp only[List.mem_singleton]at h;subst h;exact hf _
  ·exact pG hf n (j+1) a h
def rdO{α:Type}(step:α->At->Option α)(zero:α)(s:List UInt8):Option α:=if (rdE step zero s).1=0 then some (rdE step zero s).2 else none
theorem vN{α:Type}{m:Nat}{step:α->At->Option α}{put:α->Nat->List UInt8}{ok:α->Prop}{zero:α}(S:Sch m step put ok zero)(hm:m<=7)(h8:∀x k,ok x->(put x k).length<=8){one:α->ByteArray}(ho:∀x,one x=bytesOf (encS (BQ (put x) m 0))):VD (rdO step zero) one ok where
 back:=fun a ha=>by
  unfold rdO
  rw[ho,AZ,S.rd_put ha];rfl
 ok:=fun s a hs=>by
  unfold rdO at hs
  split at hs
  ·rename_i h0
   simp only[Option.some.injEq]at hs
   have:rdE step zero s=(0,a):=Prod.ext h0 hs
   obtain⟨h1,h2⟩:=S.rd_ok this
   exact⟨h1,by rw[ho];exact h2⟩
  ·cases hs
 len:=fun a ha=>by
  rw[ho,AZ]
  have h1:=ACf (l:=BQ (put a) m 0) (n:=8) (pG (fun k=>h8 a k ha) m 0)
  have h2:=VH (f:=put a) m 0
  have h3:(BQ (put a) m 0).length*(8+3)<=7*(8+3):=Nat.mul_le_mul_right _ (by omega)
  omega
theorem K4{n:Nat}(h:n<18446744073709551616):(I5 n).length<=8:=d9 (k:=8) (lt8 h)
def GJ(s:List UInt8):Option Int:=AV 2147483647 s
def ET(s:List UInt8):Option Nat:=DN 18446744073709551615 s
def yY(n:Int):Prop:=gdI 2147483647 n
def XL(n:Nat):Prop:=gdN 18446744073709551615 n
theorem jK:VD GJ nM yY where
 back:=fun a ha=>(BD 2147483647 (by decide)).back a ha
 ok:=fun s a hs=>(BD 2147483647 (by decide)).ok s a hs
 len:=fun a ha=>Nat.le_trans (K4 (KM a)) (by omega)
theorem U5:VD ET OB XL where
 back:=fun a ha=>(KT 18446744073709551615 (by decide)).back a ha
 ok:=fun s a hs=>(KT 18446744073709551615 (by decide)).ok s a hs
 len:=fun a (ha:a<=18446744073709551615)=>Nat.le_trans (K4 (by omega)) (by omega)
def SB:Arm:=⟨0,0⟩
def DY(x:Arm)(a:At):Option Arm:=match a.t with
 | 1=>(DN 4294967295 a.v.data.toList).map fun v=>{x with v:=v}
 | 2=>(AV 2147483647 a.v.data.toList).map fun v=>{x with nx:=v}
 |_=>none
def ADf(x:Arm):Nat->List UInt8
 | 1=>TL x.v
 | 2=>EF x.nx
 |_=>[]
structure mQ(x:Arm):Prop where
 v:gdN 4294967295 x.v
 nx:gdI 2147483647 x.nx
theorem AH9:Sch 2 DY ADf mQ SB where
 no:=fun y a h=>by
  unfold DY
  split<;>first|rfl|omega
 is:=fun y a y' hy h=>by
  unfold DY at h
  split at h
  ·rename_i ha
   obtain⟨v,hv,rfl⟩:=Option.map_eq_some_iff.1 h
   obtain⟨g1,g2⟩:=(IE 4294967295 (by decide)).ok _ _ hv
   rw[ha]
   exact⟨⟨g1,hy.nx⟩,g2,fun j hj=>by rcases j with _|_|_|j<;>first|rfl|exact absurd rfl hj⟩
  ·rename_i ha
   obtain⟨v,hv,rfl⟩:=Option.map_eq_some_iff.1 h
   obtain⟨g1,g2⟩:=(BD 2147483647 (by decide)).ok _ _ hv
   rw[ha]
   exact⟨⟨hy.v,g1⟩,g2,fun j hj=>by rcases j with _|_|_|j<;>first|rfl|exact absurd rfl hj⟩
  ·cases h
 back:=fun x y k hx h1 h2=>by
  rcases k with _|_|_|k
  ·omega
  ·exact⟨{y with v:=x.v},by show(DN 4294967295 (TL x.v)).map (fun v=>({y with v:=v}:Arm))=_;rw[(IE 4294967295 (by decide)).back _ hx.v];rfl⟩
  ·exact⟨{y with nx:=x.nx},by show(AV 2147483647 (EF x.nx)).map (fun v=>({y with nx:=v}:Arm))=_;rw[(BD 2147483647 (by decide)).back _ hx.nx];rfl⟩
  ·omega
 inj:=fun x y hx hy h=>by
  have e1:=(IE 4294967295 (by decide)).inj hx.v hy.v (h 1 (by omega) (by omega))
  have e2:=(BD 2147483647 (by decide)).inj hx.nx hy.nx (h 2 (by omega) (by omega))
  cases x;cases y
  simp only at e1 e2
  subst e1 e2
  rfl
 z:=⟨(IE 4294967295 (by decide)).zg,(BD 2147483647 (by decide)).zg⟩
 z0:=fun k=>by rcases k with _|_|_|k<;>first|rfl|exact(IE 4294967295 (by decide)).z0|exact(BD 2147483647 (by decide)).z0
 len:=fun x k hx=>by
  rcases k with _|_|_|k
  ·exact Nat.zero_le _
  ·exact(IE 4294967295 (by decide)).len _ hx.v
  ·exact(BD 2147483647 (by decide)).len _ hx.nx
  ·exact Nat.zero_le _
 m:=by omega
theorem uO(x:Arm):lG x=BQ (ADf x) 2 0:=by
 unfold lG
 simp only[IV,List.nil_append,BQ,List.append_nil]
 rfl
def GI(s:List UInt8):Option Arm:=rdO DY SB s
theorem jJ:VD GI eB mQ:=vN AH9 (by omega) (fun x k hx=>by
 rcases k with _|_|_|k
 ·exact Nat.zero_le _
 ·exact K4 (KM _)
 ·exact K4 (KM _)
 ·exact Nat.zero_le _) fun x=>by unfold eB;rw[uO]
def I6:Instr:=⟨0,0,0,0,0,0,0⟩
def A9(x:Instr)(a:At):Option Instr:=match a.t with
 | 1=>(DN 255 a.v.data.toList).map fun v=>{x with op:=v}
 | 2=>(AV 2147483647 a.v.data.toList).map fun v=>{x with to:=v}
 | 3=>(DN 255 a.v.data.toList).map fun v=>{x with ak:=v}
 | 4=>(DN 18446744073709551615 a.v.data.toList).map fun v=>{x with an:=v}
 | 5=>(DN 255 a.v.data.toList).map fun v=>{x with bk:=v}
 | 6=>(DN 18446744073709551615 a.v.data.toList).map fun v=>{x with bn:=v}
 | 7=>(AV 2147483647 a.v.data.toList).map fun v=>{x with n:=v}
 |_=>none
def sJ(x:Instr):Nat->List UInt8
 | 1=>TL x.op
 | 2=>EF x.to
 | 3=>TL x.ak
 | 4=>gQ x.an
 | 5=>TL x.bk
 | 6=>gQ x.bn
 | 7=>EF x.n
 |_=>[]
structure YQ(x:Instr):Prop where
 op:gdN 255 x.op
 to:gdI 2147483647 x.to
 ak:gdN 255 x.ak
 an:gdN 18446744073709551615 x.an
 bk:gdN 255 x.bk
 bn:gdN 18446744073709551615 x.bn
 n:gdI 2147483647 x.n
theorem ADJ:Sch 7 A9 sJ YQ I6 where
 no:=fun y a h=>by
  unfold A9
  split<;>first|rfl|omega
 is:=fun y a y' hy h=>by
  unfold A9 at h
  split at h
  ·rename_i ha
   obtain⟨v,hv,rfl⟩:=Option.map_eq_some_iff.1 h
   obtain⟨g1,g2⟩:=(IE 255 (by decide)).ok _ _ hv
   rw[ha]
   exact⟨⟨g1,hy.to,hy.ak,hy.an,hy.bk,hy.bn,hy.n⟩,g2,fun j hj=>by rcases j with _|_|_|_|_|_|_|_|j<;>first|rfl|exact absurd rfl hj⟩
  ·rename_i ha
   obtain⟨v,hv,rfl⟩:=Option.map_eq_some_iff.1 h
   obtain⟨g1,g2⟩:=(BD 2147483647 (by decide)).ok _ _ hv
   rw[ha]
   exact⟨⟨hy.op,g1,hy.ak,hy.an,hy.bk,hy.bn,hy.n⟩,g2,fun j hj=>by rcases j with _|_|_|_|_|_|_|_|j<;>first|rfl|exact absurd rfl hj⟩
  ·rename_i ha
   obtain⟨v,hv,rfl⟩:=Option.map_eq_some_iff.1 h
   obtain⟨g1,g2⟩:=(IE 255 (by decide)).ok _ _ hv
   rw[ha]
   exact⟨⟨hy.op,hy.to,g1,hy.an,hy.bk,hy.bn,hy.n⟩,g2,fun j hj=>by rcases j with _|_|_|_|_|_|_|_|j<;>first|rfl|exact absurd rfl hj⟩
  ·rename_i ha
   obtain⟨v,hv,rfl⟩:=Option.map_eq_some_iff.1 h
   obtain⟨g1,g2⟩:=(KT 18446744073709551615 (by decide)).ok _ _ hv
   rw[ha]
   exact⟨⟨hy.op,hy.to,hy.ak,g1,hy.bk,hy.bn,hy.n⟩,g2,fun j hj=>by rcases j with _|_|_|_|_|_|_|_|j<;>first|rfl|exact absurd rfl hj⟩
  ·rename_i ha
   obtain⟨v,hv,rfl⟩:=Option.map_eq_some_iff.1 h
   obtain⟨g1,g2⟩:=(IE 255 (by decide)).ok _ _ hv
   rw[ha]
   exact⟨⟨hy.op,hy.to,hy.ak,hy.an,g1,hy.bn,hy.n⟩,g2,fun j hj=>by rcases j with _|_|_|_|_|_|_|_|j<;>first|rfl|exact absurd rfl hj⟩
  ·rename_i ha
   obtain⟨v,hv,rfl⟩:=Option.map_eq_some_iff.1 h
   obtain⟨g1,g2⟩:=(KT 18446744073709551615 (by decide)).ok _ _ hv
   rw[ha]
   exact⟨⟨hy.op,hy.to,hy.ak,hy.an,hy.bk,g1,hy.n⟩,g2,fun j hj=>by rcases j with _|_|_|_|_|_|_|_|j<;>first|rfl|exact absurd rfl hj⟩
  ·rename_i ha
   obtain⟨v,hv,rfl⟩:=Option.map_eq_some_iff.1 h
   obtain⟨g1,g2⟩:=(BD 2147483647 (by decide)).ok _ _ hv
   rw[ha]
   exact⟨⟨hy.op,hy.to,hy.ak,hy.an,hy.bk,hy.bn,g1⟩,g2,fun j hj=>by rcases j with _|_|_|_|_|_|_|_|j<;>first|rfl|exact absurd rfl hj⟩
  ·cases h
 back:=fun x y k hx h1 h2=>by
  rcases k with _|_|_|_|_|_|_|_|k
  ·omega
  ·exact⟨{y with op:=x.op},by show(DN 255 (TL x.op)).map (fun v=>({y with op:=v}:Instr))=_;rw[(IE 255 (by decide)).back _ hx.op];rfl⟩
  ·exact⟨{y with to:=x.to},by show(AV 2147483647 (EF x.to)).map (fun v=>({y with to:=v}:Instr))=_;rw[(BD 2147483647 (by decide)).back _ hx.to];rfl⟩
  ·exact⟨{y with ak:=x.ak},by show(DN 255 (TL x.ak)).map (fun v=>({y with ak:=v}:Instr))=_;rw[(IE 255 (by decide)).back _ hx.ak];rfl⟩
  ·exact⟨{y with an:=x.an},by show(DN 18446744073709551615 (gQ x.an)).map (fun v=>({y with an:=v}:Instr))=_;rw[(KT 18446744073709551615 (by decide)).back _ hx.an];rfl⟩
  ·exact⟨{y with bk:=x.bk},by show(DN 255 (TL x.bk)).map (fun v=>({y with bk:=v}:Instr))=_;rw[(IE 255 (by decide)).back _ hx.bk];rfl⟩
  ·exact⟨{y with bn:=x.bn},by show(DN 18446744073709551615 (gQ x.bn)).map (fun v=>({y with bn:=v}:Instr))=_;rw[(KT 18446744073709551615 (by decide)).back _ hx.bn];rfl⟩
  ·exact⟨{y with n:=x.n},by show(AV 2147483647 (EF x.n)).map (fun v=>({y with n:=v}:Instr))=_;rw[(BD 2147483647 (by decide)).back _ hx.n];rfl⟩
  ·omega
 inj:=fun x y hx hy h=>by
  have e1:=(IE 255 (by decide)).inj hx.op hy.op (h 1 (by omega) (by omega))
  have e2:=(BD 2147483647 (by decide)).inj hx.to hy.to (h 2 (by omega) (by omega))
  have e3:=(IE 255 (by decide)).inj hx.ak hy.ak (h 3 (by omega) (by omega))
  have e4:=(KT 18446744073709551615 (by decide)).inj hx.an hy.an (h 4 (by omega) (by omega))
  have e5:=(IE 255 (by decide)).inj hx.bk hy.bk (h 5 (by omega) (by omega))
  have e6:=(KT 18446744073709551615 (by decide)).inj hx.bn hy.bn (h 6 (by omega) (by omega))
  have e7:=(BD 2147483647 (by decide)).inj hx.n hy.n (h 7 (by omega) (by omega))
  cases x;cases y
  simp only at e1 e2 e3 e4 e5 e6 e7
  subst e1 e2 e3 e4 e5 e6 e7
  rfl
 z:=⟨(IE 255 (by decide)).zg,(BD 2147483647 (by decide)).zg,(IE 255 (by decide)).zg,(KT 18446744073709551615 (by decide)).zg,(IE 255 (by decide)).zg,(KT 18446744073709551615 (by decide)).zg,(BD 2147483647 (by decide)).zg⟩
 z0:=fun k=>by rcases k with _|_|_|_|_|_|_|_|k<;>first|rfl|exact(IE 255 (by decide)).z0|exact(BD 2147483647 (by decide)).z0|exact(KT 18446744073709551615 (by decide)).z0
 len:=fun x k hx=>by
  rcases k with _|_|_|_|_|_|_|_|k
  ·exact Nat.zero_le _
  ·exact(IE 255 (by decide)).len _ hx.op
  ·exact(BD 2147483647 (by decide)).len _ hx.to
  ·exact(IE 255 (by decide)).len _ hx.ak
  ·exact(KT 18446744073709551615 (by decide)).len _ hx.an
  ·exact(IE 255 (by decide)).len _ hx.bk
  ·exact(KT 18446744073709551615 (by decide)).len _ hx.bn
  ·exact(BD 2147483647 (by decide)).len _ hx.n
  ·exact Nat.zero_le _
 m:=by omega
theorem lH(x:Instr):YL x=BQ (sJ x) 7 0:=by
 unfold YL
 simp only[IV,List.nil_append,List.append_assoc,BQ,List.append_nil]
 rfl
def DV(s:List UInt8):Option Instr:=rdO A9 I6 s
theorem UO:VD DV TG YQ:=vN ADJ (by omega) (fun x k hx=>by
 rcases k with _|_|_|_|_|_|_|_|k
 ·exact Nat.zero_le _
 ·exact K4 (KM _)
 ·exact K4 (KM _)
 ·exact K4 (KM _)
 ·exact K4 (by have h:=hx.an;unfold gdN at h;omega)
 ·exact K4 (KM _)
 ·exact K4 (by have h:=hx.bn;unfold gdN at h;omega)
 ·exact K4 (KM _)
 ·exact Nat.zero_le _) fun x=>by unfold TG;rw[lH]
def GN:EP:=⟨0,0⟩
def CE(x:EP)(a:At):Option EP:=match a.t with
 | 1=>(DN 18446744073709551615 a.v.data.toList).map fun v=>{x with w:=v}
 | 2=>(AV 2147483647 a.v.data.toList).map fun v=>{x with b:=v}
 |_=>none
def jX(x:EP):Nat->List UInt8
 | 1=>gQ x.w
 | 2=>EF x.b
 |_=>[]
structure VS(x:EP):Prop where
 w:gdN 18446744073709551615 x.w
 b:gdI 2147483647 x.b
theorem ABs:Sch 2 CE jX VS GN where
 no:=fun y a h=>by
  unfold CE
  split<;>first|rfl|omega
 is:=fun y a y' hy h=>by
  unfold CE at h
  split at h
  ·rename_i ha
   obtain⟨v,hv,rfl⟩:=Option.map_eq_some_iff.1 h
   obtain⟨g1,g2⟩:=(KT 18446744073709551615 (by decide)).ok _ _ hv
   rw[ha]
   exact⟨⟨g1,hy.b⟩,g2,fun j hj=>by rcases j with _|_|_|j<;>first|rfl|exact absurd rfl hj⟩
  ·rename_i ha
   obtain⟨v,hv,rfl⟩:=Option.map_eq_some_iff.1 h
   obtain⟨g1,g2⟩:=(BD 2147483647 (by decide)).ok _ _ hv
   rw[ha]
   exact⟨⟨hy.w,g1⟩,g2,fun j hj=>by rcases j with _|_|_|j<;>first|rfl|exact absurd rfl hj⟩
  ·cases h
 back:=fun x y k hx h1 h2=>by
  rcases k with _|_|_|k
  ·omega
  ·exact⟨{y with w:=x.w},by show(DN 18446744073709551615 (gQ x.w)).map (fun v=>({y with w:=v}:EP))=_;rw[(KT 18446744073709551615 (by decide)).back _ hx.w];rfl⟩
  ·exact⟨{y with b:=x.b},by show(AV 2147483647 (EF x.b)).map (fun v=>({y with b:=v}:EP))=_;rw[(BD 2147483647 (by decide)).back _ hx.b];rfl⟩
  ·omega
 inj:=fun x y hx hy h=>by
  have e1:=(KT 18446744073709551615 (by decide)).inj hx.w hy.w (h 1 (by omega) (by omega))
  have e2:=(BD 2147483647 (by decide)).inj hx.b hy.b (h 2 (by omega) (by omega))
  cases x;cases y
  simp only at e1 e2
  subst e1 e2
  rfl
 z:=⟨(KT 18446744073709551615 (by decide)).zg,(BD 2147483647 (by decide)).zg⟩
 z0:=fun k=>by rcases k with _|_|_|k<;>first|rfl|exact(KT 18446744073709551615 (by decide)).z0|exact(BD 2147483647 (by decide)).z0
 len:=fun x k hx=>by
  rcases k with _|_|_|k
  ·exact Nat.zero_le _
  ·exact(KT 18446744073709551615 (by decide)).len _ hx.w
  ·exact(BD 2147483647 (by decide)).len _ hx.b
  ·exact Nat.zero_le _
 m:=by omega
theorem fZ(x:EP):VJ x=BQ (jX x) 2 0:=by
 unfold VJ
 simp only[IV,List.nil_append,BQ,List.append_nil]
 rfl
def CX(s:List UInt8):Option EP:=rdO CE GN s
theorem QA:VD CX QH VS:=vN ABs (by omega) (fun x k hx=>by
 rcases k with _|_|_|k
 ·exact Nat.zero_le _
 ·exact K4 (by have h:=hx.w;unfold gdN at h;omega)
 ·exact K4 (KM _)
 ·exact Nat.zero_le _) fun x=>by unfold QH;rw[fZ]
def HZ:DX:=⟨0,0,0,0,0,0,0,[],0⟩
def AY(x:DX)(a:At):Option DX:=match a.t with
 | 1=>(AV 2147483647 a.v.data.toList).map fun v=>{x with id:=v}
 | 2=>(AV 2147483647 a.v.data.toList).map fun v=>{x with size:=v}
 | 3=>(AV 2147483647 a.v.data.toList).map fun v=>{x with lo:=v}
 | 4=>(AV 2147483647 a.v.data.toList).map fun v=>{x with lw:=v}
 | 5=>(AV 2147483647 a.v.data.toList).map fun v=>{x with lu:=v}
 | 6=>(AV 2147483647 a.v.data.toList).map fun v=>{x with so:=v}
 | 7=>(AV 2147483647 a.v.data.toList).map fun v=>{x with sw:=v}
 | 8=>(AV 2147483647 a.v.data.toList).map fun v=>{x with ot:=v}
 | 9=>(D9 GI 32 a.v.data.toList).map fun v=>{x with arms:=v}
 |_=>none
def zN(x:DX):Nat->List UInt8
 | 1=>EF x.id
 | 2=>EF x.size
 | 3=>EF x.lo
 | 4=>EF x.lw
 | 5=>EF x.lu
 | 6=>EF x.so
 | 7=>EF x.sw
 | 8=>EF x.ot
 | 9=>EZ eB x.arms
 |_=>[]
structure NZ(x:DX):Prop where
 id:gdI 2147483647 x.id
 size:gdI 2147483647 x.size
 lo:gdI 2147483647 x.lo
 lw:gdI 2147483647 x.lw
 lu:gdI 2147483647 x.lu
 so:gdI 2147483647 x.so
 sw:gdI 2147483647 x.sw
 ot:gdI 2147483647 x.ot
 arms:gdL mQ 32 x.arms
theorem X7:Sch 9 AY zN NZ HZ where
 no:=fun y a h=>by
  unfold AY
  split<;>first|rfl|omega
 is:=fun y a y' hy h=>by
  unfold AY at h
  split at h
  ·rename_i ha
   obtain⟨v,hv,rfl⟩:=Option.map_eq_some_iff.1 h
   obtain⟨g1,g2⟩:=(BD 2147483647 (by decide)).ok _ _ hv
   rw[ha]
   exact⟨⟨g1,hy.size,hy.lo,hy.lw,hy.lu,hy.so,hy.sw,hy.ot,hy.arms⟩,g2,fun j hj=>by rcases j with _|_|_|_|_|_|_|_|_|_|j<;>first|rfl|exact absurd rfl hj⟩
  ·rename_i ha
   obtain⟨v,hv,rfl⟩:=Option.map_eq_some_iff.1 h
   obtain⟨g1,g2⟩:=(BD 2147483647 (by decide)).ok _ _ hv
   rw[ha]
   exact⟨⟨hy.id,g1,hy.lo,hy.lw,hy.lu,hy.so,hy.sw,hy.ot,hy.arms⟩,g2,fun j hj=>by rcases j with _|_|_|_|_|_|_|_|_|_|j<;>first|rfl|exact absurd rfl hj⟩
  ·rename_i ha
   obtain⟨v,hv,rfl⟩:=Option.map_eq_some_iff.1 h
   obtain⟨g1,g2⟩:=(BD 2147483647 (by decide)).ok _ _ hv
   rw[ha]
   exact⟨⟨hy.id,hy.size,g1,hy.lw,hy.lu,hy.so,hy.sw,hy.ot,hy.arms⟩,g2,fun j hj=>by rcases j with _|_|_|_|_|_|_|_|_|_|j<;>first|rfl|exact absurd rfl hj⟩
  ·rename_i ha
   obtain⟨v,hv,rfl⟩:=Option.map_eq_some_iff.1 h
   obtain⟨g1,g2⟩:=(BD 2147483647 (by decide)).ok _ _ hv
   rw[ha]
   exact⟨⟨hy.id,hy.size,hy.lo,g1,hy.lu,hy.so,hy.sw,hy.ot,hy.arms⟩,g2,fun j hj=>by rcases j with _|_|_|_|_|_|_|_|_|_|j<;>first|rfl|exact absurd rfl hj⟩
  ·rename_i ha
   obtain⟨v,hv,rfl⟩:=Option.map_eq_some_iff.1 h
   obtain⟨g1,g2⟩:=(BD 2147483647 (by decide)).ok _ _ hv
   rw[ha]
   exact⟨⟨hy.id,hy.size,hy.lo,hy.lw,g1,hy.so,hy.sw,hy.ot,hy.arms⟩,g2,fun j hj=>by rcases j with _|_|_|_|_|_|_|_|_|_|j<;>first|rfl|exact absurd rfl hj⟩
  ·rename_i ha
   obtain⟨v,hv,rfl⟩:=Option.map_eq_some_iff.1 h
   obtain⟨g1,g2⟩:=(BD 2147483647 (by decide)).ok _ _ hv
   rw[ha]
   exact⟨⟨hy.id,hy.size,hy.lo,hy.lw,hy.lu,g1,hy.sw,hy.ot,hy.arms⟩,g2,fun j hj=>by rcases j with _|_|_|_|_|_|_|_|_|_|j<;>first|rfl|exact absurd rfl hj⟩
  ·rename_i ha
   obtain⟨v,hv,rfl⟩:=Option.map_eq_some_iff.1 h
   obtain⟨g1,g2⟩:=(BD 2147483647 (by decide)).ok _ _ hv
   rw[ha]
   exact⟨⟨hy.id,hy.size,hy.lo,hy.lw,hy.lu,hy.so,g1,hy.ot,hy.arms⟩,g2,fun j hj=>by rcases j with _|_|_|_|_|_|_|_|_|_|j<;>first|rfl|exact absurd rfl hj⟩
  ·rename_i ha
   obtain⟨v,hv,rfl⟩:=Option.map_eq_some_iff.1 h
   obtain⟨g1,g2⟩:=(BD 2147483647 (by decide)).ok _ _ hv
   rw[ha]
   exact⟨⟨hy.id,hy.size,hy.lo,hy.lw,hy.lu,hy.so,hy.sw,g1,hy.arms⟩,g2,fun j hj=>by rcases j with _|_|_|_|_|_|_|_|_|_|j<;>first|rfl|exact absurd rfl hj⟩
  ·rename_i ha
   obtain⟨v,hv,rfl⟩:=Option.map_eq_some_iff.1 h
   obtain⟨g1,g2⟩:=(J9 jJ 32 (by decide)).ok _ _ hv
   rw[ha]
   exact⟨⟨hy.id,hy.size,hy.lo,hy.lw,hy.lu,hy.so,hy.sw,hy.ot,g1⟩,g2,fun j hj=>by rcases j with _|_|_|_|_|_|_|_|_|_|j<;>first|rfl|exact absurd rfl hj⟩
  ·cases h
 back:=fun x y k hx h1 h2=>by
  rcases k with _|_|_|_|_|_|_|_|_|_|k
  ·omega
  ·exact⟨{y with id:=x.id},by show(AV 2147483647 (EF x.id)).map (fun v=>({y with id:=v}:DX))=_;rw[(BD 2147483647 (by decide)).back _ hx.id];rfl⟩
  ·exact⟨{y with size:=x.size},by show(AV 2147483647 (EF x.size)).map (fun v=>({y with size:=v}:DX))=_;rw[(BD 2147483647 (by decide)).back _ hx.size];rfl⟩
  ·exact⟨{y with lo:=x.lo},by show(AV 2147483647 (EF x.lo)).map (fun v=>({y with lo:=v}:DX))=_;rw[(BD 2147483647 (by decide)).back _ hx.lo];rfl⟩
  ·exact⟨{y with lw:=x.lw},by show(AV 2147483647 (EF x.lw)).map (fun v=>({y with lw:=v}:DX))=_;rw[(BD 2147483647 (by decide)).back _ hx.lw];rfl⟩
  ·exact⟨{y with lu:=x.lu},by show(AV 2147483647 (EF x.lu)).map (fun v=>({y with lu:=v}:DX))=_;rw[(BD 2147483647 (by decide)).back _ hx.lu];rfl⟩
  ·exact⟨{y with so:=x.so},by show(AV 2147483647 (EF x.so)).map (fun v=>({y with so:=v}:DX))=_;rw[(BD 2147483647 (by decide)).back _ hx.so];rfl⟩
  ·exact⟨{y with sw:=x.sw},by show(AV 2147483647 (EF x.sw)).map (fun v=>({y with sw:=v}:DX))=_;rw[(BD 2147483647 (by decide)).back _ hx.sw];rfl⟩
  ·exact⟨{y with ot:=x.ot},by show(AV 2147483647 (EF x.ot)).map (fun v=>({y with ot:=v}:DX))=_;rw[(BD 2147483647 (by decide)).back _ hx.ot];rfl⟩
  ·exact⟨{y with arms:=x.arms},by show(D9 GI 32 (EZ eB x.arms)).map (fun v=>({y with arms:=v}:DX))=_;rw[(J9 jJ 32 (by decide)).back _ hx.arms];rfl⟩
  ·omega
 inj:=fun x y hx hy h=>by
  have e1:=(BD 2147483647 (by decide)).inj hx.id hy.id (h 1 (by omega) (by omega))
  have e2:=(BD 2147483647 (by decide)).inj hx.size hy.size (h 2 (by omega) (by omega))
  have e3:=(BD 2147483647 (by decide)).inj hx.lo hy.lo (h 3 (by omega) (by omega))
  have e4:=(BD 2147483647 (by decide)).inj hx.lw hy.lw (h 4 (by omega) (by omega))
  have e5:=(BD 2147483647 (by decide)).inj hx.lu hy.lu (h 5 (by omega) (by omega))
  have e6:=(BD 2147483647 (by decide)).inj hx.so hy.so (h 6 (by omega) (by omega))
  have e7:=(BD 2147483647 (by decide)).inj hx.sw hy.sw (h 7 (by omega) (by omega))
  have e8:=(BD 2147483647 (by decide)).inj hx.ot hy.ot (h 8 (by omega) (by omega))
  have e9:=(J9 jJ 32 (by decide)).inj hx.arms hy.arms (h 9 (by omega) (by omega))
  cases x;cases y
  simp only at e1 e2 e3 e4 e5 e6 e7 e8 e9
  subst e1 e2 e3 e4 e5 e6 e7 e8 e9
  rfl
 z:=⟨(BD 2147483647 (by decide)).zg,(BD 2147483647 (by decide)).zg,(BD 2147483647 (by decide)).zg,(BD 2147483647 (by decide)).zg,(BD 2147483647 (by decide)).zg,(BD 2147483647 (by decide)).zg,(BD 2147483647 (by decide)).zg,(BD 2147483647 (by decide)).zg,(J9 jJ 32 (by decide)).zg⟩
 z0:=fun k=>by rcases k with _|_|_|_|_|_|_|_|_|_|k<;>first|rfl|exact(BD 2147483647 (by decide)).z0|exact(J9 jJ 32 (by decide)).z0
 len:=fun x k hx=>by
  rcases k with _|_|_|_|_|_|_|_|_|_|k
  ·exact Nat.zero_le _
  ·exact(BD 2147483647 (by decide)).len _ hx.id
  ·exact(BD 2147483647 (by decide)).len _ hx.size
  ·exact(BD 2147483647 (by decide)).len _ hx.lo
  ·exact(BD 2147483647 (by decide)).len _ hx.lw
  ·exact(BD 2147483647 (by decide)).len _ hx.lu
  ·exact(BD 2147483647 (by decide)).len _ hx.so
  ·exact(BD 2147483647 (by decide)).len _ hx.sw
  ·exact(BD 2147483647 (by decide)).len _ hx.ot
  ·exact(J9 jJ 32 (by decide)).len _ hx.arms
  ·exact Nat.zero_le _
 m:=by omega
theorem SL(x:DX):MC x=BQ (zN x) 9 0:=by
 unfold MC
 simp only[IV,P6,AZ,List.nil_append,List.append_assoc,BQ,List.append_nil]
 rfl
def FH:EJ:=⟨0,0,0,0,0⟩
def BC(x:EJ)(a:At):Option EJ:=match a.t with
 | 1=>(AV 2147483647 a.v.data.toList).map fun v=>{x with id:=v}
 | 2=>(DN 255 a.v.data.toList).map fun v=>{x with base:=v}
 | 3=>(AV 2147483647 a.v.data.toList).map fun v=>{x with node:=v}
 | 4=>(AV 2147483647 a.v.data.toList).map fun v=>{x with off:=v}
 | 5=>(AV 2147483647 a.v.data.toList).map fun v=>{x with wid:=v}
 |_=>none
def sH(x:EJ):Nat->List UInt8
 | 1=>EF x.id
 | 2=>TL x.base
 | 3=>EF x.node
 | 4=>EF x.off
 | 5=>EF x.wid
 |_=>[]
structure KX(x:EJ):Prop where
 id:gdI 2147483647 x.id
 base:gdN 255 x.base
 node:gdI 2147483647 x.node
 off:gdI 2147483647 x.off
 wid:gdI 2147483647 x.wid
theorem TS:Sch 5 BC sH KX FH where
 no:=fun y a h=>by
  unfold BC
  split<;>first|rfl|omega
 is:=fun y a y' hy h=>by
  unfold BC at h
  split at h
  ·rename_i ha
   obtain⟨v,hv,rfl⟩:=Option.map_eq_some_iff.1 h
   obtain⟨g1,g2⟩:=(BD 2147483647 (by decide)).ok _ _ hv
   rw[ha]
   exact⟨⟨g1,hy.base,hy.node,hy.off,hy.wid⟩,g2,fun j hj=>by rcases j with _|_|_|_|_|_|j<;>first|rfl|exact absurd rfl hj⟩
  ·rename_i ha
   obtain⟨v,hv,rfl⟩:=Option.map_eq_some_iff.1 h
   obtain⟨g1,g2⟩:=(IE 255 (by decide)).ok _ _ hv
   rw[ha]
   exact⟨⟨hy.id,g1,hy.node,hy.off,hy.wid⟩,g2,fun j hj=>by rcases j with _|_|_|_|_|_|j<;>first|rfl|exact absurd rfl hj⟩
  ·rename_i ha
   obtain⟨v,hv,rfl⟩:=Option.map_eq_some_iff.1 h
   obtain⟨g1,g2⟩:=(BD 2147483647 (by decide)).ok _ _ hv
   rw[ha]
   exact⟨⟨hy.id,hy.base,g1,hy.off,hy.wid⟩,g2,fun j hj=>by rcases j with _|_|_|_|_|_|j<;>first|rfl|exact absurd rfl hj⟩
  ·rename_i ha
   obtain⟨v,hv,rfl⟩:=Option.map_eq_some_iff.1 h
   obtain⟨g1,g2⟩:=(BD 2147483647 (by decide)).ok _ _ hv
   rw[ha]
   exact⟨⟨hy.id,hy.base,hy.node,g1,hy.wid⟩,g2,fun j hj=>by rcases j with _|_|_|_|_|_|j<;>first|rfl|exact absurd rfl hj⟩
  ·rename_i ha
   obtain⟨v,hv,rfl⟩:=Option.map_eq_some_iff.1 h
   obtain⟨g1,g2⟩:=(BD 2147483647 (by decide)).ok _ _ hv
   rw[ha]
   exact⟨⟨hy.id,hy.base,hy.node,hy.off,g1⟩,g2,fun j hj=>by rcases j with _|_|_|_|_|_|j<;>first|rfl|exact absurd rfl hj⟩
  ·cases h
 back:=fun x y k hx h1 h2=>by
  rcases k with _|_|_|_|_|_|k
  ·omega
  ·exact⟨{y with id:=x.id},by show(AV 2147483647 (EF x.id)).map (fun v=>({y with id:=v}:EJ))=_;rw[(BD 2147483647 (by decide)).back _ hx.id];rfl⟩
  ·exact⟨{y with base:=x.base},by show(DN 255 (TL x.base)).map (fun v=>({y with base:=v}:EJ))=_;rw[(IE 255 (by decide)).back _ hx.base];rfl⟩
  ·exact⟨{y with node:=x.node},by show(AV 2147483647 (EF x.node)).map (fun v=>({y with node:=v}:EJ))=_;rw[(BD 2147483647 (by decide)).back _ hx.node];rfl⟩
  ·exact⟨{y with off:=x.off},by show(AV 2147483647 (EF x.off)).map (fun v=>({y with off:=v}:EJ))=_;rw[(BD 2147483647 (by decide)).back _ hx.off];rfl⟩
  ·exact⟨{y with wid:=x.wid},by show(AV 2147483647 (EF x.wid)).map (fun v=>({y with wid:=v}:EJ))=_;rw[(BD 2147483647 (by decide)).back _ hx.wid];rfl⟩
  ·omega
 inj:=fun x y hx hy h=>by
  have e1:=(BD 2147483647 (by decide)).inj hx.id hy.id (h 1 (by omega) (by omega))
  have e2:=(IE 255 (by decide)).inj hx.base hy.base (h 2 (by omega) (by omega))
  have e3:=(BD 2147483647 (by decide)).inj hx.node hy.node (h 3 (by omega) (by omega))
  have e4:=(BD 2147483647 (by decide)).inj hx.off hy.off (h 4 (by omega) (by omega))
  have e5:=(BD 2147483647 (by decide)).inj hx.wid hy.wid (h 5 (by omega) (by omega))
  cases x;cases y
  simp only at e1 e2 e3 e4 e5
  subst e1 e2 e3 e4 e5
  rfl
 z:=⟨(BD 2147483647 (by decide)).zg,(IE 255 (by decide)).zg,(BD 2147483647 (by decide)).zg,(BD 2147483647 (by decide)).zg,(BD 2147483647 (by decide)).zg⟩
 z0:=fun k=>by rcases k with _|_|_|_|_|_|k<;>first|rfl|exact(BD 2147483647 (by decide)).z0|exact(IE 255 (by decide)).z0
 len:=fun x k hx=>by
  rcases k with _|_|_|_|_|_|k
  ·exact Nat.zero_le _
  ·exact(BD 2147483647 (by decide)).len _ hx.id
  ·exact(IE 255 (by decide)).len _ hx.base
  ·exact(BD 2147483647 (by decide)).len _ hx.node
  ·exact(BD 2147483647 (by decide)).len _ hx.off
  ·exact(BD 2147483647 (by decide)).len _ hx.wid
  ·exact Nat.zero_le _
 m:=by omega
theorem QY(x:EJ):JZ x=BQ (sH x) 5 0:=by
 unfold JZ
 simp only[IV,List.nil_append,List.append_assoc,BQ,List.append_nil]
 rfl
def FK:DC:=⟨0,0,[],0,0⟩
def BA(x:DC)(a:At):Option DC:=match a.t with
 | 1=>(AV 2147483647 a.v.data.toList).map fun v=>{x with id:=v}
 | 2=>(DN 255 a.v.data.toList).map fun v=>{x with kind:=v}
 | 3=>(D9 GJ 4 a.v.data.toList).map fun v=>{x with keys:=v}
 | 4=>(AV 2147483647 a.v.data.toList).map fun v=>{x with cap:=v}
 | 5=>(AV 2147483647 a.v.data.toList).map fun v=>{x with miss:=v}
 |_=>none
def sN(x:DC):Nat->List UInt8
 | 1=>EF x.id
 | 2=>TL x.kind
 | 3=>EZ nM x.keys
 | 4=>EF x.cap
 | 5=>EF x.miss
 |_=>[]
structure K3(x:DC):Prop where
 id:gdI 2147483647 x.id
 kind:gdN 255 x.kind
 keys:gdL yY 4 x.keys
 cap:gdI 2147483647 x.cap
 miss:gdI 2147483647 x.miss
theorem TV:Sch 5 BA sN K3 FK where
 no:=fun y a h=>by
  unfold BA
  split<;>first|rfl|omega
 is:=fun y a y' hy h=>by
  unfold BA at h
  split at h
  ·rename_i ha
   obtain⟨v,hv,rfl⟩:=Option.map_eq_some_iff.1 h
   obtain⟨g1,g2⟩:=(BD 2147483647 (by decide)).ok _ _ hv
   rw[ha]
   exact⟨⟨g1,hy.kind,hy.keys,hy.cap,hy.miss⟩,g2,fun j hj=>by rcases j with _|_|_|_|_|_|j<;>first|rfl|exact absurd rfl hj⟩
  ·rename_i ha
   obtain⟨v,hv,rfl⟩:=Option.map_eq_some_iff.1 h
   obtain⟨g1,g2⟩:=(IE 255 (by decide)).ok _ _ hv
   rw[ha]
   exact⟨⟨hy.id,g1,hy.keys,hy.cap,hy.miss⟩,g2,fun j hj=>by rcases j with _|_|_|_|_|_|j<;>first|rfl|exact absurd rfl hj⟩
  ·rename_i ha
   obtain⟨v,hv,rfl⟩:=Option.map_eq_some_iff.1 h
   obtain⟨g1,g2⟩:=(J9 jK 4 (by decide)).ok _ _ hv
   rw[ha]
   exact⟨⟨hy.id,hy.kind,g1,hy.cap,hy.miss⟩,g2,fun j hj=>by rcases j with _|_|_|_|_|_|j<;>first|rfl|exact absurd rfl hj⟩
  ·rename_i ha
   obtain⟨v,hv,rfl⟩:=Option.map_eq_some_iff.1 h
   obtain⟨g1,g2⟩:=(BD 2147483647 (by decide)).ok _ _ hv
   rw[ha]
   exact⟨⟨hy.id,hy.kind,hy.keys,g1,hy.miss⟩,g2,fun j hj=>by rcases j with _|_|_|_|_|_|j<;>first|rfl|exact absurd rfl hj⟩
  ·rename_i ha
   obtain⟨v,hv,rfl⟩:=Option.map_eq_some_iff.1 h
   obtain⟨g1,g2⟩:=(BD 2147483647 (by decide)).ok _ _ hv
   rw[ha]
   exact⟨⟨hy.id,hy.kind,hy.keys,hy.cap,g1⟩,g2,fun j hj=>by rcases j with _|_|_|_|_|_|j<;>first|rfl|exact absurd rfl hj⟩
  ·cases h
 back:=fun x y k hx h1 h2=>by
  rcases k with _|_|_|_|_|_|k
  ·omega
  ·exact⟨{y with id:=x.id},by show(AV 2147483647 (EF x.id)).map (fun v=>({y with id:=v}:DC))=_;rw[(BD 2147483647 (by decide)).back _ hx.id];rfl⟩
  ·exact⟨{y with kind:=x.kind},by show(DN 255 (TL x.kind)).map (fun v=>({y with kind:=v}:DC))=_;rw[(IE 255 (by decide)).back _ hx.kind];rfl⟩
  ·exact⟨{y with keys:=x.keys},by show(D9 GJ 4 (EZ nM x.keys)).map (fun v=>({y with keys:=v}:DC))=_;rw[(J9 jK 4 (by decide)).back _ hx.keys];rfl⟩
  ·exact⟨{y with cap:=x.cap},by show(AV 2147483647 (EF x.cap)).map (fun v=>({y with cap:=v}:DC))=_;rw[(BD 2147483647 (by decide)).back _ hx.cap];rfl⟩
  ·exact⟨{y with miss:=x.miss},by show(AV 2147483647 (EF x.miss)).map (fun v=>({y with miss:=v}:DC))=_;rw[(BD 2147483647 (by decide)).back _ hx.miss];rfl⟩
  ·omega
 inj:=fun x y hx hy h=>by
  have e1:=(BD 2147483647 (by decide)).inj hx.id hy.id (h 1 (by omega) (by omega))
  have e2:=(IE 255 (by decide)).inj hx.kind hy.kind (h 2 (by omega) (by omega))
  have e3:=(J9 jK 4 (by decide)).inj hx.keys hy.keys (h 3 (by omega) (by omega))
  have e4:=(BD 2147483647 (by decide)).inj hx.cap hy.cap (h 4 (by omega) (by omega))
  have e5:=(BD 2147483647 (by decide)).inj hx.miss hy.miss (h 5 (by omega) (by omega))
  cases x;cases y
  simp only at e1 e2 e3 e4 e5
  subst e1 e2 e3 e4 e5
  rfl
 z:=⟨(BD 2147483647 (by decide)).zg,(IE 255 (by decide)).zg,(J9 jK 4 (by decide)).zg,(BD 2147483647 (by decide)).zg,(BD 2147483647 (by decide)).zg⟩
 z0:=fun k=>by rcases k with _|_|_|_|_|_|k<;>first|rfl|exact(BD 2147483647 (by decide)).z0|exact(IE 255 (by decide)).z0|exact(J9 jK 4 (by decide)).z0
 len:=fun x k hx=>by
  rcases k with _|_|_|_|_|_|k
  ·exact Nat.zero_le _
  ·exact(BD 2147483647 (by decide)).len _ hx.id
  ·exact(IE 255 (by decide)).len _ hx.kind
  ·exact(J9 jK 4 (by decide)).len _ hx.keys
  ·exact(BD 2147483647 (by decide)).len _ hx.cap
  ·exact(BD 2147483647 (by decide)).len _ hx.miss
  ·exact Nat.zero_le _
 m:=by omega
theorem Q3(x:DC):J4 x=BQ (sN x) 5 0:=by
 unfold J4
 simp only[IV,P6,AZ,List.nil_append,List.append_assoc,BQ,List.append_nil]
 rfl
def FE:CJ:=⟨0,bytesOf [],bytesOf [],0,0,0,[],0,0,0,false⟩
def AP(x:CJ)(a:At):Option CJ:=match a.t with
 | 1=>(AV 2147483647 a.v.data.toList).map fun v=>{x with tab:=v}
 | 2=>(R8 32 a.v.data.toList).map fun v=>{x with key:=v}
 | 3=>(R8 32 a.v.data.toList).map fun v=>{x with oth:=v}
 | 4=>(AV 2147483647 a.v.data.toList).map fun v=>{x with len:=v}
 | 5=>(AV 2147483647 a.v.data.toList).map fun v=>{x with prio:=v}
 | 6=>(AV 2147483647 a.v.data.toList).map fun v=>{x with blk:=v}
 | 7=>(D9 ET 4 a.v.data.toList).map fun v=>{x with args:=v}
 | 8=>(AV 9223372036854775807 a.v.data.toList).map fun v=>{x with idle:=v}
 | 9=>(AV 9223372036854775807 a.v.data.toList).map fun v=>{x with hard:=v}
 | 10=>(DN 18446744073709551615 a.v.data.toList).map fun v=>{x with cook:=v}
 | 11=>(ZN a.v.data.toList).map fun v=>{x with tell:=v}
 |_=>none
def sG(x:CJ):Nat->List UInt8
 | 1=>EF x.tab
 | 2=>sM x.key
 | 3=>sM x.oth
 | 4=>EF x.len
 | 5=>EF x.prio
 | 6=>EF x.blk
 | 7=>EZ OB x.args
 | 8=>EF x.idle
 | 9=>EF x.hard
 | 10=>gQ x.cook
 | 11=>wC x.tell
 |_=>[]
structure KW(x:CJ):Prop where
 tab:gdI 2147483647 x.tab
 key:gdS 32 x.key
 oth:gdS 32 x.oth
 len:gdI 2147483647 x.len
 prio:gdI 2147483647 x.prio
 blk:gdI 2147483647 x.blk
 args:gdL XL 4 x.args
 idle:gdI 9223372036854775807 x.idle
 hard:gdI 9223372036854775807 x.hard
 cook:gdN 18446744073709551615 x.cook
 tell:gdB x.tell
theorem TQ:Sch 11 AP sG KW FE where
 no:=fun y a h=>by
  unfold AP
  split<;>first|rfl|omega
 is:=fun y a y' hy h=>by
  unfold AP at h
  split at h
  ·rename_i ha
   obtain⟨v,hv,rfl⟩:=Option.map_eq_some_iff.1 h
   obtain⟨g1,g2⟩:=(BD 2147483647 (by decide)).ok _ _ hv
   rw[ha]
   exact⟨⟨g1,hy.key,hy.oth,hy.len,hy.prio,hy.blk,hy.args,hy.idle,hy.hard,hy.cook,hy.tell⟩,g2,fun j hj=>by rcases j with _|_|_|_|_|_|_|_|_|_|_|_|j<;>first|rfl|exact absurd rfl hj⟩
  ·rename_i ha
   obtain⟨v,hv,rfl⟩:=Option.map_eq_some_iff.1 h
   obtain⟨g1,g2⟩:=(cO 32 (by decide)).ok _ _ hv
   rw[ha]
   exact⟨⟨hy.tab,g1,hy.oth,hy.len,hy.prio,hy.blk,hy.args,hy.idle,hy.hard,hy.cook,hy.tell⟩,g2,fun j hj=>by rcases j with _|_|_|_|_|_|_|_|_|_|_|_|j<;>first|rfl|exact absurd rfl hj⟩
  ·rename_i ha
   obtain⟨v,hv,rfl⟩:=Option.map_eq_some_iff.1 h
   obtain⟨g1,g2⟩:=(cO 32 (by decide)).ok _ _ hv
   rw[ha]
   exact⟨⟨hy.tab,hy.key,g1,hy.len,hy.prio,hy.blk,hy.args,hy.idle,hy.hard,hy.cook,hy.tell⟩,g2,fun j hj=>by rcases j with _|_|_|_|_|_|_|_|_|_|_|_|j<;>first|rfl|exact absurd rfl hj⟩
  ·rename_i ha
   obtain⟨v,hv,rfl⟩:=Option.map_eq_some_iff.1 h
   obtain⟨g1,g2⟩:=(BD 2147483647 (by decide)).ok _ _ hv
   rw[ha]
   exact⟨⟨hy.tab,hy.key,hy.oth,g1,hy.prio,hy.blk,hy.args,hy.idle,hy.hard,hy.cook,hy.tell⟩,g2,fun j hj=>by rcases j with _|_|_|_|_|_|_|_|_|_|_|_|j<;>first|rfl|exact absurd rfl hj⟩
  ·rename_i ha
   obtain⟨v,hv,rfl⟩:=Option.map_eq_some_iff.1 h
   obtain⟨g1,g2⟩:=(BD 2147483647 (by decide)).ok _ _ hv
   rw[ha]
   exact⟨⟨hy.tab,hy.key,hy.oth,hy.len,g1,hy.blk,hy.args,hy.idle,hy.hard,hy.cook,hy.tell⟩,g2,fun j hj=>by rcases j with _|_|_|_|_|_|_|_|_|_|_|_|j<;>first|rfl|exact absurd rfl hj⟩
  ·rename_i ha
   obtain⟨v,hv,rfl⟩:=Option.map_eq_some_iff.1 h
   obtain⟨g1,g2⟩:=(BD 2147483647 (by decide)).ok _ _ hv
   rw[ha]
   exact⟨⟨hy.tab,hy.key,hy.oth,hy.len,hy.prio,g1,hy.args,hy.idle,hy.hard,hy.cook,hy.tell⟩,g2,fun j hj=>by rcases j with _|_|_|_|_|_|_|_|_|_|_|_|j<;>first|rfl|exact absurd rfl hj⟩
  ·rename_i ha
   obtain⟨v,hv,rfl⟩:=Option.map_eq_some_iff.1 h
   obtain⟨g1,g2⟩:=(J9 U5 4 (by decide)).ok _ _ hv
   rw[ha]
   exact⟨⟨hy.tab,hy.key,hy.oth,hy.len,hy.prio,hy.blk,g1,hy.idle,hy.hard,hy.cook,hy.tell⟩,g2,fun j hj=>by rcases j with _|_|_|_|_|_|_|_|_|_|_|_|j<;>first|rfl|exact absurd rfl hj⟩
  ·rename_i ha
   obtain⟨v,hv,rfl⟩:=Option.map_eq_some_iff.1 h
   obtain⟨g1,g2⟩:=(BD 9223372036854775807 (by decide)).ok _ _ hv
   rw[ha]
   exact⟨⟨hy.tab,hy.key,hy.oth,hy.len,hy.prio,hy.blk,hy.args,g1,hy.hard,hy.cook,hy.tell⟩,g2,fun j hj=>by rcases j with _|_|_|_|_|_|_|_|_|_|_|_|j<;>first|rfl|exact absurd rfl hj⟩
  ·rename_i ha
   obtain⟨v,hv,rfl⟩:=Option.map_eq_some_iff.1 h
   obtain⟨g1,g2⟩:=(BD 9223372036854775807 (by decide)).ok _ _ hv
   rw[ha]
   exact⟨⟨hy.tab,hy.key,hy.oth,hy.len,hy.prio,hy.blk,hy.args,hy.idle,g1,hy.cook,hy.tell⟩,g2,fun j hj=>by rcases j with _|_|_|_|_|_|_|_|_|_|_|_|j<;>first|rfl|exact absurd rfl hj⟩
  ·rename_i ha
   obtain⟨v,hv,rfl⟩:=Option.map_eq_some_iff.1 h
   obtain⟨g1,g2⟩:=(KT 18446744073709551615 (by decide)).ok _ _ hv
   rw[ha]
   exact⟨⟨hy.tab,hy.key,hy.oth,hy.len,hy.prio,hy.blk,hy.args,hy.idle,hy.hard,g1,hy.tell⟩,g2,fun j hj=>by rcases j with _|_|_|_|_|_|_|_|_|_|_|_|j<;>first|rfl|exact absurd rfl hj⟩
  ·rename_i ha
   obtain⟨v,hv,rfl⟩:=Option.map_eq_some_iff.1 h
   obtain⟨g1,g2⟩:=AAA.ok _ _ hv
   rw[ha]
   exact⟨⟨hy.tab,hy.key,hy.oth,hy.len,hy.prio,hy.blk,hy.args,hy.idle,hy.hard,hy.cook,g1⟩,g2,fun j hj=>by rcases j with _|_|_|_|_|_|_|_|_|_|_|_|j<;>first|rfl|exact absurd rfl hj⟩
  ·cases h
 back:=fun x y k hx h1 h2=>by
  rcases k with _|_|_|_|_|_|_|_|_|_|_|_|k
  ·omega
  ·exact⟨{y with tab:=x.tab},by show(AV 2147483647 (EF x.tab)).map (fun v=>({y with tab:=v}:CJ))=_;rw[(BD 2147483647 (by decide)).back _ hx.tab];rfl⟩
  ·exact⟨{y with key:=x.key},by show(R8 32 (sM x.key)).map (fun v=>({y with key:=v}:CJ))=_;rw[(cO 32 (by decide)).back _ hx.key];rfl⟩
  ·exact⟨{y with oth:=x.oth},by show(R8 32 (sM x.oth)).map (fun v=>({y with oth:=v}:CJ))=_;rw[(cO 32 (by decide)).back _ hx.oth];rfl⟩
  ·exact⟨{y with len:=x.len},by show(AV 2147483647 (EF x.len)).map (fun v=>({y with len:=v}:CJ))=_;rw[(BD 2147483647 (by decide)).back _ hx.len];rfl⟩
  ·exact⟨{y with prio:=x.prio},by show(AV 2147483647 (EF x.prio)).map (fun v=>({y with prio:=v}:CJ))=_;rw[(BD 2147483647 (by decide)).back _ hx.prio];rfl⟩
  ·exact⟨{y with blk:=x.blk},by show(AV 2147483647 (EF x.blk)).map (fun v=>({y with blk:=v}:CJ))=_;rw[(BD 2147483647 (by decide)).back _ hx.blk];rfl⟩
  ·exact⟨{y with args:=x.args},by show(D9 ET 4 (EZ OB x.args)).map (fun v=>({y with args:=v}:CJ))=_;rw[(J9 U5 4 (by decide)).back _ hx.args];rfl⟩
  ·exact⟨{y with idle:=x.idle},by show(AV 9223372036854775807 (EF x.idle)).map (fun v=>({y with idle:=v}:CJ))=_;rw[(BD 9223372036854775807 (by decide)).back _ hx.idle];rfl⟩
  ·exact⟨{y with hard:=x.hard},by show(AV 9223372036854775807 (EF x.hard)).map (fun v=>({y with hard:=v}:CJ))=_;rw[(BD 9223372036854775807 (by decide)).back _ hx.hard];rfl⟩
  ·exact⟨{y with cook:=x.cook},by show(DN 18446744073709551615 (gQ x.cook)).map (fun v=>({y with cook:=v}:CJ))=_;rw[(KT 18446744073709551615 (by decide)).back _ hx.cook];rfl⟩
  ·exact⟨{y with tell:=x.tell},by show(ZN (wC x.tell)).map (fun v=>({y with tell:=v}:CJ))=_;rw[AAA.back _ hx.tell];rfl⟩
  ·omega
 inj:=fun x y hx hy h=>by
  have e1:=(BD 2147483647 (by decide)).inj hx.tab hy.tab (h 1 (by omega) (by omega))
  have e2:=(cO 32 (by decide)).inj hx.key hy.key (h 2 (by omega) (by omega))
  have e3:=(cO 32 (by decide)).inj hx.oth hy.oth (h 3 (by omega) (by omega))
  have e4:=(BD 2147483647 (by decide)).inj hx.len hy.len (h 4 (by omega) (by omega))
  have e5:=(BD 2147483647 (by decide)).inj hx.prio hy.prio (h 5 (by omega) (by omega))
  have e6:=(BD 2147483647 (by decide)).inj hx.blk hy.blk (h 6 (by omega) (by omega))
  have e7:=(J9 U5 4 (by decide)).inj hx.args hy.args (h 7 (by omega) (by omega))
  have e8:=(BD 9223372036854775807 (by decide)).inj hx.idle hy.idle (h 8 (by omega) (by omega))
  have e9:=(BD 9223372036854775807 (by decide)).inj hx.hard hy.hard (h 9 (by omega) (by omega))
  have e10:=(KT 18446744073709551615 (by decide)).inj hx.cook hy.cook (h 10 (by omega) (by omega))
  have e11:=AAA.inj hx.tell hy.tell (h 11 (by omega) (by omega))
  cases x;cases y
  simp only at e1 e2 e3 e4 e5 e6 e7 e8 e9 e10 e11
  subst e1 e2 e3 e4 e5 e6 e7 e8 e9 e10 e11
  rfl
 z:=⟨(BD 2147483647 (by decide)).zg,(cO 32 (by decide)).zg,(cO 32 (by decide)).zg,(BD 2147483647 (by decide)).zg,(BD 2147483647 (by decide)).zg,(BD 2147483647 (by decide)).zg,(J9 U5 4 (by decide)).zg,(BD 9223372036854775807 (by decide)).zg,(BD 9223372036854775807 (by decide)).zg,(KT 18446744073709551615 (by decide)).zg,AAA.zg⟩
 z0:=fun k=>by rcases k with _|_|_|_|_|_|_|_|_|_|_|_|k<;>first|rfl|exact(BD 2147483647 (by decide)).z0|exact(cO 32 (by decide)).z0|exact(J9 U5 4 (by decide)).z0|exact(BD 9223372036854775807 (by decide)).z0|exact(KT 18446744073709551615 (by decide)).z0|exact AAA.z0
 len:=fun x k hx=>by
  rcases k with _|_|_|_|_|_|_|_|_|_|_|_|k
  ·exact Nat.zero_le _
  ·exact(BD 2147483647 (by decide)).len _ hx.tab
  ·exact(cO 32 (by decide)).len _ hx.key
  ·exact(cO 32 (by decide)).len _ hx.oth
  ·exact(BD 2147483647 (by decide)).len _ hx.len
  ·exact(BD 2147483647 (by decide)).len _ hx.prio
  ·exact(BD 2147483647 (by decide)).len _ hx.blk
  ·exact(J9 U5 4 (by decide)).len _ hx.args
  ·exact(BD 9223372036854775807 (by decide)).len _ hx.idle
  ·exact(BD 9223372036854775807 (by decide)).len _ hx.hard
  ·exact(KT 18446744073709551615 (by decide)).len _ hx.cook
  ·exact AAA.len _ hx.tell
  ·exact Nat.zero_le _
 m:=by omega
theorem QX(x:CJ):JY x=BQ (sG x) 11 0:=by
 unfold JY
 simp only[IV,P6,AZ,ABW,List.nil_append,List.append_assoc,BQ,List.append_nil]
 rfl
def FD:D6:=⟨0,[]⟩
def stepBlock(x:D6)(a:At):Option D6:=match a.t with
 | 1=>(AV 2147483647 a.v.data.toList).map fun v=>{x with id:=v}
 | 2=>(D9 DV 32 a.v.data.toList).map fun v=>{x with code:=v}
 |_=>none
def sF(x:D6):Nat->List UInt8
 | 1=>EF x.id
 | 2=>EZ TG x.code
 |_=>[]
structure KV(x:D6):Prop where
 id:gdI 2147483647 x.id
 code:gdL YQ 32 x.code
theorem TP:Sch 2 stepBlock sF KV FD where
 no:=fun y a h=>by
  unfold stepBlock
  split<;>first|rfl|omega
 is:=fun y a y' hy h=>by
  unfold stepBlock at h
  split at h
  ·rename_i ha
   obtain⟨v,hv,rfl⟩:=Option.map_eq_some_iff.1 h
   obtain⟨g1,g2⟩:=(BD 2147483647 (by decide)).ok _ _ hv
   rw[ha]
   exact⟨⟨g1,hy.code⟩,g2,fun j hj=>by rcases j with _|_|_|j<;>first|rfl|exact absurd rfl hj⟩
  ·rename_i ha
   obtain⟨v,hv,rfl⟩:=Option.map_eq_some_iff.1 h
   obtain⟨g1,g2⟩:=(J9 UO 32 (by decide)).ok _ _ hv
   rw[ha]
   exact⟨⟨hy.id,g1⟩,g2,fun j hj=>by rcases j with _|_|_|j<;>first|rfl|exact absurd rfl hj⟩
  ·cases h
 back:=fun x y k hx h1 h2=>by
  rcases k with _|_|_|k
  ·omega
  ·exact⟨{y with id:=x.id},by show(AV 2147483647 (EF x.id)).map (fun v=>({y with id:=v}:D6))=_;rw[(BD 2147483647 (by decide)).back _ hx.id];rfl⟩
  ·exact⟨{y with code:=x.code},by show(D9 DV 32 (EZ TG x.code)).map (fun v=>({y with code:=v}:D6))=_;rw[(J9 UO 32 (by decide)).back _ hx.code];rfl⟩
  ·omega
 inj:=fun x y hx hy h=>by
  have e1:=(BD 2147483647 (by decide)).inj hx.id hy.id (h 1 (by omega) (by omega))
  have e2:=(J9 UO 32 (by decide)).inj hx.code hy.code (h 2 (by omega) (by omega))
  cases x;cases y
  simp only at e1 e2
  subst e1 e2
  rfl
 z:=⟨(BD 2147483647 (by decide)).zg,(J9 UO 32 (by decide)).zg⟩
 z0:=fun k=>by rcases k with _|_|_|k<;>first|rfl|exact(BD 2147483647 (by decide)).z0|exact(J9 UO 32 (by decide)).z0
 len:=fun x k hx=>by
  rcases k with _|_|_|k
  ·exact Nat.zero_le _
  ·exact(BD 2147483647 (by decide)).len _ hx.id
  ·exact(J9 UO 32 (by decide)).len _ hx.code
  ·exact Nat.zero_le _
 m:=by omega
theorem QW(x:D6):JX x=BQ (sF x) 2 0:=by
 unfold JX
 simp only[IV,P6,AZ,List.nil_append,BQ,List.append_nil]
 rfl
def FI:DL:=⟨0,0,0,[]⟩
def BF(x:DL)(a:At):Option DL:=match a.t with
 | 1=>(AV 2147483647 a.v.data.toList).map fun v=>{x with id:=v}
 | 2=>(DN 255 a.v.data.toList).map fun v=>{x with kind:=v}
 | 3=>(AV 2147483647 a.v.data.toList).map fun v=>{x with fld:=v}
 | 4=>(D9 CX 16 a.v.data.toList).map fun v=>{x with bks:=v}
 |_=>none
def sI(x:DL):Nat->List UInt8
 | 1=>EF x.id
 | 2=>TL x.kind
 | 3=>EF x.fld
 | 4=>EZ QH x.bks
 |_=>[]
structure KY(x:DL):Prop where
 id:gdI 2147483647 x.id
 kind:gdN 255 x.kind
 fld:gdI 2147483647 x.fld
 bks:gdL VS 16 x.bks
theorem TT:Sch 4 BF sI KY FI where
 no:=fun y a h=>by
  unfold BF
  split<;>first|rfl|omega
 is:=fun y a y' hy h=>by
  unfold BF at h
  split at h
  ·rename_i ha
   obtain⟨v,hv,rfl⟩:=Option.map_eq_some_iff.1 h
   obtain⟨g1,g2⟩:=(BD 2147483647 (by decide)).ok _ _ hv
   rw[ha]
   exact⟨⟨g1,hy.kind,hy.fld,hy.bks⟩,g2,fun j hj=>by rcases j with _|_|_|_|_|j<;>first|rfl|exact absurd rfl hj⟩
  ·rename_i ha
   obtain⟨v,hv,rfl⟩:=Option.map_eq_some_iff.1 h
   obtain⟨g1,g2⟩:=(IE 255 (by decide)).ok _ _ hv
   rw[ha]
   exact⟨⟨hy.id,g1,hy.fld,hy.bks⟩,g2,fun j hj=>by rcases j with _|_|_|_|_|j<;>first|rfl|exact absurd rfl hj⟩
  ·rename_i ha
   obtain⟨v,hv,rfl⟩:=Option.map_eq_some_iff.1 h
   obtain⟨g1,g2⟩:=(BD 2147483647 (by decide)).ok _ _ hv
   rw[ha]
   exact⟨⟨hy.id,hy.kind,g1,hy.bks⟩,g2,fun j hj=>by rcases j with _|_|_|_|_|j<;>first|rfl|exact absurd rfl hj⟩
  ·rename_i ha
   obtain⟨v,hv,rfl⟩:=Option.map_eq_some_iff.1 h
   obtain⟨g1,g2⟩:=(J9 QA 16 (by decide)).ok _ _ hv
   rw[ha]
   exact⟨⟨hy.id,hy.kind,hy.fld,g1⟩,g2,fun j hj=>by rcases j with _|_|_|_|_|j<;>first|rfl|exact absurd rfl hj⟩
  ·cases h
 back:=fun x y k hx h1 h2=>by
  rcases k with _|_|_|_|_|k
  ·omega
  ·exact⟨{y with id:=x.id},by show(AV 2147483647 (EF x.id)).map (fun v=>({y with id:=v}:DL))=_;rw[(BD 2147483647 (by decide)).back _ hx.id];rfl⟩
  ·exact⟨{y with kind:=x.kind},by show(DN 255 (TL x.kind)).map (fun v=>({y with kind:=v}:DL))=_;rw[(IE 255 (by decide)).back _ hx.kind];rfl⟩
  ·exact⟨{y with fld:=x.fld},by show(AV 2147483647 (EF x.fld)).map (fun v=>({y with fld:=v}:DL))=_;rw[(BD 2147483647 (by decide)).back _ hx.fld];rfl⟩
  ·exact⟨{y with bks:=x.bks},by show(D9 CX 16 (EZ QH x.bks)).map (fun v=>({y with bks:=v}:DL))=_;rw[(J9 QA 16 (by decide)).back _ hx.bks];rfl⟩
  ·omega
 inj:=fun x y hx hy h=>by
  have e1:=(BD 2147483647 (by decide)).inj hx.id hy.id (h 1 (by omega) (by omega))
  have e2:=(IE 255 (by decide)).inj hx.kind hy.kind (h 2 (by omega) (by omega))
  have e3:=(BD 2147483647 (by decide)).inj hx.fld hy.fld (h 3 (by omega) (by omega))
  have e4:=(J9 QA 16 (by decide)).inj hx.bks hy.bks (h 4 (by omega) (by omega))
  cases x;cases y
  simp only at e1 e2 e3 e4
  subst e1 e2 e3 e4
  rfl
 z:=⟨(BD 2147483647 (by decide)).zg,(IE 255 (by decide)).zg,(BD 2147483647 (by decide)).zg,(J9 QA 16 (by decide)).zg⟩
 z0:=fun k=>by rcases k with _|_|_|_|_|k<;>first|rfl|exact(BD 2147483647 (by decide)).z0|exact(IE 255 (by decide)).z0|exact(J9 QA 16 (by decide)).z0
 len:=fun x k hx=>by
  rcases k with _|_|_|_|_|k
  ·exact Nat.zero_le _
  ·exact(BD 2147483647 (by decide)).len _ hx.id
  ·exact(IE 255 (by decide)).len _ hx.kind
  ·exact(BD 2147483647 (by decide)).len _ hx.fld
  ·exact(J9 QA 16 (by decide)).len _ hx.bks
  ·exact Nat.zero_le _
 m:=by omega
theorem QZ(x:DL):J2 x=BQ (sI x) 4 0:=by
 unfold J2
 simp only[IV,P6,AZ,List.nil_append,List.append_assoc,BQ,List.append_nil]
 rfl
def FJ:EQ:=⟨0,0,0⟩
def BL(x:EQ)(a:At):Option EQ:=match a.t with
 | 1=>(AV 2147483647 a.v.data.toList).map fun v=>{x with id:=v}
 | 2=>(AV 9223372036854775807 a.v.data.toList).map fun v=>{x with rate:=v}
 | 3=>(AV 9223372036854775807 a.v.data.toList).map fun v=>{x with burst:=v}
 |_=>none
def sK(x:EQ):Nat->List UInt8
 | 1=>EF x.id
 | 2=>EF x.rate
 | 3=>EF x.burst
 |_=>[]
structure KZ(x:EQ):Prop where
 id:gdI 2147483647 x.id
 rate:gdI 9223372036854775807 x.rate
 burst:gdI 9223372036854775807 x.burst
theorem TU:Sch 3 BL sK KZ FJ where
 no:=fun y a h=>by
  unfold BL
  split<;>first|rfl|omega
 is:=fun y a y' hy h=>by
  unfold BL at h
  split at h
  ·rename_i ha
   obtain⟨v,hv,rfl⟩:=Option.map_eq_some_iff.1 h
   obtain⟨g1,g2⟩:=(BD 2147483647 (by decide)).ok _ _ hv
   rw[ha]
   exact⟨⟨g1,hy.rate,hy.burst⟩,g2,fun j hj=>by rcases j with _|_|_|_|j<;>first|rfl|exact absurd rfl hj⟩
  ·rename_i ha
   obtain⟨v,hv,rfl⟩:=Option.map_eq_some_iff.1 h
   obtain⟨g1,g2⟩:=(BD 9223372036854775807 (by decide)).ok _ _ hv
   rw[ha]
   exact⟨⟨hy.id,g1,hy.burst⟩,g2,fun j hj=>by rcases j with _|_|_|_|j<;>first|rfl|exact absurd rfl hj⟩
  ·rename_i ha
   obtain⟨v,hv,rfl⟩:=Option.map_eq_some_iff.1 h
   obtain⟨g1,g2⟩:=(BD 9223372036854775807 (by decide)).ok _ _ hv
   rw[ha]
   exact⟨⟨hy.id,hy.rate,g1⟩,g2,fun j hj=>by rcases j with _|_|_|_|j<;>first|rfl|exact absurd rfl hj⟩
  ·cases h
 back:=fun x y k hx h1 h2=>by
  rcases k with _|_|_|_|k
  ·omega
  ·exact⟨{y with id:=x.id},by show(AV 2147483647 (EF x.id)).map (fun v=>({y with id:=v}:EQ))=_;rw[(BD 2147483647 (by decide)).back _ hx.id];rfl⟩
  ·exact⟨{y with rate:=x.rate},by show(AV 9223372036854775807 (EF x.rate)).map (fun v=>({y with rate:=v}:EQ))=_;rw[(BD 9223372036854775807 (by decide)).back _ hx.rate];rfl⟩
  ·exact⟨{y with burst:=x.burst},by show(AV 9223372036854775807 (EF x.burst)).map (fun v=>({y with burst:=v}:EQ))=_;rw[(BD 9223372036854775807 (by decide)).back _ hx.burst];rfl⟩
  ·omega
 inj:=fun x y hx hy h=>by
  have e1:=(BD 2147483647 (by decide)).inj hx.id hy.id (h 1 (by omega) (by omega))
  have e2:=(BD 9223372036854775807 (by decide)).inj hx.rate hy.rate (h 2 (by omega) (by omega))
  have e3:=(BD 9223372036854775807 (by decide)).inj hx.burst hy.burst (h 3 (by omega) (by omega))
  cases x;cases y
  simp only at e1 e2 e3
  subst e1 e2 e3
  rfl
 z:=⟨(BD 2147483647 (by decide)).zg,(BD 9223372036854775807 (by decide)).zg,(BD 9223372036854775807 (by decide)).zg⟩
 z0:=fun k=>by rcases k with _|_|_|_|k<;>first|rfl|exact(BD 2147483647 (by decide)).z0|exact(BD 9223372036854775807 (by decide)).z0
 len:=fun x k hx=>by
  rcases k with _|_|_|_|k
  ·exact Nat.zero_le _
  ·exact(BD 2147483647 (by decide)).len _ hx.id
  ·exact(BD 9223372036854775807 (by decide)).len _ hx.rate
  ·exact(BD 9223372036854775807 (by decide)).len _ hx.burst
  ·exact Nat.zero_le _
 m:=by omega
theorem Q0(x:EQ):J3 x=BQ (sK x) 3 0:=by
 unfold J3
 simp only[IV,List.nil_append,List.append_assoc,BQ,List.append_nil]
 rfl
def GU:GR:=⟨0,0⟩
def CB(x:GR)(a:At):Option GR:=match a.t with
 | 1=>(AV 2147483647 a.v.data.toList).map fun v=>{x with id:=v}
 | 2=>(AV 2147483647 a.v.data.toList).map fun v=>{x with size:=v}
 |_=>none
def zO(x:GR):Nat->List UInt8
 | 1=>EF x.id
 | 2=>EF x.size
 |_=>[]
structure N7(x:GR):Prop where
 id:gdI 2147483647 x.id
 size:gdI 2147483647 x.size
theorem X8:Sch 2 CB zO N7 GU where
 no:=fun y a h=>by
  unfold CB
  split<;>first|rfl|omega
 is:=fun y a y' hy h=>by
  unfold CB at h
  split at h
  ·rename_i ha
   obtain⟨v,hv,rfl⟩:=Option.map_eq_some_iff.1 h
   obtain⟨g1,g2⟩:=(BD 2147483647 (by decide)).ok _ _ hv
   rw[ha]
   exact⟨⟨g1,hy.size⟩,g2,fun j hj=>by rcases j with _|_|_|j<;>first|rfl|exact absurd rfl hj⟩
  ·rename_i ha
   obtain⟨v,hv,rfl⟩:=Option.map_eq_some_iff.1 h
   obtain⟨g1,g2⟩:=(BD 2147483647 (by decide)).ok _ _ hv
   rw[ha]
   exact⟨⟨hy.id,g1⟩,g2,fun j hj=>by rcases j with _|_|_|j<;>first|rfl|exact absurd rfl hj⟩
  ·cases h
 back:=fun x y k hx h1 h2=>by
  rcases k with _|_|_|k
  ·omega
  ·exact⟨{y with id:=x.id},by show(AV 2147483647 (EF x.id)).map (fun v=>({y with id:=v}:GR))=_;rw[(BD 2147483647 (by decide)).back _ hx.id];rfl⟩
  ·exact⟨{y with size:=x.size},by show(AV 2147483647 (EF x.size)).map (fun v=>({y with size:=v}:GR))=_;rw[(BD 2147483647 (by decide)).back _ hx.size];rfl⟩
  ·omega
 inj:=fun x y hx hy h=>by
  have e1:=(BD 2147483647 (by decide)).inj hx.id hy.id (h 1 (by omega) (by omega))
  have e2:=(BD 2147483647 (by decide)).inj hx.size hy.size (h 2 (by omega) (by omega))
  cases x;cases y
  simp only at e1 e2
  subst e1 e2
  rfl
 z:=⟨(BD 2147483647 (by decide)).zg,(BD 2147483647 (by decide)).zg⟩
 z0:=fun k=>by rcases k with _|_|_|k<;>first|rfl|exact(BD 2147483647 (by decide)).z0
 len:=fun x k hx=>by
  rcases k with _|_|_|k
  ·exact Nat.zero_le _
  ·exact(BD 2147483647 (by decide)).len _ hx.id
  ·exact(BD 2147483647 (by decide)).len _ hx.size
  ·exact Nat.zero_le _
 m:=by omega
theorem SN(x:GR):MF x=BQ (zO x) 2 0:=by
 unfold MF
 simp only[IV,List.nil_append,BQ,List.append_nil]
 rfl
end Go.Tlv
