/- . -/
import Derived.Test.YtblbaohcelldpaaGreatDoorS4
set_option linter.all false
namespace Go.Tlv
open Go Go.Abs
structure Cod{β:Type}(get:List UInt8->Option β)(put:β->List UInt8)(good:β->Prop)(z:β):Prop where
 back:∀a,good a->get (put a)=some a
 ok:∀s a,get s=some a->good a/\put a=s
 len:∀a,good a->(put a).length<=65535
 z0:put z=[]
 zg:good z
theorem Cod.inj{β:Type}{get:List UInt8->Option β}{put:β->List UInt8}{good:β->Prop}{z:β}(C:Cod get put good z){a b:β}(ha:good a)(hb:good b)(h:put a=put b):a=b:=by
 have h1:=C.back a ha
 rw[h,C.back b hb]at h1
 simp only[Option.some.injEq]at h1;exact h1.symm
theorem bW{n:Nat}(h:n<18446744073709551616):A8 (n:Int)=n:=by unfold A8;omega
theorem lt8{n:Nat}(h:n<18446744073709551616):n<256 ^ 8:=by
 have h3:(256:Nat) ^ 8=18446744073709551616:=by decide
 omega
theorem X6{n:Nat}(h:n<18446744073709551616):(EK n).length<=65535:=Nat.le_trans (kM (k:=8) (lt8 h)) (by omega)
def BD(top:Nat)(s:List UInt8):Option Int:=(UZ s top).map (fun n:Nat=>(n:Int))
def FN(v:Int):List UInt8:=EK (A8 v)
def gdI(top:Nat)(v:Int):Prop:=0<=v/\v<=(top:Int)
theorem BP(top:Nat)(h:top<18446744073709551616):Cod (BD top) FN (gdI top) 0 where
 back:=fun a ⟨h1,h2⟩=>by
  obtain⟨m,rfl⟩:=Int.eq_ofNat_of_zero_le h1
  unfold BD FN
  rw[bW (by omega),YA (by omega) (by omega)];rfl
 ok:=fun s a hs=>by
  obtain⟨n,hn,rfl⟩:=Option.map_eq_some_iff.1 hs
  obtain⟨h1,h2,h3⟩:=C8 hn
  refine⟨⟨by omega,by omega⟩,?_⟩
  unfold FN
  rw[bW h3];exact h1
 len:=fun a ⟨h1,h2⟩=>X6 (AO a)
 z0:=DR
 zg:=⟨by omega,by omega⟩
def ET(top:Nat)(s:List UInt8):Option Nat:=UZ s top
def WX(v:Nat):List UInt8:=EK (A8 (v:Int))
def nA(v:Nat):List UInt8:=EK v
def gdN(top:Nat)(v:Nat):Prop:=v<=top
theorem KM(top:Nat)(h:top<18446744073709551616):Cod (ET top) WX (gdN top) 0 where
 back:=fun a (h1:a<=top)=>by
  unfold ET WX
  rw[bW (by omega),YA (by omega) (by omega)]
 ok:=fun s a hs=>by
  obtain⟨h1,h2,h3⟩:=C8 hs
  refine⟨h2,?_⟩
  unfold WX
  rw[bW h3];exact h1
 len:=fun a (h1:a<=top)=>X6 (AO _)
 z0:=DR
 zg:=Nat.zero_le _
theorem OU(top:Nat)(h:top<18446744073709551616):Cod (ET top) nA (gdN top) 0 where
 back:=fun a (h1:a<=top)=>YA h1 (by omega)
 ok:=fun s a hs=>by
  obtain⟨h1,h2,h3⟩:=C8 hs
  exact⟨h2,h1⟩
 len:=fun a (h1:a<=top)=>X6 (by omega)
 z0:=DR
 zg:=Nat.zero_le _
def Y8(top:Nat)(s:List UInt8):Option ByteArray:=if s.length<=top then some (bytesOf s)else none
def AAh(v:ByteArray):List UInt8:=v.data.toList
def gdS(top:Nat)(v:ByteArray):Prop:=v.data.toList.length<=top
theorem jM(top:Nat)(h:top<=65535):Cod (Y8 top) AAh (gdS top) (bytesOf []) where
 back:=fun a (h1:a.data.toList.length<=top)=>by
  unfold Y8 AAh
  rw[if_pos h1,bytes_eta]
 ok:=fun s a hs=>by
  unfold Y8 at hs
  split at hs
  ·rename_i h1
   simp only[Option.some.injEq]at hs;subst hs
   exact⟨h1,rfl⟩
  ·cases hs
 len:=fun a (h1:a.data.toList.length<=top)=>Nat.le_trans h1 h
 z0:=rfl
 zg:=Nat.zero_le _
def zD(s:List UInt8):Option Bool:=(UZ s 1).map fun n=>n==1
def AB5(b:Bool):List UInt8:=if b=true then EK 1 else[]
def gdB(b:Bool):Prop:=True
theorem AEk:Cod zD AB5 gdB false where
 back:=fun a _=>by
  cases a
  ·rfl
  ·unfold zD AB5
   rw[if_pos rfl,YA (by omega) (by omega)];rfl
 ok:=fun s a hs=>by
  obtain⟨n,hn,rfl⟩:=Option.map_eq_some_iff.1 hs
  obtain⟨h1,h2,h3⟩:=C8 hn
  refine⟨trivial,?_⟩
  have:n=0∨n=1:=by omega
  rcases this with rfl|rfl
  ·rw[←h1,DR];rfl
  ·exact h1
 len:=fun a _=>by
  unfold AB5
  split
  ·exact X6 (by omega)
  ·simp
 z0:=rfl
 zg:=trivial
structure YX{β:Type}(rd:List UInt8->Option β)(one:β->ByteArray)(good:β->Prop):Prop where
 back:∀a,good a->rd (one a).data.toList=some a
 ok:∀s a,rd s=some a->good a/\(one a).data.toList=s
 len:∀a,good a->(one a).data.toList.length<=2000
def F9{β:Type}(rd:List UInt8->Option β)(top:Nat)(s:List UInt8):Option (List β):=if (HY top 0 s).1=0 then M7 (fun b=>rd b.data.toList) (HY top 0 s).2 else none
def GM{β:Type}(one:β->ByteArray)(l:List β):List UInt8:=EJ (l.map one)
def gdL{β:Type}(good:β->Prop)(top:Nat)(l:List β):Prop:=l.length<=top/\∀a∈l,good a
theorem WA:∀ {l:List ByteArray},(∀s∈l,s.data.toList.length<=65535)->QS l=0
 | [],_=>rfl
 |s::l,h=>by
  unfold QS
  rw[if_neg (Nat.not_lt.2 (h s (List.mem_cons_self ..)))]
  exact WA fun x hx=>h x (List.mem_cons_of_mem _ hx)
theorem zN:∀ {l:List ByteArray} {n:Nat},(∀s∈l,s.data.toList.length<=n)->(mQ l).length<=l.length*(n+2)
 | [],n,_=>by simp[mQ]
 |s::l,n,h=>by
  have h1:=h s (List.mem_cons_self ..)
  have h2:=zN (l:=l) (n:=n) fun x hx=>h x (List.mem_cons_of_mem _ hx)
  show(itB s++mQ l).length<=_
  rw[List.length_append,List.length_cons,Nat.succ_mul]
  have:(itB s).length=2+s.data.toList.length:=by simp[itB,two];omega
  omega
theorem NU {β:Type} {rd:List UInt8->Option β} {one:β->ByteArray} {good:β->Prop} (I:YX rd one good) (top:Nat) (h:top<=32):Cod (F9 rd top) (GM one) (gdL good top) [] where
  back:=fun l ⟨h1,h2⟩=>by
    have hs:∀s∈l.map one,s.data.toList.length<=65535:=fun s hs=>by
      obtain⟨a,ha,rfl⟩:=List.mem_map.1 hs
      exact Nat.le_trans (I.len a (h2 a ha)) (by omega)
    unfold F9 GM EJ
    rw[if_pos (WA hs),show GV (l.map one)=mQ (l.map one)from rfl,dM _ top 0 hs (by simp;exact h1),if_pos rfl]
    exact kJ fun b hb=>I.back b (h2 b hb)
  ok := fun s l hs=>by
    unfold F9 at hs
    split at hs
    · rename_i h0
      have hd:HY top 0 s=(0,(HY top 0 s).2):=Prod.ext h0 rfl
      obtain⟨k1,k2,k3⟩:=bA s.length s top 0 _ (Nat.le_refl _) hd
      obtain⟨g1,g2⟩:=vI hs
      have g3:=g2 one fun a b hab=>OC (I.ok _ _ hab).2
      refine⟨⟨?_,kH (fun a b hab=>(I.ok _ _ hab).1) hs⟩,?_⟩
      · rw[g1]
        rcases k2 with k2|k2
        · omega
        · rw[k2];simp
      · unfold GM EJ
        rw[g3,if_pos (WA k3)];exact k1
    · cases hs
  len:=fun l ⟨h1,h2⟩=>by
    unfold GM EJ
    split
    · show(mQ (l.map one)).length<=_
      have:=zN (l:=l.map one) (n:=2000) fun s hs=>by
        obtain⟨a,ha,rfl⟩:=List.mem_map.1 hs
        exact I.len a (h2 a ha)
      rw[List.length_map]at this
      have h3:l.length*(2000+2)<=32*(2000+2):=Nat.mul_le_mul_right _ (by omega)
      omega
    · simp
  z0:=rfl
  zg:=⟨Nat.zero_le _,fun a ha=>by cases ha⟩
theorem SY(l:List At)(k:Nat)(s:ByteArray):IY l k s=l++QW k s.data.toList:=by
 unfold IY QW
 split
 ·simp
 ·rw[bytes_eta]
theorem KW(l:List At)(k n:Nat):addN l k n=l++QW k (EK n):=by unfold addN;rw[SY];rfl
theorem AGr(l:List At)(k:Nat)(b:Bool):AGq l k b=l++QW k (AB5 b):=by
 unfold AGq AB5
 split
 ·exact KW l k 1
 ·simp[QW]
theorem AGJ{l:List At}{n:Nat}(h:∀a∈l,a.v.data.toList.length<=n):(encS l).length<=l.length*(n+3):=by
 unfold encS
 split
 ·rename_i h0
  clear h0
  induction l with
  |nil=>simp[EW]
  |cons a l ih=>
   have h1:=h a (List.mem_cons_self ..)
   have h2:=ih fun x hx=>h x (List.mem_cons_of_mem _ hx)
   show(ZP a++EW l).length<=_
   rw[List.length_append,List.length_cons,Nat.succ_mul]
   have:(ZP a).length=3+a.v.data.toList.length:=by simp[ZP,two];omega
   omega
 ·simp
theorem Y0{f:Nat->List UInt8}:∀(n j:Nat),(CR f n j).length<=n
 | 0,_=>by simp[CR]
 |n+1,j=>by
  have:=Y0 (f:=f) n (j+1)
  simp only[CR,List.length_append]
  have:(QW (j+1) (f (j+1))).length<=1:=by unfold QW;split<;>simp
  omega
theorem wV{f:Nat->List UInt8}{b:Nat}(hf:∀k,(f k).length<=b):∀(n j:Nat),∀a∈CR f n j,a.v.data.toList.length<=b
 | 0,_,a,h=>by cases h
 |n+1,j,a,h=>by
  simp only[CR,List.mem_append]at h
  rcases h with h|h
  ·unfold QW at h
   split at h
   ·cases h
   ·simp only[List.mem_singleton]at h;subst h;exact hf _
  ·exact wV hf n (j+1) a h
def rdO{α:Type}(step:α->At->Option α)(zero:α)(s:List UInt8):Option α:=if (rdE step zero s).1=0 then some (rdE step zero s).2 else none
theorem ABS{α:Type}{m:Nat}{step:α->At->Option α}{put:α->Nat->List UInt8}{ok:α->Prop}{zero:α}(S:Sch m step put ok zero)(hm:m<=7)(h8:∀x k,ok x->(put x k).length<=8){one:α->ByteArray}(ho:∀x,one x=bytesOf (encS (CR (put x) m 0))):YX (rdO step zero) one ok where
 back:=fun a ha=>by
  unfold rdO
  rw[ho,AV,S.rd_put ha];rfl
 ok:=fun s a hs=>by
  unfold rdO at hs
  split at hs
  ·rename_i h0
   simp only[Option.some.injEq]at hs
   have:rdE step zero s=(0,a):=Prod.ext h0 hs
   obtain⟨h1,h2⟩:=S.rd_ok this
   exact⟨h1,by rw[ho];exact h2⟩
  ·cases hs
 len:=fun a ha=>by
  rw[ho,AV]
  have h1:=AGJ (l:=CR (put a) m 0) (n:=8) (wV (fun k=>h8 a k ha) m 0)
  have h2:=Y0 (f:=put a) m 0
  have h3:(CR (put a) m 0).length*(8+3)<=7*(8+3):=Nat.mul_le_mul_right _ (by omega)
  omega
theorem OY{n:Nat}(h:n<18446744073709551616):(EK n).length<=8:=kM (k:=8) (lt8 h)
def LW(s:List UInt8):Option Int:=BD 2147483647 s
def JQ(s:List UInt8):Option Nat:=ET 18446744073709551615 s
def ADj(n:Int):Prop:=gdI 2147483647 n
def XZ(n:Nat):Prop:=gdN 18446744073709551615 n
theorem qC:YX LW CV ADj where
 back:=fun a ha=>(BP 2147483647 (by decide)).back a ha
 ok:=fun s a hs=>(BP 2147483647 (by decide)).ok s a hs
 len:=fun a ha=>Nat.le_trans (OY (AO a)) (by omega)
theorem YM:YX JQ BU XZ where
 back:=fun a ha=>(OU 18446744073709551615 (by decide)).back a ha
 ok:=fun s a hs=>(OU 18446744073709551615 (by decide)).ok s a hs
 len:=fun a (ha:a<=18446744073709551615)=>Nat.le_trans (OY (by omega)) (by omega)
def ZO:Arm:=⟨0,0⟩
def GG(x:Arm)(a:At):Option Arm:=match a.t with
 | 1=>(ET 4294967295 a.v.data.toList).map fun v=>{x with v:=v}
 | 2=>(BD 2147483647 a.v.data.toList).map fun v=>{x with nx:=v}
 |_=>none
def AH3(x:Arm):Nat->List UInt8
 | 1=>WX x.v
 | 2=>FN x.nx
 |_=>[]
structure iH(x:Arm):Prop where
 v:gdN 4294967295 x.v
 nx:gdI 2147483647 x.nx
theorem ANg:Sch 2 GG AH3 iH ZO where
 no:=fun y a h=>by
  unfold GG
  split<;>first|rfl|omega
 is:=fun y a y' hy h=>by
  unfold GG at h
  split at h
  ·rename_i ha
   obtain⟨v,hv,rfl⟩:=Option.map_eq_some_iff.1 h
   obtain⟨g1,g2⟩:=(KM 4294967295 (by decide)).ok _ _ hv
   rw[ha]
   exact⟨⟨g1,hy.nx⟩,g2,fun j hj=>by rcases j with _|_|_|j<;>first|rfl|exact absurd rfl hj⟩
  ·rename_i ha
   obtain⟨v,hv,rfl⟩:=Option.map_eq_some_iff.1 h
   obtain⟨g1,g2⟩:=(BP 2147483647 (by decide)).ok _ _ hv
   rw[ha]
   exact⟨⟨hy.v,g1⟩,g2,fun j hj=>by rcases j with _|_|_|j<;>first|rfl|exact absurd rfl hj⟩
  ·cases h
 back:=fun x y k hx h1 h2=>by
  rcases k with _|_|_|k
  ·omega
  ·exact⟨{y with v:=x.v},by show(ET 4294967295 (WX x.v)).map (fun v=>({y with v:=v}:Arm))=_;rw[(KM 4294967295 (by decide)).back _ hx.v];rfl⟩
  ·exact⟨{y with nx:=x.nx},by show(BD 2147483647 (FN x.nx)).map (fun v=>({y with nx:=v}:Arm))=_;rw[(BP 2147483647 (by decide)).back _ hx.nx];rfl⟩
  ·omega
 inj:=fun x y hx hy h=>by
  have e1:=(KM 4294967295 (by decide)).inj hx.v hy.v (h 1 (by omega) (by omega))
  have e2:=(BP 2147483647 (by decide)).inj hx.nx hy.nx (h 2 (by omega) (by omega))
  cases x;cases y
  simp only at e1 e2
  subst e1 e2
  rfl
 z:=⟨(KM 4294967295 (by decide)).zg,(BP 2147483647 (by decide)).zg⟩
 z0:=fun k=>by rcases k with _|_|_|k<;>first|rfl|exact(KM 4294967295 (by decide)).z0|exact(BP 2147483647 (by decide)).z0
 len:=fun x k hx=>by
  rcases k with _|_|_|k
  ·exact Nat.zero_le _
  ·exact(KM 4294967295 (by decide)).len _ hx.v
  ·exact(BP 2147483647 (by decide)).len _ hx.nx
  ·exact Nat.zero_le _
 m:=by omega
theorem AA2(x:Arm):XT x=CR (AH3 x) 2 0:=by
 unfold XT
 simp only[KW,List.nil_append,CR,List.append_nil]
 rfl
def KH(s:List UInt8):Option Arm:=rdO GG ZO s
theorem qB:YX KH CU iH:=ABS ANg (by omega) (fun x k hx=>by
 rcases k with _|_|_|k
 ·exact Nat.zero_le _
 ·exact OY (AO _)
 ·exact OY (AO _)
 ·exact Nat.zero_le _) fun x=>by unfold CU;rw[AA2]
def NF:Instr:=⟨0,0,0,0,0,0,0⟩
def CB(x:Instr)(a:At):Option Instr:=match a.t with
 | 1=>(ET 255 a.v.data.toList).map fun v=>{x with op:=v}
 | 2=>(BD 2147483647 a.v.data.toList).map fun v=>{x with to:=v}
 | 3=>(ET 255 a.v.data.toList).map fun v=>{x with ak:=v}
 | 4=>(ET 18446744073709551615 a.v.data.toList).map fun v=>{x with an:=v}
 | 5=>(ET 255 a.v.data.toList).map fun v=>{x with bk:=v}
 | 6=>(ET 18446744073709551615 a.v.data.toList).map fun v=>{x with bn:=v}
 | 7=>(BD 2147483647 a.v.data.toList).map fun v=>{x with n:=v}
 |_=>none
def AAe(x:Instr):Nat->List UInt8
 | 1=>WX x.op
 | 2=>FN x.to
 | 3=>WX x.ak
 | 4=>nA x.an
 | 5=>WX x.bk
 | 6=>nA x.bn
 | 7=>FN x.n
 |_=>[]
structure XY(x:Instr):Prop where
 op:gdN 255 x.op
 to:gdI 2147483647 x.to
 ak:gdN 255 x.ak
 an:gdN 18446744073709551615 x.an
 bk:gdN 255 x.bk
 bn:gdN 18446744073709551615 x.bn
 n:gdI 2147483647 x.n
theorem AIL:Sch 7 CB AAe XY NF where
 no:=fun y a h=>by
  unfold CB
  split<;>first|rfl|omega
 is:=fun y a y' hy h=>by
  unfold CB at h
  split at h
  ·rename_i ha
   obtain⟨v,hv,rfl⟩:=Option.map_eq_some_iff.1 h
   obtain⟨g1,g2⟩:=(KM 255 (by decide)).ok _ _ hv
   rw[ha]
   exact⟨⟨g1,hy.to,hy.ak,hy.an,hy.bk,hy.bn,hy.n⟩,g2,fun j hj=>by rcases j with _|_|_|_|_|_|_|_|j<;>first|rfl|exact absurd rfl hj⟩
  ·rename_i ha
   obtain⟨v,hv,rfl⟩:=Option.map_eq_some_iff.1 h
   obtain⟨g1,g2⟩:=(BP 2147483647 (by decide)).ok _ _ hv
   rw[ha]
   exact⟨⟨hy.op,g1,hy.ak,hy.an,hy.bk,hy.bn,hy.n⟩,g2,fun j hj=>by rcases j with _|_|_|_|_|_|_|_|j<;>first|rfl|exact absurd rfl hj⟩
  ·rename_i ha
   obtain⟨v,hv,rfl⟩:=Option.map_eq_some_iff.1 h
   obtain⟨g1,g2⟩:=(KM 255 (by decide)).ok _ _ hv
   rw[ha]
   exact⟨⟨hy.op,hy.to,g1,hy.an,hy.bk,hy.bn,hy.n⟩,g2,fun j hj=>by rcases j with _|_|_|_|_|_|_|_|j<;>first|rfl|exact absurd rfl hj⟩
  ·rename_i ha
   obtain⟨v,hv,rfl⟩:=Option.map_eq_some_iff.1 h
   obtain⟨g1,g2⟩:=(OU 18446744073709551615 (by decide)).ok _ _ hv
   rw[ha]
   exact⟨⟨hy.op,hy.to,hy.ak,g1,hy.bk,hy.bn,hy.n⟩,g2,fun j hj=>by rcases j with _|_|_|_|_|_|_|_|j<;>first|rfl|exact absurd rfl hj⟩
  ·rename_i ha
   obtain⟨v,hv,rfl⟩:=Option.map_eq_some_iff.1 h
   obtain⟨g1,g2⟩:=(KM 255 (by decide)).ok _ _ hv
   rw[ha]
   exact⟨⟨hy.op,hy.to,hy.ak,hy.an,g1,hy.bn,hy.n⟩,g2,fun j hj=>by rcases j with _|_|_|_|_|_|_|_|j<;>first|rfl|exact absurd rfl hj⟩
  ·rename_i ha
   obtain⟨v,hv,rfl⟩:=Option.map_eq_some_iff.1 h
   obtain⟨g1,g2⟩:=(OU 18446744073709551615 (by decide)).ok _ _ hv
   rw[ha]
   exact⟨⟨hy.op,hy.to,hy.ak,hy.an,hy.bk,g1,hy.n⟩,g2,fun j hj=>by rcases j with _|_|_|_|_|_|_|_|j<;>first|rfl|exact absurd rfl hj⟩
  ·rename_i ha
   obtain⟨v,hv,rfl⟩:=Option.map_eq_some_iff.1 h
   obtain⟨g1,g2⟩:=(BP 2147483647 (by decide)).ok _ _ hv
   rw[ha]
   exact⟨⟨hy.op,hy.to,hy.ak,hy.an,hy.bk,hy.bn,g1⟩,g2,fun j hj=>by rcases j with _|_|_|_|_|_|_|_|j<;>first|rfl|exact absurd rfl hj⟩
  ·cases h
 back:=fun x y k hx h1 h2=>by
  rcases k with _|_|_|_|_|_|_|_|k
  ·omega
  ·exact⟨{y with op:=x.op},by show(ET 255 (WX x.op)).map (fun v=>({y with op:=v}:Instr))=_;rw[(KM 255 (by decide)).back _ hx.op];rfl⟩
  ·exact⟨{y with to:=x.to},by show(BD 2147483647 (FN x.to)).map (fun v=>({y with to:=v}:Instr))=_;rw[(BP 2147483647 (by decide)).back _ hx.to];rfl⟩
  ·exact⟨{y with ak:=x.ak},by show(ET 255 (WX x.ak)).map (fun v=>({y with ak:=v}:Instr))=_;rw[(KM 255 (by decide)).back _ hx.ak];rfl⟩
  ·exact⟨{y with an:=x.an},by show(ET 18446744073709551615 (nA x.an)).map (fun v=>({y with an:=v}:Instr))=_;rw[(OU 18446744073709551615 (by decide)).back _ hx.an];rfl⟩
  ·exact⟨{y with bk:=x.bk},by show(ET 255 (WX x.bk)).map (fun v=>({y with bk:=v}:Instr))=_;rw[(KM 255 (by decide)).back _ hx.bk];rfl⟩
  ·exact⟨{y with bn:=x.bn},by show(ET 18446744073709551615 (nA x.bn)).map (fun v=>({y with bn:=v}:Instr))=_;rw[(OU 18446744073709551615 (by decide)).back _ hx.bn];rfl⟩
  ·exact⟨{y with n:=x.n},by show(BD 2147483647 (FN x.n)).map (fun v=>({y with n:=v}:Instr))=_;rw[(BP 2147483647 (by decide)).back _ hx.n];rfl⟩
  ·omega
 inj:=fun x y hx hy h=>by
  have e1:=(KM 255 (by decide)).inj hx.op hy.op (h 1 (by omega) (by omega))
  have e2:=(BP 2147483647 (by decide)).inj hx.to hy.to (h 2 (by omega) (by omega))
  have e3:=(KM 255 (by decide)).inj hx.ak hy.ak (h 3 (by omega) (by omega))
  have e4:=(OU 18446744073709551615 (by decide)).inj hx.an hy.an (h 4 (by omega) (by omega))
  have e5:=(KM 255 (by decide)).inj hx.bk hy.bk (h 5 (by omega) (by omega))
  have e6:=(OU 18446744073709551615 (by decide)).inj hx.bn hy.bn (h 6 (by omega) (by omega))
  have e7:=(BP 2147483647 (by decide)).inj hx.n hy.n (h 7 (by omega) (by omega))
  cases x;cases y
  simp only at e1 e2 e3 e4 e5 e6 e7
  subst e1 e2 e3 e4 e5 e6 e7
  rfl
 z:=⟨(KM 255 (by decide)).zg,(BP 2147483647 (by decide)).zg,(KM 255 (by decide)).zg,(OU 18446744073709551615 (by decide)).zg,(KM 255 (by decide)).zg,(OU 18446744073709551615 (by decide)).zg,(BP 2147483647 (by decide)).zg⟩
 z0:=fun k=>by rcases k with _|_|_|_|_|_|_|_|k<;>first|rfl|exact(KM 255 (by decide)).z0|exact(BP 2147483647 (by decide)).z0|exact(OU 18446744073709551615 (by decide)).z0
 len:=fun x k hx=>by
  rcases k with _|_|_|_|_|_|_|_|k
  ·exact Nat.zero_le _
  ·exact(KM 255 (by decide)).len _ hx.op
  ·exact(BP 2147483647 (by decide)).len _ hx.to
  ·exact(KM 255 (by decide)).len _ hx.ak
  ·exact(OU 18446744073709551615 (by decide)).len _ hx.an
  ·exact(KM 255 (by decide)).len _ hx.bk
  ·exact(OU 18446744073709551615 (by decide)).len _ hx.bn
  ·exact(BP 2147483647 (by decide)).len _ hx.n
  ·exact Nat.zero_le _
 m:=by omega
theorem sM(x:Instr):KE x=CR (AAe x) 7 0:=by
 unfold KE
 simp only[KW,List.nil_append,List.append_assoc,CR,List.append_nil]
 rfl
def FP(s:List UInt8):Option Instr:=rdO CB NF s
theorem X4:YX FP BF XY:=ABS AIL (by omega) (fun x k hx=>by
 rcases k with _|_|_|_|_|_|_|_|k
 ·exact Nat.zero_le _
 ·exact OY (AO _)
 ·exact OY (AO _)
 ·exact OY (AO _)
 ·exact OY (by have h:=hx.an;unfold gdN at h;omega)
 ·exact OY (AO _)
 ·exact OY (by have h:=hx.bn;unfold gdN at h;omega)
 ·exact OY (AO _)
 ·exact Nat.zero_le _) fun x=>by unfold BF;rw[sM]
def KV:DN:=⟨0,0⟩
def D9(x:DN)(a:At):Option DN:=match a.t with
 | 1=>(ET 18446744073709551615 a.v.data.toList).map fun v=>{x with w:=v}
 | 2=>(BD 2147483647 a.v.data.toList).map fun v=>{x with b:=v}
 |_=>none
def qP(x:DN):Nat->List UInt8
 | 1=>nA x.w
 | 2=>FN x.b
 |_=>[]
structure UI(x:DN):Prop where
 w:gdN 18446744073709551615 x.w
 b:gdI 2147483647 x.b
theorem AFT:Sch 2 D9 qP UI KV where
 no:=fun y a h=>by
  unfold D9
  split<;>first|rfl|omega
 is:=fun y a y' hy h=>by
  unfold D9 at h
  split at h
  ·rename_i ha
   obtain⟨v,hv,rfl⟩:=Option.map_eq_some_iff.1 h
   obtain⟨g1,g2⟩:=(OU 18446744073709551615 (by decide)).ok _ _ hv
   rw[ha]
   exact⟨⟨g1,hy.b⟩,g2,fun j hj=>by rcases j with _|_|_|j<;>first|rfl|exact absurd rfl hj⟩
  ·rename_i ha
   obtain⟨v,hv,rfl⟩:=Option.map_eq_some_iff.1 h
   obtain⟨g1,g2⟩:=(BP 2147483647 (by decide)).ok _ _ hv
   rw[ha]
   exact⟨⟨hy.w,g1⟩,g2,fun j hj=>by rcases j with _|_|_|j<;>first|rfl|exact absurd rfl hj⟩
  ·cases h
 back:=fun x y k hx h1 h2=>by
  rcases k with _|_|_|k
  ·omega
  ·exact⟨{y with w:=x.w},by show(ET 18446744073709551615 (nA x.w)).map (fun v=>({y with w:=v}:DN))=_;rw[(OU 18446744073709551615 (by decide)).back _ hx.w];rfl⟩
  ·exact⟨{y with b:=x.b},by show(BD 2147483647 (FN x.b)).map (fun v=>({y with b:=v}:DN))=_;rw[(BP 2147483647 (by decide)).back _ hx.b];rfl⟩
  ·omega
 inj:=fun x y hx hy h=>by
  have e1:=(OU 18446744073709551615 (by decide)).inj hx.w hy.w (h 1 (by omega) (by omega))
  have e2:=(BP 2147483647 (by decide)).inj hx.b hy.b (h 2 (by omega) (by omega))
  cases x;cases y
  simp only at e1 e2
  subst e1 e2
  rfl
 z:=⟨(OU 18446744073709551615 (by decide)).zg,(BP 2147483647 (by decide)).zg⟩
 z0:=fun k=>by rcases k with _|_|_|k<;>first|rfl|exact(OU 18446744073709551615 (by decide)).z0|exact(BP 2147483647 (by decide)).z0
 len:=fun x k hx=>by
  rcases k with _|_|_|k
  ·exact Nat.zero_le _
  ·exact(OU 18446744073709551615 (by decide)).len _ hx.w
  ·exact(BP 2147483647 (by decide)).len _ hx.b
  ·exact Nat.zero_le _
 m:=by omega
theorem mF(x:DN):OP x=CR (qP x) 2 0:=by
 unfold OP
 simp only[KW,List.nil_append,CR,List.append_nil]
 rfl
def EQ(s:List UInt8):Option DN:=rdO D9 KV s
theorem TD:YX EQ BC UI:=ABS AFT (by omega) (fun x k hx=>by
 rcases k with _|_|_|k
 ·exact Nat.zero_le _
 ·exact OY (by have h:=hx.w;unfold gdN at h;omega)
 ·exact OY (AO _)
 ·exact Nat.zero_le _) fun x=>by unfold BC;rw[mF]
def L8:EP:=⟨0,0,0,0,0,0,0,[],0⟩
def BQ(x:EP)(a:At):Option EP:=match a.t with
 | 1=>(BD 2147483647 a.v.data.toList).map fun v=>{x with id:=v}
 | 2=>(BD 2147483647 a.v.data.toList).map fun v=>{x with size:=v}
 | 3=>(BD 2147483647 a.v.data.toList).map fun v=>{x with lo:=v}
 | 4=>(BD 2147483647 a.v.data.toList).map fun v=>{x with lw:=v}
 | 5=>(BD 2147483647 a.v.data.toList).map fun v=>{x with lu:=v}
 | 6=>(BD 2147483647 a.v.data.toList).map fun v=>{x with so:=v}
 | 7=>(BD 2147483647 a.v.data.toList).map fun v=>{x with sw:=v}
 | 8=>(BD 2147483647 a.v.data.toList).map fun v=>{x with ot:=v}
 | 9=>(F9 KH 32 a.v.data.toList).map fun v=>{x with arms:=v}
 |_=>none
def ADB(x:EP):Nat->List UInt8
 | 1=>FN x.id
 | 2=>FN x.size
 | 3=>FN x.lo
 | 4=>FN x.lw
 | 5=>FN x.lu
 | 6=>FN x.so
 | 7=>FN x.sw
 | 8=>FN x.ot
 | 9=>GM CU x.arms
 |_=>[]
structure PD(x:EP):Prop where
 id:gdI 2147483647 x.id
 size:gdI 2147483647 x.size
 lo:gdI 2147483647 x.lo
 lw:gdI 2147483647 x.lw
 lu:gdI 2147483647 x.lu
 so:gdI 2147483647 x.so
 sw:gdI 2147483647 x.sw
 ot:gdI 2147483647 x.ot
 arms:gdL iH 32 x.arms
theorem bQ:Sch 9 BQ ADB PD L8 where
 no:=fun y a h=>by
  unfold BQ
  split<;>first|rfl|omega
 is:=fun y a y' hy h=>by
  unfold BQ at h
  split at h
  ·rename_i ha
   obtain⟨v,hv,rfl⟩:=Option.map_eq_some_iff.1 h
   obtain⟨g1,g2⟩:=(BP 2147483647 (by decide)).ok _ _ hv
   rw[ha]
   exact⟨⟨g1,hy.size,hy.lo,hy.lw,hy.lu,hy.so,hy.sw,hy.ot,hy.arms⟩,g2,fun j hj=>by rcases j with _|_|_|_|_|_|_|_|_|_|j<;>first|rfl|exact absurd rfl hj⟩
  ·rename_i ha
   obtain⟨v,hv,rfl⟩:=Option.map_eq_some_iff.1 h
   obtain⟨g1,g2⟩:=(BP 2147483647 (by decide)).ok _ _ hv
   rw[ha]
   exact⟨⟨hy.id,g1,hy.lo,hy.lw,hy.lu,hy.so,hy.sw,hy.ot,hy.arms⟩,g2,fun j hj=>by rcases j with _|_|_|_|_|_|_|_|_|_|j<;>first|rfl|exact absurd rfl hj⟩
  ·rename_i ha
   obtain⟨v,hv,rfl⟩:=Option.map_eq_some_iff.1 h
   obtain⟨g1,g2⟩:=(BP 2147483647 (by decide)).ok _ _ hv
   rw[ha]
   exact⟨⟨hy.id,hy.size,g1,hy.lw,hy.lu,hy.so,hy.sw,hy.ot,hy.arms⟩,g2,fun j hj=>by rcases j with _|_|_|_|_|_|_|_|_|_|j<;>first|rfl|exact absurd rfl hj⟩
  ·rename_i ha
   obtain⟨v,hv,rfl⟩:=Option.map_eq_some_iff.1 h
   obtain⟨g1,g2⟩:=(BP 2147483647 (by decide)).ok _ _ hv
   rw[ha]
   exact⟨⟨hy.id,hy.size,hy.lo,g1,hy.lu,hy.so,hy.sw,hy.ot,hy.arms⟩,g2,fun j hj=>by rcases j with _|_|_|_|_|_|_|_|_|_|j<;>first|rfl|exact absurd rfl hj⟩
  ·rename_i ha
   obtain⟨v,hv,rfl⟩:=Option.map_eq_some_iff.1 h
   obtain⟨g1,g2⟩:=(BP 2147483647 (by decide)).ok _ _ hv
   rw[ha]
   exact⟨⟨hy.id,hy.size,hy.lo,hy.lw,g1,hy.so,hy.sw,hy.ot,hy.arms⟩,g2,fun j hj=>by rcases j with _|_|_|_|_|_|_|_|_|_|j<;>first|rfl|exact absurd rfl hj⟩
  ·rename_i ha
   obtain⟨v,hv,rfl⟩:=Option.map_eq_some_iff.1 h
   obtain⟨g1,g2⟩:=(BP 2147483647 (by decide)).ok _ _ hv
   rw[ha]
   exact⟨⟨hy.id,hy.size,hy.lo,hy.lw,hy.lu,g1,hy.sw,hy.ot,hy.arms⟩,g2,fun j hj=>by rcases j with _|_|_|_|_|_|_|_|_|_|j<;>first|rfl|exact absurd rfl hj⟩
  ·rename_i ha
   obtain⟨v,hv,rfl⟩:=Option.map_eq_some_iff.1 h
   obtain⟨g1,g2⟩:=(BP 2147483647 (by decide)).ok _ _ hv
   rw[ha]
   exact⟨⟨hy.id,hy.size,hy.lo,hy.lw,hy.lu,hy.so,g1,hy.ot,hy.arms⟩,g2,fun j hj=>by rcases j with _|_|_|_|_|_|_|_|_|_|j<;>first|rfl|exact absurd rfl hj⟩
  ·rename_i ha
   obtain⟨v,hv,rfl⟩:=Option.map_eq_some_iff.1 h
   obtain⟨g1,g2⟩:=(BP 2147483647 (by decide)).ok _ _ hv
   rw[ha]
   exact⟨⟨hy.id,hy.size,hy.lo,hy.lw,hy.lu,hy.so,hy.sw,g1,hy.arms⟩,g2,fun j hj=>by rcases j with _|_|_|_|_|_|_|_|_|_|j<;>first|rfl|exact absurd rfl hj⟩
  ·rename_i ha
   obtain⟨v,hv,rfl⟩:=Option.map_eq_some_iff.1 h
   obtain⟨g1,g2⟩:=(NU qB 32 (by decide)).ok _ _ hv
   rw[ha]
   exact⟨⟨hy.id,hy.size,hy.lo,hy.lw,hy.lu,hy.so,hy.sw,hy.ot,g1⟩,g2,fun j hj=>by rcases j with _|_|_|_|_|_|_|_|_|_|j<;>first|rfl|exact absurd rfl hj⟩
  ·cases h
 back:=fun x y k hx h1 h2=>by
  rcases k with _|_|_|_|_|_|_|_|_|_|k
  ·omega
  ·exact⟨{y with id:=x.id},by show(BD 2147483647 (FN x.id)).map (fun v=>({y with id:=v}:EP))=_;rw[(BP 2147483647 (by decide)).back _ hx.id];rfl⟩
  ·exact⟨{y with size:=x.size},by show(BD 2147483647 (FN x.size)).map (fun v=>({y with size:=v}:EP))=_;rw[(BP 2147483647 (by decide)).back _ hx.size];rfl⟩
  ·exact⟨{y with lo:=x.lo},by show(BD 2147483647 (FN x.lo)).map (fun v=>({y with lo:=v}:EP))=_;rw[(BP 2147483647 (by decide)).back _ hx.lo];rfl⟩
  ·exact⟨{y with lw:=x.lw},by show(BD 2147483647 (FN x.lw)).map (fun v=>({y with lw:=v}:EP))=_;rw[(BP 2147483647 (by decide)).back _ hx.lw];rfl⟩
  ·exact⟨{y with lu:=x.lu},by show(BD 2147483647 (FN x.lu)).map (fun v=>({y with lu:=v}:EP))=_;rw[(BP 2147483647 (by decide)).back _ hx.lu];rfl⟩
  ·exact⟨{y with so:=x.so},by show(BD 2147483647 (FN x.so)).map (fun v=>({y with so:=v}:EP))=_;rw[(BP 2147483647 (by decide)).back _ hx.so];rfl⟩
  ·exact⟨{y with sw:=x.sw},by show(BD 2147483647 (FN x.sw)).map (fun v=>({y with sw:=v}:EP))=_;rw[(BP 2147483647 (by decide)).back _ hx.sw];rfl⟩
  ·exact⟨{y with ot:=x.ot},by show(BD 2147483647 (FN x.ot)).map (fun v=>({y with ot:=v}:EP))=_;rw[(BP 2147483647 (by decide)).back _ hx.ot];rfl⟩
  ·exact⟨{y with arms:=x.arms},by show(F9 KH 32 (GM CU x.arms)).map (fun v=>({y with arms:=v}:EP))=_;rw[(NU qB 32 (by decide)).back _ hx.arms];rfl⟩
  ·omega
 inj:=fun x y hx hy h=>by
  have e1:=(BP 2147483647 (by decide)).inj hx.id hy.id (h 1 (by omega) (by omega))
  have e2:=(BP 2147483647 (by decide)).inj hx.size hy.size (h 2 (by omega) (by omega))
  have e3:=(BP 2147483647 (by decide)).inj hx.lo hy.lo (h 3 (by omega) (by omega))
  have e4:=(BP 2147483647 (by decide)).inj hx.lw hy.lw (h 4 (by omega) (by omega))
  have e5:=(BP 2147483647 (by decide)).inj hx.lu hy.lu (h 5 (by omega) (by omega))
  have e6:=(BP 2147483647 (by decide)).inj hx.so hy.so (h 6 (by omega) (by omega))
  have e7:=(BP 2147483647 (by decide)).inj hx.sw hy.sw (h 7 (by omega) (by omega))
  have e8:=(BP 2147483647 (by decide)).inj hx.ot hy.ot (h 8 (by omega) (by omega))
  have e9:=(NU qB 32 (by decide)).inj hx.arms hy.arms (h 9 (by omega) (by omega))
  cases x;cases y
  simp only at e1 e2 e3 e4 e5 e6 e7 e8 e9
  subst e1 e2 e3 e4 e5 e6 e7 e8 e9
  rfl
 z:=⟨(BP 2147483647 (by decide)).zg,(BP 2147483647 (by decide)).zg,(BP 2147483647 (by decide)).zg,(BP 2147483647 (by decide)).zg,(BP 2147483647 (by decide)).zg,(BP 2147483647 (by decide)).zg,(BP 2147483647 (by decide)).zg,(BP 2147483647 (by decide)).zg,(NU qB 32 (by decide)).zg⟩
 z0:=fun k=>by rcases k with _|_|_|_|_|_|_|_|_|_|k<;>first|rfl|exact(BP 2147483647 (by decide)).z0|exact(NU qB 32 (by decide)).z0
 len:=fun x k hx=>by
  rcases k with _|_|_|_|_|_|_|_|_|_|k
  ·exact Nat.zero_le _
  ·exact(BP 2147483647 (by decide)).len _ hx.id
  ·exact(BP 2147483647 (by decide)).len _ hx.size
  ·exact(BP 2147483647 (by decide)).len _ hx.lo
  ·exact(BP 2147483647 (by decide)).len _ hx.lw
  ·exact(BP 2147483647 (by decide)).len _ hx.lu
  ·exact(BP 2147483647 (by decide)).len _ hx.so
  ·exact(BP 2147483647 (by decide)).len _ hx.sw
  ·exact(BP 2147483647 (by decide)).len _ hx.ot
  ·exact(NU qB 32 (by decide)).len _ hx.arms
  ·exact Nat.zero_le _
 m:=by omega
theorem VY(x:EP):GD x=CR (ADB x) 9 0:=by
 unfold GD
 simp only[KW,SY,AV,List.nil_append,List.append_assoc,CR,List.append_nil]
 rfl
def JK:E9:=⟨0,0,0,0,0⟩
def CE(x:E9)(a:At):Option E9:=match a.t with
 | 1=>(BD 2147483647 a.v.data.toList).map fun v=>{x with id:=v}
 | 2=>(ET 255 a.v.data.toList).map fun v=>{x with base:=v}
 | 3=>(BD 2147483647 a.v.data.toList).map fun v=>{x with node:=v}
 | 4=>(BD 2147483647 a.v.data.toList).map fun v=>{x with off:=v}
 | 5=>(BD 2147483647 a.v.data.toList).map fun v=>{x with wid:=v}
 |_=>none
def AAc(x:E9):Nat->List UInt8
 | 1=>FN x.id
 | 2=>WX x.base
 | 3=>FN x.node
 | 4=>FN x.off
 | 5=>FN x.wid
 |_=>[]
structure NM(x:E9):Prop where
 id:gdI 2147483647 x.id
 base:gdN 255 x.base
 node:gdI 2147483647 x.node
 off:gdI 2147483647 x.off
 wid:gdI 2147483647 x.wid
theorem XD:Sch 5 CE AAc NM JK where
 no:=fun y a h=>by
  unfold CE
  split<;>first|rfl|omega
 is:=fun y a y' hy h=>by
  unfold CE at h
  split at h
  ·rename_i ha
   obtain⟨v,hv,rfl⟩:=Option.map_eq_some_iff.1 h
   obtain⟨g1,g2⟩:=(BP 2147483647 (by decide)).ok _ _ hv
   rw[ha]
   exact⟨⟨g1,hy.base,hy.node,hy.off,hy.wid⟩,g2,fun j hj=>by rcases j with _|_|_|_|_|_|j<;>first|rfl|exact absurd rfl hj⟩
  ·rename_i ha
   obtain⟨v,hv,rfl⟩:=Option.map_eq_some_iff.1 h
   obtain⟨g1,g2⟩:=(KM 255 (by decide)).ok _ _ hv
   rw[ha]
   exact⟨⟨hy.id,g1,hy.node,hy.off,hy.wid⟩,g2,fun j hj=>by rcases j with _|_|_|_|_|_|j<;>first|rfl|exact absurd rfl hj⟩
  ·rename_i ha
   obtain⟨v,hv,rfl⟩:=Option.map_eq_some_iff.1 h
   obtain⟨g1,g2⟩:=(BP 2147483647 (by decide)).ok _ _ hv
   rw[ha]
   exact⟨⟨hy.id,hy.base,g1,hy.off,hy.wid⟩,g2,fun j hj=>by rcases j with _|_|_|_|_|_|j<;>first|rfl|exact absurd rfl hj⟩
  ·rename_i ha
   obtain⟨v,hv,rfl⟩:=Option.map_eq_some_iff.1 h
   obtain⟨g1,g2⟩:=(BP 2147483647 (by decide)).ok _ _ hv
   rw[ha]
   exact⟨⟨hy.id,hy.base,hy.node,g1,hy.wid⟩,g2,fun j hj=>by rcases j with _|_|_|_|_|_|j<;>first|rfl|exact absurd rfl hj⟩
  ·rename_i ha
   obtain⟨v,hv,rfl⟩:=Option.map_eq_some_iff.1 h
   obtain⟨g1,g2⟩:=(BP 2147483647 (by decide)).ok _ _ hv
   rw[ha]
   exact⟨⟨hy.id,hy.base,hy.node,hy.off,g1⟩,g2,fun j hj=>by rcases j with _|_|_|_|_|_|j<;>first|rfl|exact absurd rfl hj⟩
  ·cases h
 back:=fun x y k hx h1 h2=>by
  rcases k with _|_|_|_|_|_|k
  ·omega
  ·exact⟨{y with id:=x.id},by show(BD 2147483647 (FN x.id)).map (fun v=>({y with id:=v}:E9))=_;rw[(BP 2147483647 (by decide)).back _ hx.id];rfl⟩
  ·exact⟨{y with base:=x.base},by show(ET 255 (WX x.base)).map (fun v=>({y with base:=v}:E9))=_;rw[(KM 255 (by decide)).back _ hx.base];rfl⟩
  ·exact⟨{y with node:=x.node},by show(BD 2147483647 (FN x.node)).map (fun v=>({y with node:=v}:E9))=_;rw[(BP 2147483647 (by decide)).back _ hx.node];rfl⟩
  ·exact⟨{y with off:=x.off},by show(BD 2147483647 (FN x.off)).map (fun v=>({y with off:=v}:E9))=_;rw[(BP 2147483647 (by decide)).back _ hx.off];rfl⟩
  ·exact⟨{y with wid:=x.wid},by show(BD 2147483647 (FN x.wid)).map (fun v=>({y with wid:=v}:E9))=_;rw[(BP 2147483647 (by decide)).back _ hx.wid];rfl⟩
  ·omega
 inj:=fun x y hx hy h=>by
  have e1:=(BP 2147483647 (by decide)).inj hx.id hy.id (h 1 (by omega) (by omega))
  have e2:=(KM 255 (by decide)).inj hx.base hy.base (h 2 (by omega) (by omega))
  have e3:=(BP 2147483647 (by decide)).inj hx.node hy.node (h 3 (by omega) (by omega))
  have e4:=(BP 2147483647 (by decide)).inj hx.off hy.off (h 4 (by omega) (by omega))
  have e5:=(BP 2147483647 (by decide)).inj hx.wid hy.wid (h 5 (by omega) (by omega))
  cases x;cases y
  simp only at e1 e2 e3 e4 e5
  subst e1 e2 e3 e4 e5
  rfl
 z:=⟨(BP 2147483647 (by decide)).zg,(KM 255 (by decide)).zg,(BP 2147483647 (by decide)).zg,(BP 2147483647 (by decide)).zg,(BP 2147483647 (by decide)).zg⟩
 z0:=fun k=>by rcases k with _|_|_|_|_|_|k<;>first|rfl|exact(BP 2147483647 (by decide)).z0|exact(KM 255 (by decide)).z0
 len:=fun x k hx=>by
  rcases k with _|_|_|_|_|_|k
  ·exact Nat.zero_le _
  ·exact(BP 2147483647 (by decide)).len _ hx.id
  ·exact(KM 255 (by decide)).len _ hx.base
  ·exact(BP 2147483647 (by decide)).len _ hx.node
  ·exact(BP 2147483647 (by decide)).len _ hx.off
  ·exact(BP 2147483647 (by decide)).len _ hx.wid
  ·exact Nat.zero_le _
 m:=by omega
theorem UC(x:E9):GQ x=CR (AAc x) 5 0:=by
 unfold GQ
 simp only[KW,List.nil_append,List.append_assoc,CR,List.append_nil]
 rfl
def JN:EB:=⟨0,0,[],0,0⟩
def CF(x:EB)(a:At):Option EB:=match a.t with
 | 1=>(BD 2147483647 a.v.data.toList).map fun v=>{x with id:=v}
 | 2=>(ET 255 a.v.data.toList).map fun v=>{x with kind:=v}
 | 3=>(F9 LW 4 a.v.data.toList).map fun v=>{x with keys:=v}
 | 4=>(BD 2147483647 a.v.data.toList).map fun v=>{x with cap:=v}
 | 5=>(BD 2147483647 a.v.data.toList).map fun v=>{x with miss:=v}
 |_=>none
def AAi(x:EB):Nat->List UInt8
 | 1=>FN x.id
 | 2=>WX x.kind
 | 3=>GM CV x.keys
 | 4=>FN x.cap
 | 5=>FN x.miss
 |_=>[]
structure NQ(x:EB):Prop where
 id:gdI 2147483647 x.id
 kind:gdN 255 x.kind
 keys:gdL ADj 4 x.keys
 cap:gdI 2147483647 x.cap
 miss:gdI 2147483647 x.miss
theorem XG:Sch 5 CF AAi NQ JN where
 no:=fun y a h=>by
  unfold CF
  split<;>first|rfl|omega
 is:=fun y a y' hy h=>by
  unfold CF at h
  split at h
  ·rename_i ha
   obtain⟨v,hv,rfl⟩:=Option.map_eq_some_iff.1 h
   obtain⟨g1,g2⟩:=(BP 2147483647 (by decide)).ok _ _ hv
   rw[ha]
   exact⟨⟨g1,hy.kind,hy.keys,hy.cap,hy.miss⟩,g2,fun j hj=>by rcases j with _|_|_|_|_|_|j<;>first|rfl|exact absurd rfl hj⟩
  ·rename_i ha
   obtain⟨v,hv,rfl⟩:=Option.map_eq_some_iff.1 h
   obtain⟨g1,g2⟩:=(KM 255 (by decide)).ok _ _ hv
   rw[ha]
   exact⟨⟨hy.id,g1,hy.keys,hy.cap,hy.miss⟩,g2,fun j hj=>by rcases j with _|_|_|_|_|_|j<;>first|rfl|exact absurd rfl hj⟩
  ·rename_i ha
   obtain⟨v,hv,rfl⟩:=Option.map_eq_some_iff.1 h
   obtain⟨g1,g2⟩:=(NU qC 4 (by decide)).ok _ _ hv
   rw[ha]
   exact⟨⟨hy.id,hy.kind,g1,hy.cap,hy.miss⟩,g2,fun j hj=>by rcases j with _|_|_|_|_|_|j<;>first|rfl|exact absurd rfl hj⟩
  ·rename_i ha
   obtain⟨v,hv,rfl⟩:=Option.map_eq_some_iff.1 h
   obtain⟨g1,g2⟩:=(BP 2147483647 (by decide)).ok _ _ hv
   rw[ha]
   exact⟨⟨hy.id,hy.kind,hy.keys,g1,hy.miss⟩,g2,fun j hj=>by rcases j with _|_|_|_|_|_|j<;>first|rfl|exact absurd rfl hj⟩
  ·rename_i ha
   obtain⟨v,hv,rfl⟩:=Option.map_eq_some_iff.1 h
   obtain⟨g1,g2⟩:=(BP 2147483647 (by decide)).ok _ _ hv
   rw[ha]
   exact⟨⟨hy.id,hy.kind,hy.keys,hy.cap,g1⟩,g2,fun j hj=>by rcases j with _|_|_|_|_|_|j<;>first|rfl|exact absurd rfl hj⟩
  ·cases h
 back:=fun x y k hx h1 h2=>by
  rcases k with _|_|_|_|_|_|k
  ·omega
  ·exact⟨{y with id:=x.id},by show(BD 2147483647 (FN x.id)).map (fun v=>({y with id:=v}:EB))=_;rw[(BP 2147483647 (by decide)).back _ hx.id];rfl⟩
  ·exact⟨{y with kind:=x.kind},by show(ET 255 (WX x.kind)).map (fun v=>({y with kind:=v}:EB))=_;rw[(KM 255 (by decide)).back _ hx.kind];rfl⟩
  ·exact⟨{y with keys:=x.keys},by show(F9 LW 4 (GM CV x.keys)).map (fun v=>({y with keys:=v}:EB))=_;rw[(NU qC 4 (by decide)).back _ hx.keys];rfl⟩
  ·exact⟨{y with cap:=x.cap},by show(BD 2147483647 (FN x.cap)).map (fun v=>({y with cap:=v}:EB))=_;rw[(BP 2147483647 (by decide)).back _ hx.cap];rfl⟩
  ·exact⟨{y with miss:=x.miss},by show(BD 2147483647 (FN x.miss)).map (fun v=>({y with miss:=v}:EB))=_;rw[(BP 2147483647 (by decide)).back _ hx.miss];rfl⟩
  ·omega
 inj:=fun x y hx hy h=>by
  have e1:=(BP 2147483647 (by decide)).inj hx.id hy.id (h 1 (by omega) (by omega))
  have e2:=(KM 255 (by decide)).inj hx.kind hy.kind (h 2 (by omega) (by omega))
  have e3:=(NU qC 4 (by decide)).inj hx.keys hy.keys (h 3 (by omega) (by omega))
  have e4:=(BP 2147483647 (by decide)).inj hx.cap hy.cap (h 4 (by omega) (by omega))
  have e5:=(BP 2147483647 (by decide)).inj hx.miss hy.miss (h 5 (by omega) (by omega))
  cases x;cases y
  simp only at e1 e2 e3 e4 e5
  subst e1 e2 e3 e4 e5
  rfl
 z:=⟨(BP 2147483647 (by decide)).zg,(KM 255 (by decide)).zg,(NU qC 4 (by decide)).zg,(BP 2147483647 (by decide)).zg,(BP 2147483647 (by decide)).zg⟩
 z0:=fun k=>by rcases k with _|_|_|_|_|_|k<;>first|rfl|exact(BP 2147483647 (by decide)).z0|exact(KM 255 (by decide)).z0|exact(NU qC 4 (by decide)).z0
 len:=fun x k hx=>by
  rcases k with _|_|_|_|_|_|k
  ·exact Nat.zero_le _
  ·exact(BP 2147483647 (by decide)).len _ hx.id
  ·exact(KM 255 (by decide)).len _ hx.kind
  ·exact(NU qC 4 (by decide)).len _ hx.keys
  ·exact(BP 2147483647 (by decide)).len _ hx.cap
  ·exact(BP 2147483647 (by decide)).len _ hx.miss
  ·exact Nat.zero_le _
 m:=by omega
theorem UF(x:EB):GR x=CR (AAi x) 5 0:=by
 unfold GR
 simp only[KW,SY,AV,List.nil_append,List.append_assoc,CR,List.append_nil]
 rfl
def JJ:C9:=⟨0,bytesOf [],bytesOf [],0,0,0,[],0,0,0,false⟩
def BA(x:C9)(a:At):Option C9:=match a.t with
 | 1=>(BD 2147483647 a.v.data.toList).map fun v=>{x with tab:=v}
 | 2=>(Y8 32 a.v.data.toList).map fun v=>{x with key:=v}
 | 3=>(Y8 32 a.v.data.toList).map fun v=>{x with oth:=v}
 | 4=>(BD 2147483647 a.v.data.toList).map fun v=>{x with len:=v}
 | 5=>(BD 2147483647 a.v.data.toList).map fun v=>{x with prio:=v}
 | 6=>(BD 2147483647 a.v.data.toList).map fun v=>{x with blk:=v}
 | 7=>(F9 JQ 4 a.v.data.toList).map fun v=>{x with args:=v}
 | 8=>(BD 9223372036854775807 a.v.data.toList).map fun v=>{x with idle:=v}
 | 9=>(BD 9223372036854775807 a.v.data.toList).map fun v=>{x with hard:=v}
 | 10=>(ET 18446744073709551615 a.v.data.toList).map fun v=>{x with cook:=v}
 | 11=>(zD a.v.data.toList).map fun v=>{x with tell:=v}
 |_=>none
def AAb(x:C9):Nat->List UInt8
 | 1=>FN x.tab
 | 2=>AAh x.key
 | 3=>AAh x.oth
 | 4=>FN x.len
 | 5=>FN x.prio
 | 6=>FN x.blk
 | 7=>GM BU x.args
 | 8=>FN x.idle
 | 9=>FN x.hard
 | 10=>nA x.cook
 | 11=>AB5 x.tell
 |_=>[]
structure NL(x:C9):Prop where
 tab:gdI 2147483647 x.tab
 key:gdS 32 x.key
 oth:gdS 32 x.oth
 len:gdI 2147483647 x.len
 prio:gdI 2147483647 x.prio
 blk:gdI 2147483647 x.blk
 args:gdL XZ 4 x.args
 idle:gdI 9223372036854775807 x.idle
 hard:gdI 9223372036854775807 x.hard
 cook:gdN 18446744073709551615 x.cook
 tell:gdB x.tell
theorem XC:Sch 11 BA AAb NL JJ where
 no:=fun y a h=>by
  unfold BA
  split<;>first|rfl|omega
 is:=fun y a y' hy h=>by
  unfold BA at h
  split at h
  ·rename_i ha
   obtain⟨v,hv,rfl⟩:=Option.map_eq_some_iff.1 h
   obtain⟨g1,g2⟩:=(BP 2147483647 (by decide)).ok _ _ hv
   rw[ha]
   exact⟨⟨g1,hy.key,hy.oth,hy.len,hy.prio,hy.blk,hy.args,hy.idle,hy.hard,hy.cook,hy.tell⟩,g2,fun j hj=>by rcases j with _|_|_|_|_|_|_|_|_|_|_|_|j<;>first|rfl|exact absurd rfl hj⟩
  ·rename_i ha
   obtain⟨v,hv,rfl⟩:=Option.map_eq_some_iff.1 h
   obtain⟨g1,g2⟩:=(jM 32 (by decide)).ok _ _ hv
   rw[ha]
   exact⟨⟨hy.tab,g1,hy.oth,hy.len,hy.prio,hy.blk,hy.args,hy.idle,hy.hard,hy.cook,hy.tell⟩,g2,fun j hj=>by rcases j with _|_|_|_|_|_|_|_|_|_|_|_|j<;>first|rfl|exact absurd rfl hj⟩
  ·rename_i ha
   obtain⟨v,hv,rfl⟩:=Option.map_eq_some_iff.1 h
   obtain⟨g1,g2⟩:=(jM 32 (by decide)).ok _ _ hv
   rw[ha]
   exact⟨⟨hy.tab,hy.key,g1,hy.len,hy.prio,hy.blk,hy.args,hy.idle,hy.hard,hy.cook,hy.tell⟩,g2,fun j hj=>by rcases j with _|_|_|_|_|_|_|_|_|_|_|_|j<;>first|rfl|exact absurd rfl hj⟩
  ·rename_i ha
   obtain⟨v,hv,rfl⟩:=Option.map_eq_some_iff.1 h
   obtain⟨g1,g2⟩:=(BP 2147483647 (by decide)).ok _ _ hv
   rw[ha]
   exact⟨⟨hy.tab,hy.key,hy.oth,g1,hy.prio,hy.blk,hy.args,hy.idle,hy.hard,hy.cook,hy.tell⟩,g2,fun j hj=>by rcases j with _|_|_|_|_|_|_|_|_|_|_|_|j<;>first|rfl|exact absurd rfl hj⟩
  ·rename_i ha
   obtain⟨v,hv,rfl⟩:=Option.map_eq_some_iff.1 h
   obtain⟨g1,g2⟩:=(BP 2147483647 (by decide)).ok _ _ hv
   rw[ha]
   exact⟨⟨hy.tab,hy.key,hy.oth,hy.len,g1,hy.blk,hy.args,hy.idle,hy.hard,hy.cook,hy.tell⟩,g2,fun j hj=>by rcases j with _|_|_|_|_|_|_|_|_|_|_|_|j<;>first|rfl|exact absurd rfl hj⟩
  ·rename_i ha
   obtain⟨v,hv,rfl⟩:=Option.map_eq_some_iff.1 h
   obtain⟨g1,g2⟩:=(BP 2147483647 (by decide)).ok _ _ hv
   rw[ha]
   exact⟨⟨hy.tab,hy.key,hy.oth,hy.len,hy.prio,g1,hy.args,hy.idle,hy.hard,hy.cook,hy.tell⟩,g2,fun j hj=>by rcases j with _|_|_|_|_|_|_|_|_|_|_|_|j<;>first|rfl|exact absurd rfl hj⟩
  ·rename_i ha
   obtain⟨v,hv,rfl⟩:=Option.map_eq_some_iff.1 h
   obtain⟨g1,g2⟩:=(NU YM 4 (by decide)).ok _ _ hv
   rw[ha]
   exact⟨⟨hy.tab,hy.key,hy.oth,hy.len,hy.prio,hy.blk,g1,hy.idle,hy.hard,hy.cook,hy.tell⟩,g2,fun j hj=>by rcases j with _|_|_|_|_|_|_|_|_|_|_|_|j<;>first|rfl|exact absurd rfl hj⟩
  ·rename_i ha
   obtain⟨v,hv,rfl⟩:=Option.map_eq_some_iff.1 h
   obtain⟨g1,g2⟩:=(BP 9223372036854775807 (by decide)).ok _ _ hv
   rw[ha]
   exact⟨⟨hy.tab,hy.key,hy.oth,hy.len,hy.prio,hy.blk,hy.args,g1,hy.hard,hy.cook,hy.tell⟩,g2,fun j hj=>by rcases j with _|_|_|_|_|_|_|_|_|_|_|_|j<;>first|rfl|exact absurd rfl hj⟩
  ·rename_i ha
   obtain⟨v,hv,rfl⟩:=Option.map_eq_some_iff.1 h
   obtain⟨g1,g2⟩:=(BP 9223372036854775807 (by decide)).ok _ _ hv
   rw[ha]
   exact⟨⟨hy.tab,hy.key,hy.oth,hy.len,hy.prio,hy.blk,hy.args,hy.idle,g1,hy.cook,hy.tell⟩,g2,fun j hj=>by rcases j with _|_|_|_|_|_|_|_|_|_|_|_|j<;>first|rfl|exact absurd rfl hj⟩
  ·rename_i ha
   obtain⟨v,hv,rfl⟩:=Option.map_eq_some_iff.1 h
   obtain⟨g1,g2⟩:=(OU 18446744073709551615 (by decide)).ok _ _ hv
   rw[ha]
   exact⟨⟨hy.tab,hy.key,hy.oth,hy.len,hy.prio,hy.blk,hy.args,hy.idle,hy.hard,g1,hy.tell⟩,g2,fun j hj=>by rcases j with _|_|_|_|_|_|_|_|_|_|_|_|j<;>first|rfl|exact absurd rfl hj⟩
  ·rename_i ha
   obtain⟨v,hv,rfl⟩:=Option.map_eq_some_iff.1 h
   obtain⟨g1,g2⟩:=AEk.ok _ _ hv
   rw[ha]
   exact⟨⟨hy.tab,hy.key,hy.oth,hy.len,hy.prio,hy.blk,hy.args,hy.idle,hy.hard,hy.cook,g1⟩,g2,fun j hj=>by rcases j with _|_|_|_|_|_|_|_|_|_|_|_|j<;>first|rfl|exact absurd rfl hj⟩
  ·cases h
 back:=fun x y k hx h1 h2=>by
  rcases k with _|_|_|_|_|_|_|_|_|_|_|_|k
  ·omega
  ·exact⟨{y with tab:=x.tab},by show(BD 2147483647 (FN x.tab)).map (fun v=>({y with tab:=v}:C9))=_;rw[(BP 2147483647 (by decide)).back _ hx.tab];rfl⟩
  ·exact⟨{y with key:=x.key},by show(Y8 32 (AAh x.key)).map (fun v=>({y with key:=v}:C9))=_;rw[(jM 32 (by decide)).back _ hx.key];rfl⟩
  ·exact⟨{y with oth:=x.oth},by show(Y8 32 (AAh x.oth)).map (fun v=>({y with oth:=v}:C9))=_;rw[(jM 32 (by decide)).back _ hx.oth];rfl⟩
  ·exact⟨{y with len:=x.len},by show(BD 2147483647 (FN x.len)).map (fun v=>({y with len:=v}:C9))=_;rw[(BP 2147483647 (by decide)).back _ hx.len];rfl⟩
  ·exact⟨{y with prio:=x.prio},by show(BD 2147483647 (FN x.prio)).map (fun v=>({y with prio:=v}:C9))=_;rw[(BP 2147483647 (by decide)).back _ hx.prio];rfl⟩
  ·exact⟨{y with blk:=x.blk},by show(BD 2147483647 (FN x.blk)).map (fun v=>({y with blk:=v}:C9))=_;rw[(BP 2147483647 (by decide)).back _ hx.blk];rfl⟩
  ·exact⟨{y with args:=x.args},by show(F9 JQ 4 (GM BU x.args)).map (fun v=>({y with args:=v}:C9))=_;rw[(NU YM 4 (by decide)).back _ hx.args];rfl⟩
  ·exact⟨{y with idle:=x.idle},by show(BD 9223372036854775807 (FN x.idle)).map (fun v=>({y with idle:=v}:C9))=_;rw[(BP 9223372036854775807 (by decide)).back _ hx.idle];rfl⟩
  ·exact⟨{y with hard:=x.hard},by show(BD 9223372036854775807 (FN x.hard)).map (fun v=>({y with hard:=v}:C9))=_;rw[(BP 9223372036854775807 (by decide)).back _ hx.hard];rfl⟩
  ·exact⟨{y with cook:=x.cook},by show(ET 18446744073709551615 (nA x.cook)).map (fun v=>({y with cook:=v}:C9))=_;rw[(OU 18446744073709551615 (by decide)).back _ hx.cook];rfl⟩
  ·exact⟨{y with tell:=x.tell},by show(zD (AB5 x.tell)).map (fun v=>({y with tell:=v}:C9))=_;rw[AEk.back _ hx.tell];rfl⟩
  ·omega
 inj:=fun x y hx hy h=>by
  have e1:=(BP 2147483647 (by decide)).inj hx.tab hy.tab (h 1 (by omega) (by omega))
  have e2:=(jM 32 (by decide)).inj hx.key hy.key (h 2 (by omega) (by omega))
  have e3:=(jM 32 (by decide)).inj hx.oth hy.oth (h 3 (by omega) (by omega))
  have e4:=(BP 2147483647 (by decide)).inj hx.len hy.len (h 4 (by omega) (by omega))
  have e5:=(BP 2147483647 (by decide)).inj hx.prio hy.prio (h 5 (by omega) (by omega))
  have e6:=(BP 2147483647 (by decide)).inj hx.blk hy.blk (h 6 (by omega) (by omega))
  have e7:=(NU YM 4 (by decide)).inj hx.args hy.args (h 7 (by omega) (by omega))
  have e8:=(BP 9223372036854775807 (by decide)).inj hx.idle hy.idle (h 8 (by omega) (by omega))
  have e9:=(BP 9223372036854775807 (by decide)).inj hx.hard hy.hard (h 9 (by omega) (by omega))
  have e10:=(OU 18446744073709551615 (by decide)).inj hx.cook hy.cook (h 10 (by omega) (by omega))
  have e11:=AEk.inj hx.tell hy.tell (h 11 (by omega) (by omega))
  cases x;cases y
  simp only at e1 e2 e3 e4 e5 e6 e7 e8 e9 e10 e11
  subst e1 e2 e3 e4 e5 e6 e7 e8 e9 e10 e11
  rfl
 z:=⟨(BP 2147483647 (by decide)).zg,(jM 32 (by decide)).zg,(jM 32 (by decide)).zg,(BP 2147483647 (by decide)).zg,(BP 2147483647 (by decide)).zg,(BP 2147483647 (by decide)).zg,(NU YM 4 (by decide)).zg,(BP 9223372036854775807 (by decide)).zg,(BP 9223372036854775807 (by decide)).zg,(OU 18446744073709551615 (by decide)).zg,AEk.zg⟩
 z0:=fun k=>by rcases k with _|_|_|_|_|_|_|_|_|_|_|_|k<;>first|rfl|exact(BP 2147483647 (by decide)).z0|exact(jM 32 (by decide)).z0|exact(NU YM 4 (by decide)).z0|exact(BP 9223372036854775807 (by decide)).z0|exact(OU 18446744073709551615 (by decide)).z0|exact AEk.z0
 len:=fun x k hx=>by
  rcases k with _|_|_|_|_|_|_|_|_|_|_|_|k
  ·exact Nat.zero_le _
  ·exact(BP 2147483647 (by decide)).len _ hx.tab
  ·exact(jM 32 (by decide)).len _ hx.key
  ·exact(jM 32 (by decide)).len _ hx.oth
  ·exact(BP 2147483647 (by decide)).len _ hx.len
  ·exact(BP 2147483647 (by decide)).len _ hx.prio
  ·exact(BP 2147483647 (by decide)).len _ hx.blk
  ·exact(NU YM 4 (by decide)).len _ hx.args
  ·exact(BP 9223372036854775807 (by decide)).len _ hx.idle
  ·exact(BP 9223372036854775807 (by decide)).len _ hx.hard
  ·exact(OU 18446744073709551615 (by decide)).len _ hx.cook
  ·exact AEk.len _ hx.tell
  ·exact Nat.zero_le _
 m:=by omega
theorem UB(x:C9):DL x=CR (AAb x) 11 0:=by
 unfold DL
 simp only[KW,SY,AV,AGr,List.nil_append,List.append_assoc,CR,List.append_nil]
 rfl
def JI:ES:=⟨0,[]⟩
def stepBlock(x:ES)(a:At):Option ES:=match a.t with
 | 1=>(BD 2147483647 a.v.data.toList).map fun v=>{x with id:=v}
 | 2=>(F9 FP 32 a.v.data.toList).map fun v=>{x with code:=v}
 |_=>none
def AAa(x:ES):Nat->List UInt8
 | 1=>FN x.id
 | 2=>GM BF x.code
 |_=>[]
structure NK(x:ES):Prop where
 id:gdI 2147483647 x.id
 code:gdL XY 32 x.code
theorem XB:Sch 2 stepBlock AAa NK JI where
 no:=fun y a h=>by
  unfold stepBlock
  split<;>first|rfl|omega
 is:=fun y a y' hy h=>by
  unfold stepBlock at h
  split at h
  ·rename_i ha
   obtain⟨v,hv,rfl⟩:=Option.map_eq_some_iff.1 h
   obtain⟨g1,g2⟩:=(BP 2147483647 (by decide)).ok _ _ hv
   rw[ha]
   exact⟨⟨g1,hy.code⟩,g2,fun j hj=>by rcases j with _|_|_|j<;>first|rfl|exact absurd rfl hj⟩
  ·rename_i ha
   obtain⟨v,hv,rfl⟩:=Option.map_eq_some_iff.1 h
   obtain⟨g1,g2⟩:=(NU X4 32 (by decide)).ok _ _ hv
   rw[ha]
   exact⟨⟨hy.id,g1⟩,g2,fun j hj=>by rcases j with _|_|_|j<;>first|rfl|exact absurd rfl hj⟩
  ·cases h
 back:=fun x y k hx h1 h2=>by
  rcases k with _|_|_|k
  ·omega
  ·exact⟨{y with id:=x.id},by show(BD 2147483647 (FN x.id)).map (fun v=>({y with id:=v}:ES))=_;rw[(BP 2147483647 (by decide)).back _ hx.id];rfl⟩
  ·exact⟨{y with code:=x.code},by show(F9 FP 32 (GM BF x.code)).map (fun v=>({y with code:=v}:ES))=_;rw[(NU X4 32 (by decide)).back _ hx.code];rfl⟩
  ·omega
 inj:=fun x y hx hy h=>by
  have e1:=(BP 2147483647 (by decide)).inj hx.id hy.id (h 1 (by omega) (by omega))
  have e2:=(NU X4 32 (by decide)).inj hx.code hy.code (h 2 (by omega) (by omega))
  cases x;cases y
  simp only at e1 e2
  subst e1 e2
  rfl
 z:=⟨(BP 2147483647 (by decide)).zg,(NU X4 32 (by decide)).zg⟩
 z0:=fun k=>by rcases k with _|_|_|k<;>first|rfl|exact(BP 2147483647 (by decide)).z0|exact(NU X4 32 (by decide)).z0
 len:=fun x k hx=>by
  rcases k with _|_|_|k
  ·exact Nat.zero_le _
  ·exact(BP 2147483647 (by decide)).len _ hx.id
  ·exact(NU X4 32 (by decide)).len _ hx.code
  ·exact Nat.zero_le _
 m:=by omega
theorem UA(x:ES):I9 x=CR (AAa x) 2 0:=by
 unfold I9
 simp only[KW,SY,AV,List.nil_append,CR,List.append_nil]
 rfl
def JL:EI:=⟨0,0,0,[]⟩
def CO(x:EI)(a:At):Option EI:=match a.t with
 | 1=>(BD 2147483647 a.v.data.toList).map fun v=>{x with id:=v}
 | 2=>(ET 255 a.v.data.toList).map fun v=>{x with kind:=v}
 | 3=>(BD 2147483647 a.v.data.toList).map fun v=>{x with fld:=v}
 | 4=>(F9 EQ 16 a.v.data.toList).map fun v=>{x with bks:=v}
 |_=>none
def AAd(x:EI):Nat->List UInt8
 | 1=>FN x.id
 | 2=>WX x.kind
 | 3=>FN x.fld
 | 4=>GM BC x.bks
 |_=>[]
structure NN(x:EI):Prop where
 id:gdI 2147483647 x.id
 kind:gdN 255 x.kind
 fld:gdI 2147483647 x.fld
 bks:gdL UI 16 x.bks
theorem XE:Sch 4 CO AAd NN JL where
 no:=fun y a h=>by
  unfold CO
  split<;>first|rfl|omega
 is:=fun y a y' hy h=>by
  unfold CO at h
  split at h
  ·rename_i ha
   obtain⟨v,hv,rfl⟩:=Option.map_eq_some_iff.1 h
   obtain⟨g1,g2⟩:=(BP 2147483647 (by decide)).ok _ _ hv
   rw[ha]
   exact⟨⟨g1,hy.kind,hy.fld,hy.bks⟩,g2,fun j hj=>by rcases j with _|_|_|_|_|j<;>first|rfl|exact absurd rfl hj⟩
  ·rename_i ha
   obtain⟨v,hv,rfl⟩:=Option.map_eq_some_iff.1 h
   obtain⟨g1,g2⟩:=(KM 255 (by decide)).ok _ _ hv
   rw[ha]
   exact⟨⟨hy.id,g1,hy.fld,hy.bks⟩,g2,fun j hj=>by rcases j with _|_|_|_|_|j<;>first|rfl|exact absurd rfl hj⟩
  ·rename_i ha
   obtain⟨v,hv,rfl⟩:=Option.map_eq_some_iff.1 h
   obtain⟨g1,g2⟩:=(BP 2147483647 (by decide)).ok _ _ hv
   rw[ha]
   exact⟨⟨hy.id,hy.kind,g1,hy.bks⟩,g2,fun j hj=>by rcases j with _|_|_|_|_|j<;>first|rfl|exact absurd rfl hj⟩
  ·rename_i ha
   obtain⟨v,hv,rfl⟩:=Option.map_eq_some_iff.1 h
   obtain⟨g1,g2⟩:=(NU TD 16 (by decide)).ok _ _ hv
   rw[ha]
   exact⟨⟨hy.id,hy.kind,hy.fld,g1⟩,g2,fun j hj=>by rcases j with _|_|_|_|_|j<;>first|rfl|exact absurd rfl hj⟩
  ·cases h
 back:=fun x y k hx h1 h2=>by
  rcases k with _|_|_|_|_|k
  ·omega
  ·exact⟨{y with id:=x.id},by show(BD 2147483647 (FN x.id)).map (fun v=>({y with id:=v}:EI))=_;rw[(BP 2147483647 (by decide)).back _ hx.id];rfl⟩
  ·exact⟨{y with kind:=x.kind},by show(ET 255 (WX x.kind)).map (fun v=>({y with kind:=v}:EI))=_;rw[(KM 255 (by decide)).back _ hx.kind];rfl⟩
  ·exact⟨{y with fld:=x.fld},by show(BD 2147483647 (FN x.fld)).map (fun v=>({y with fld:=v}:EI))=_;rw[(BP 2147483647 (by decide)).back _ hx.fld];rfl⟩
  ·exact⟨{y with bks:=x.bks},by show(F9 EQ 16 (GM BC x.bks)).map (fun v=>({y with bks:=v}:EI))=_;rw[(NU TD 16 (by decide)).back _ hx.bks];rfl⟩
  ·omega
 inj:=fun x y hx hy h=>by
  have e1:=(BP 2147483647 (by decide)).inj hx.id hy.id (h 1 (by omega) (by omega))
  have e2:=(KM 255 (by decide)).inj hx.kind hy.kind (h 2 (by omega) (by omega))
  have e3:=(BP 2147483647 (by decide)).inj hx.fld hy.fld (h 3 (by omega) (by omega))
  have e4:=(NU TD 16 (by decide)).inj hx.bks hy.bks (h 4 (by omega) (by omega))
  cases x;cases y
  simp only at e1 e2 e3 e4
  subst e1 e2 e3 e4
  rfl
 z:=⟨(BP 2147483647 (by decide)).zg,(KM 255 (by decide)).zg,(BP 2147483647 (by decide)).zg,(NU TD 16 (by decide)).zg⟩
 z0:=fun k=>by rcases k with _|_|_|_|_|k<;>first|rfl|exact(BP 2147483647 (by decide)).z0|exact(KM 255 (by decide)).z0|exact(NU TD 16 (by decide)).z0
 len:=fun x k hx=>by
  rcases k with _|_|_|_|_|k
  ·exact Nat.zero_le _
  ·exact(BP 2147483647 (by decide)).len _ hx.id
  ·exact(KM 255 (by decide)).len _ hx.kind
  ·exact(BP 2147483647 (by decide)).len _ hx.fld
  ·exact(NU TD 16 (by decide)).len _ hx.bks
  ·exact Nat.zero_le _
 m:=by omega
theorem UD(x:EI):G9 x=CR (AAd x) 4 0:=by
 unfold G9
 simp only[KW,SY,AV,List.nil_append,List.append_assoc,CR,List.append_nil]
 rfl
def JM:FJ:=⟨0,0,0⟩
def DF(x:FJ)(a:At):Option FJ:=match a.t with
 | 1=>(BD 2147483647 a.v.data.toList).map fun v=>{x with id:=v}
 | 2=>(BD 9223372036854775807 a.v.data.toList).map fun v=>{x with rate:=v}
 | 3=>(BD 9223372036854775807 a.v.data.toList).map fun v=>{x with burst:=v}
 |_=>none
def AAg(x:FJ):Nat->List UInt8
 | 1=>FN x.id
 | 2=>FN x.rate
 | 3=>FN x.burst
 |_=>[]
structure NP(x:FJ):Prop where
 id:gdI 2147483647 x.id
 rate:gdI 9223372036854775807 x.rate
 burst:gdI 9223372036854775807 x.burst
theorem XF:Sch 3 DF AAg NP JM where
 no:=fun y a h=>by
  unfold DF
  split<;>first|rfl|omega
 is:=fun y a y' hy h=>by
  unfold DF at h
  split at h
  ·rename_i ha
   obtain⟨v,hv,rfl⟩:=Option.map_eq_some_iff.1 h
   obtain⟨g1,g2⟩:=(BP 2147483647 (by decide)).ok _ _ hv
   rw[ha]
   exact⟨⟨g1,hy.rate,hy.burst⟩,g2,fun j hj=>by rcases j with _|_|_|_|j<;>first|rfl|exact absurd rfl hj⟩
  ·rename_i ha
   obtain⟨v,hv,rfl⟩:=Option.map_eq_some_iff.1 h
   obtain⟨g1,g2⟩:=(BP 9223372036854775807 (by decide)).ok _ _ hv
   rw[ha]
   exact⟨⟨hy.id,g1,hy.burst⟩,g2,fun j hj=>by rcases j with _|_|_|_|j<;>first|rfl|exact absurd rfl hj⟩
  ·rename_i ha
   obtain⟨v,hv,rfl⟩:=Option.map_eq_some_iff.1 h
   obtain⟨g1,g2⟩:=(BP 9223372036854775807 (by decide)).ok _ _ hv
   rw[ha]
   exact⟨⟨hy.id,hy.rate,g1⟩,g2,fun j hj=>by rcases j with _|_|_|_|j<;>first|rfl|exact absurd rfl hj⟩
  ·cases h
 back:=fun x y k hx h1 h2=>by
  rcases k with _|_|_|_|k
  ·omega
  ·exact⟨{y with id:=x.id},by show(BD 2147483647 (FN x.id)).map (fun v=>({y with id:=v}:FJ))=_;rw[(BP 2147483647 (by decide)).back _ hx.id];rfl⟩
  ·exact⟨{y with rate:=x.rate},by show(BD 9223372036854775807 (FN x.rate)).map (fun v=>({y with rate:=v}:FJ))=_;rw[(BP 9223372036854775807 (by decide)).back _ hx.rate];rfl⟩
  ·exact⟨{y with burst:=x.burst},by show(BD 9223372036854775807 (FN x.burst)).map (fun v=>({y with burst:=v}:FJ))=_;rw[(BP 9223372036854775807 (by decide)).back _ hx.burst];rfl⟩
  ·omega
 inj:=fun x y hx hy h=>by
  have e1:=(BP 2147483647 (by decide)).inj hx.id hy.id (h 1 (by omega) (by omega))
  have e2:=(BP 9223372036854775807 (by decide)).inj hx.rate hy.rate (h 2 (by omega) (by omega))
  have e3:=(BP 9223372036854775807 (by decide)).inj hx.burst hy.burst (h 3 (by omega) (by omega))
  cases x;cases y
  simp only at e1 e2 e3
  subst e1 e2 e3
  rfl
 z:=⟨(BP 2147483647 (by decide)).zg,(BP 9223372036854775807 (by decide)).zg,(BP 9223372036854775807 (by decide)).zg⟩
 z0:=fun k=>by rcases k with _|_|_|_|k<;>first|rfl|exact(BP 2147483647 (by decide)).z0|exact(BP 9223372036854775807 (by decide)).z0
 len:=fun x k hx=>by
  rcases k with _|_|_|_|k
  ·exact Nat.zero_le _
  ·exact(BP 2147483647 (by decide)).len _ hx.id
  ·exact(BP 9223372036854775807 (by decide)).len _ hx.rate
  ·exact(BP 9223372036854775807 (by decide)).len _ hx.burst
  ·exact Nat.zero_le _
 m:=by omega
theorem UE(x:FJ):IK x=CR (AAg x) 3 0:=by
 unfold IK
 simp only[KW,List.nil_append,List.append_assoc,CR,List.append_nil]
 rfl
def L9:IJ:=⟨0,0⟩
def ED(x:IJ)(a:At):Option IJ:=match a.t with
 | 1=>(BD 2147483647 a.v.data.toList).map fun v=>{x with id:=v}
 | 2=>(BD 2147483647 a.v.data.toList).map fun v=>{x with size:=v}
 |_=>none
def ADC(x:IJ):Nat->List UInt8
 | 1=>FN x.id
 | 2=>FN x.size
 |_=>[]
structure PE(x:IJ):Prop where
 id:gdI 2147483647 x.id
 size:gdI 2147483647 x.size
theorem bR:Sch 2 ED ADC PE L9 where
 no:=fun y a h=>by
  unfold ED
  split<;>first|rfl|omega
 is:=fun y a y' hy h=>by
  unfold ED at h
  split at h
  ·rename_i ha
   obtain⟨v,hv,rfl⟩:=Option.map_eq_some_iff.1 h
   obtain⟨g1,g2⟩:=(BP 2147483647 (by decide)).ok _ _ hv
   rw[ha]
   exact⟨⟨g1,hy.size⟩,g2,fun j hj=>by rcases j with _|_|_|j<;>first|rfl|exact absurd rfl hj⟩
  ·rename_i ha
   obtain⟨v,hv,rfl⟩:=Option.map_eq_some_iff.1 h
   obtain⟨g1,g2⟩:=(BP 2147483647 (by decide)).ok _ _ hv
   rw[ha]
   exact⟨⟨hy.id,g1⟩,g2,fun j hj=>by rcases j with _|_|_|j<;>first|rfl|exact absurd rfl hj⟩
  ·cases h
 back:=fun x y k hx h1 h2=>by
  rcases k with _|_|_|k
  ·omega
  ·exact⟨{y with id:=x.id},by show(BD 2147483647 (FN x.id)).map (fun v=>({y with id:=v}:IJ))=_;rw[(BP 2147483647 (by decide)).back _ hx.id];rfl⟩
  ·exact⟨{y with size:=x.size},by show(BD 2147483647 (FN x.size)).map (fun v=>({y with size:=v}:IJ))=_;rw[(BP 2147483647 (by decide)).back _ hx.size];rfl⟩
  ·omega
 inj:=fun x y hx hy h=>by
  have e1:=(BP 2147483647 (by decide)).inj hx.id hy.id (h 1 (by omega) (by omega))
  have e2:=(BP 2147483647 (by decide)).inj hx.size hy.size (h 2 (by omega) (by omega))
  cases x;cases y
  simp only at e1 e2
  subst e1 e2
  rfl
 z:=⟨(BP 2147483647 (by decide)).zg,(BP 2147483647 (by decide)).zg⟩
 z0:=fun k=>by rcases k with _|_|_|k<;>first|rfl|exact(BP 2147483647 (by decide)).z0
 len:=fun x k hx=>by
  rcases k with _|_|_|k
  ·exact Nat.zero_le _
  ·exact(BP 2147483647 (by decide)).len _ hx.id
  ·exact(BP 2147483647 (by decide)).len _ hx.size
  ·exact Nat.zero_le _
 m:=by omega
theorem VZ(x:IJ):KF x=CR (ADC x) 2 0:=by
 unfold KF
 simp only[KW,List.nil_append,CR,List.append_nil]
 rfl
end Go.Tlv
