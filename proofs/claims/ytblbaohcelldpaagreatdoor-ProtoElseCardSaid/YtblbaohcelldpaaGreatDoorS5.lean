/- The kinds of objects: what is read of them, what is put, and that the one undoes the other. -/
import Derived.Test.YtblbaohcelldpaaGreatDoorS4
set_option linter.all false
namespace Go.Tlv
open Go Go.Abs
structure Cod{β:Type}(get:List UInt8->Option β)(put:β->List UInt8)(good:β->Prop)(z:β):Prop where
 back:∀a,good a->get (put a)=some a
 ok:∀s a,get s=some a->good a/\put a=s
 len:∀a,good a->(put a).length<=65535
 z0:put z=[]
 zg:good z
theorem Cod.inj{β:Type}{get:List UInt8->Option β}{put:β->List UInt8}{good:β->Prop}{z:β}(C:Cod get put good z){a b:β}(ha:good a)(hb:good b)(h:put a=put b):a=b:=by
 have h1:=C.back a ha
 rw[h,C.back b hb]at h1
 simp only[Option.some.injEq]at h1;exact h1.symm
theorem u64N_nat{n:Nat}(h:n<18446744073709551616):u64N (n:Int)=n:=by unfold u64N;omega
theorem lt8{n:Nat}(h:n<18446744073709551616):n<256 ^ 8:=by
 have h3:(256:Nat) ^ 8=18446744073709551616:=by decide
 omega
theorem numB_len8{n:Nat}(h:n<18446744073709551616):(numB n).length<=65535:=Nat.le_trans (numB_len (k:=8) (lt8 h)) (by omega)
def getI(top:Nat)(s:List UInt8):Option Int:=(rnum s top).map (fun n:Nat=>(n:Int))
def putI(v:Int):List UInt8:=numB (u64N v)
def gdI(top:Nat)(v:Int):Prop:=0<=v/\v<=(top:Int)
theorem codI(top:Nat)(h:top<18446744073709551616):Cod (getI top) putI (gdI top) 0 where
 back:=fun a ⟨h1,h2⟩=>by
  obtain⟨m,rfl⟩:=Int.eq_ofNat_of_zero_le h1
  unfold getI putI
  rw[u64N_nat (by omega),rnum_numB (by omega) (by omega)];rfl
 ok:=fun s a hs=>by
  obtain⟨n,hn,rfl⟩:=Option.map_eq_some_iff.1 hs
  obtain⟨h1,h2,h3⟩:=rnum_ok hn
  refine⟨⟨by omega,by omega⟩,?_⟩
  unfold putI
  rw[u64N_nat h3];exact h1
 len:=fun a ⟨h1,h2⟩=>numB_len8 (u64N_lt a)
 z0:=numB_zero
 zg:=⟨by omega,by omega⟩
def getN(top:Nat)(s:List UInt8):Option Nat:=rnum s top
def putU(v:Nat):List UInt8:=numB (u64N (v:Int))
def putN(v:Nat):List UInt8:=numB v
def gdN(top:Nat)(v:Nat):Prop:=v<=top
theorem codU(top:Nat)(h:top<18446744073709551616):Cod (getN top) putU (gdN top) 0 where
 back:=fun a (h1:a<=top)=>by
  unfold getN putU
  rw[u64N_nat (by omega),rnum_numB (by omega) (by omega)]
 ok:=fun s a hs=>by
  obtain⟨h1,h2,h3⟩:=rnum_ok hs
  refine⟨h2,?_⟩
  unfold putU
  rw[u64N_nat h3];exact h1
 len:=fun a (h1:a<=top)=>numB_len8 (u64N_lt _)
 z0:=numB_zero
 zg:=Nat.zero_le _
theorem codN(top:Nat)(h:top<18446744073709551616):Cod (getN top) putN (gdN top) 0 where
 back:=fun a (h1:a<=top)=>rnum_numB h1 (by omega)
 ok:=fun s a hs=>by
  obtain⟨h1,h2,h3⟩:=rnum_ok hs
  exact⟨h2,h1⟩
 len:=fun a (h1:a<=top)=>numB_len8 (by omega)
 z0:=numB_zero
 zg:=Nat.zero_le _
def getS(top:Nat)(s:List UInt8):Option ByteArray:=if s.length<=top then some (bytesOf s)else none
def putT(v:ByteArray):List UInt8:=v.data.toList
def gdS(top:Nat)(v:ByteArray):Prop:=v.data.toList.length<=top
theorem codS(top:Nat)(h:top<=65535):Cod (getS top) putT (gdS top) (bytesOf []) where
 back:=fun a (h1:a.data.toList.length<=top)=>by
  unfold getS putT
  rw[if_pos h1,bytes_eta]
 ok:=fun s a hs=>by
  unfold getS at hs
  split at hs
  ·rename_i h1
   simp only[Option.some.injEq]at hs;subst hs
   exact⟨h1,rfl⟩
  ·cases hs
 len:=fun a (h1:a.data.toList.length<=top)=>Nat.le_trans h1 h
 z0:=rfl
 zg:=Nat.zero_le _
def getB(s:List UInt8):Option Bool:=(rnum s 1).map fun n=>n==1
def putB(b:Bool):List UInt8:=if b=true then numB 1 else[]
def gdB(b:Bool):Prop:=True
theorem codB:Cod getB putB gdB false where
 back:=fun a _=>by
  cases a
  ·rfl
  ·unfold getB putB
   rw[if_pos rfl,rnum_numB (by omega) (by omega)];rfl
 ok:=fun s a hs=>by
  obtain⟨n,hn,rfl⟩:=Option.map_eq_some_iff.1 hs
  obtain⟨h1,h2,h3⟩:=rnum_ok hn
  refine⟨trivial,?_⟩
  have:n=0∨n=1:=by omega
  rcases this with rfl|rfl
  ·rw[←h1,numB_zero];rfl
  ·exact h1
 len:=fun a _=>by
  unfold putB
  split
  ·exact numB_len8 (by omega)
  ·simp
 z0:=rfl
 zg:=trivial
structure ItemOk{β:Type}(rd:List UInt8->Option β)(one:β->ByteArray)(good:β->Prop):Prop where
 back:∀a,good a->rd (one a).data.toList=some a
 ok:∀s a,rd s=some a->good a/\(one a).data.toList=s
 len:∀a,good a->(one a).data.toList.length<=2000
def getL{β:Type}(rd:List UInt8->Option β)(top:Nat)(s:List UInt8):Option (List β):=if (lstE top 0 s).1=0 then mapO (fun b=>rd b.data.toList) (lstE top 0 s).2 else none
def putL{β:Type}(one:β->ByteArray)(l:List β):List UInt8:=listS (l.map one)
def gdL{β:Type}(good:β->Prop)(top:Nat)(l:List β):Prop:=l.length<=top/\∀a∈l,good a
theorem listE_of:∀ {l:List ByteArray},(∀s∈l,s.data.toList.length<=65535)->listE l=0
 | [],_=>rfl
 |s::l,h=>by
  unfold listE
  rw[if_neg (Nat.not_lt.2 (h s (List.mem_cons_self ..)))]
  exact listE_of fun x hx=>h x (List.mem_cons_of_mem _ hx)
theorem itsB_len:∀ {l:List ByteArray} {n:Nat},(∀s∈l,s.data.toList.length<=n)->(itsB l).length<=l.length*(n+2)
 | [],n,_=>by simp[itsB]
 |s::l,n,h=>by
  have h1:=h s (List.mem_cons_self ..)
  have h2:=itsB_len (l:=l) (n:=n) fun x hx=>h x (List.mem_cons_of_mem _ hx)
  show(itB s++itsB l).length<=_
  rw[List.length_append,List.length_cons,Nat.succ_mul]
  have:(itB s).length=2+s.data.toList.length:=by simp[itB,two];omega
  omega
theorem codL {β:Type} {rd:List UInt8->Option β} {one:β->ByteArray} {good:β->Prop} (I:ItemOk rd one good) (top:Nat) (h:top<=32):Cod (getL rd top) (putL one) (gdL good top) [] where
  back:=fun l ⟨h1,h2⟩=>by
    have hs:∀s∈l.map one,s.data.toList.length<=65535:=fun s hs=>by
      obtain⟨a,ha,rfl⟩:=List.mem_map.1 hs
      exact Nat.le_trans (I.len a (h2 a ha)) (by omega)
    unfold getL putL listS
    rw[if_pos (listE_of hs),show listBB (l.map one)=itsB (l.map one)from rfl,lstE_itsB _ top 0 hs (by simp;exact h1),if_pos rfl]
    exact mapO_map fun b hb=>I.back b (h2 b hb)
  ok := fun s l hs=>by
    unfold getL at hs
    split at hs
    · rename_i h0
      have hd:lstE top 0 s=(0,(lstE top 0 s).2):=Prod.ext h0 rfl
      obtain⟨k1,k2,k3⟩:=lstE_ok s.length s top 0 _ (Nat.le_refl _) hd
      obtain⟨g1,g2⟩:=mapO_ok hs
      have g3:=g2 one fun a b hab=>bytes_ext (I.ok _ _ hab).2
      refine⟨⟨?_,mapO_all (fun a b hab=>(I.ok _ _ hab).1) hs⟩,?_⟩
      · rw[g1]
        rcases k2 with k2|k2
        · omega
        · rw[k2];simp
      · unfold putL listS
        rw[g3,if_pos (listE_of k3)];exact k1
    · cases hs
  len:=fun l ⟨h1,h2⟩=>by
    unfold putL listS
    split
    · show(itsB (l.map one)).length<=_
      have:=itsB_len (l:=l.map one) (n:=2000) fun s hs=>by
        obtain⟨a,ha,rfl⟩:=List.mem_map.1 hs
        exact I.len a (h2 a ha)
      rw[List.length_map]at this
      have h3:l.length*(2000+2)<=32*(2000+2):=Nat.mul_le_mul_right _ (by omega)
      omega
    · simp
  z0:=rfl
  zg:=⟨Nat.zero_le _,fun a ha=>by cases ha⟩
theorem addT_one(l:List At)(k:Nat)(s:ByteArray):addT l k s=l++one1 k s.data.toList:=by
 unfold addT one1
 split
 ·simp
 ·rw[bytes_eta]
theorem addN_one(l:List At)(k n:Nat):addN l k n=l++one1 k (numB n):=by unfold addN;rw[addT_one];rfl
theorem addB_one(l:List At)(k:Nat)(b:Bool):addB l k b=l++one1 k (putB b):=by
 unfold addB putB
 split
 ·exact addN_one l k 1
 ·simp[one1]
theorem encS_len{l:List At}{n:Nat}(h:∀a∈l,a.v.data.toList.length<=n):(encS l).length<=l.length*(n+3):=by
 unfold encS
 split
 ·rename_i h0
  clear h0
  induction l with
  |nil=>simp[attsB]
  |cons a l ih=>
   have h1:=h a (List.mem_cons_self ..)
   have h2:=ih fun x hx=>h x (List.mem_cons_of_mem _ hx)
   show(attB a++attsB l).length<=_
   rw[List.length_append,List.length_cons,Nat.succ_mul]
   have:(attB a).length=3+a.v.data.toList.length:=by simp[attB,two];omega
   omega
 ·simp
theorem atFrom_len{f:Nat->List UInt8}:∀(n j:Nat),(atFrom f n j).length<=n
 | 0,_=>by simp[atFrom]
 |n+1,j=>by
  have:=atFrom_len (f:=f) n (j+1)
  simp only[atFrom,List.length_append]
  have:(one1 (j+1) (f (j+1))).length<=1:=by unfold one1;split<;>simp
  omega
theorem atFrom_v{f:Nat->List UInt8}{b:Nat}(hf:∀k,(f k).length<=b):∀(n j:Nat),∀a∈atFrom f n j,a.v.data.toList.length<=b
 | 0,_,a,h=>by cases h
 |n+1,j,a,h=>by
  simp only[atFrom,List.mem_append]at h
  rcases h with h|h
  ·unfold one1 at h
   split at h
   ·cases h
   ·simp only[List.mem_singleton]at h;subst h;exact hf _
  ·exact atFrom_v hf n (j+1) a h
def rdO{α:Type}(step:α->At->Option α)(zero:α)(s:List UInt8):Option α:=if (rdE step zero s).1=0 then some (rdE step zero s).2 else none
theorem itemOf{α:Type}{m:Nat}{step:α->At->Option α}{put:α->Nat->List UInt8}{ok:α->Prop}{zero:α}(S:Sch m step put ok zero)(hm:m<=7)(h8:∀x k,ok x->(put x k).length<=8){one:α->ByteArray}(ho:∀x,one x=bytesOf (encS (atFrom (put x) m 0))):ItemOk (rdO step zero) one ok where
 back:=fun a ha=>by
  unfold rdO
  rw[ho,bytes_toList,S.rd_put ha];rfl
 ok:=fun s a hs=>by
  unfold rdO at hs
  split at hs
  ·rename_i h0
   simp only[Option.some.injEq]at hs
   have:rdE step zero s=(0,a):=Prod.ext h0 hs
   obtain⟨h1,h2⟩:=S.rd_ok this
   exact⟨h1,by rw[ho];exact h2⟩
  ·cases hs
 len:=fun a ha=>by
  rw[ho,bytes_toList]
  have h1:=encS_len (l:=atFrom (put a) m 0) (n:=8) (atFrom_v (fun k=>h8 a k ha) m 0)
  have h2:=atFrom_len (f:=put a) m 0
  have h3:(atFrom (put a) m 0).length*(8+3)<=7*(8+3):=Nat.mul_le_mul_right _ (by omega)
  omega
theorem numB_8{n:Nat}(h:n<18446744073709551616):(numB n).length<=8:=numB_len (k:=8) (lt8 h)
def rdInt(s:List UInt8):Option Int:=getI 2147483647 s
def rdNat(s:List UInt8):Option Nat:=getN 18446744073709551615 s
def goodInt(n:Int):Prop:=gdI 2147483647 n
def goodNat(n:Nat):Prop:=gdN 18446744073709551615 n
theorem itInt:ItemOk rdInt oneInt goodInt where
 back:=fun a ha=>(codI 2147483647 (by decide)).back a ha
 ok:=fun s a hs=>(codI 2147483647 (by decide)).ok s a hs
 len:=fun a ha=>Nat.le_trans (numB_8 (u64N_lt a)) (by omega)
theorem itNat:ItemOk rdNat oneNat goodNat where
 back:=fun a ha=>(codN 18446744073709551615 (by decide)).back a ha
 ok:=fun s a hs=>(codN 18446744073709551615 (by decide)).ok s a hs
 len:=fun a (ha:a<=18446744073709551615)=>Nat.le_trans (numB_8 (by omega)) (by omega)
def zArm:Arm:=⟨0,0⟩
def stepArm(x:Arm)(a:At):Option Arm:=match a.t with
 | 1=>(getN 4294967295 a.v.data.toList).map fun v=>{x with v:=v}
 | 2=>(getI 2147483647 a.v.data.toList).map fun v=>{x with nx:=v}
 |_=>none
def putArm(x:Arm):Nat->List UInt8
 | 1=>putU x.v
 | 2=>putI x.nx
 |_=>[]
structure goodArm(x:Arm):Prop where
 v:gdN 4294967295 x.v
 nx:gdI 2147483647 x.nx
theorem schArm:Sch 2 stepArm putArm goodArm zArm where
 no:=fun y a h=>by
  unfold stepArm
  split<;>first|rfl|omega
 is:=fun y a y' hy h=>by
  unfold stepArm at h
  split at h
  ·rename_i ha
   obtain⟨v,hv,rfl⟩:=Option.map_eq_some_iff.1 h
   obtain⟨g1,g2⟩:=(codU 4294967295 (by decide)).ok _ _ hv
   rw[ha]
   exact⟨⟨g1,hy.nx⟩,g2,fun j hj=>by rcases j with _|_|_|j<;>first|rfl|exact absurd rfl hj⟩
  ·rename_i ha
   obtain⟨v,hv,rfl⟩:=Option.map_eq_some_iff.1 h
   obtain⟨g1,g2⟩:=(codI 2147483647 (by decide)).ok _ _ hv
   rw[ha]
   exact⟨⟨hy.v,g1⟩,g2,fun j hj=>by rcases j with _|_|_|j<;>first|rfl|exact absurd rfl hj⟩
  ·cases h
 back:=fun x y k hx h1 h2=>by
  rcases k with _|_|_|k
  ·omega
  ·exact⟨{y with v:=x.v},by show(getN 4294967295 (putU x.v)).map (fun v=>({y with v:=v}:Arm))=_;rw[(codU 4294967295 (by decide)).back _ hx.v];rfl⟩
  ·exact⟨{y with nx:=x.nx},by show(getI 2147483647 (putI x.nx)).map (fun v=>({y with nx:=v}:Arm))=_;rw[(codI 2147483647 (by decide)).back _ hx.nx];rfl⟩
  ·omega
 inj:=fun x y hx hy h=>by
  have e1:=(codU 4294967295 (by decide)).inj hx.v hy.v (h 1 (by omega) (by omega))
  have e2:=(codI 2147483647 (by decide)).inj hx.nx hy.nx (h 2 (by omega) (by omega))
  cases x;cases y
  simp only at e1 e2
  subst e1 e2
  rfl
 z:=⟨(codU 4294967295 (by decide)).zg,(codI 2147483647 (by decide)).zg⟩
 z0:=fun k=>by rcases k with _|_|_|k<;>first|rfl|exact(codU 4294967295 (by decide)).z0|exact(codI 2147483647 (by decide)).z0
 len:=fun x k hx=>by
  rcases k with _|_|_|k
  ·exact Nat.zero_le _
  ·exact(codU 4294967295 (by decide)).len _ hx.v
  ·exact(codI 2147483647 (by decide)).len _ hx.nx
  ·exact Nat.zero_le _
 m:=by omega
theorem attsArm_eq(x:Arm):attsArm x=atFrom (putArm x) 2 0:=by
 unfold attsArm
 simp only[addN_one,List.nil_append,atFrom,List.append_nil]
 rfl
def rdArm(s:List UInt8):Option Arm:=rdO stepArm zArm s
theorem itArm:ItemOk rdArm oneArm goodArm:=itemOf schArm (by omega) (fun x k hx=>by
 rcases k with _|_|_|k
 ·exact Nat.zero_le _
 ·exact numB_8 (u64N_lt _)
 ·exact numB_8 (u64N_lt _)
 ·exact Nat.zero_le _) fun x=>by unfold oneArm;rw[attsArm_eq]
def zInstr:Instr:=⟨0,0,0,0,0,0,0⟩
def stepInstr(x:Instr)(a:At):Option Instr:=match a.t with
 | 1=>(getN 255 a.v.data.toList).map fun v=>{x with op:=v}
 | 2=>(getI 2147483647 a.v.data.toList).map fun v=>{x with to:=v}
 | 3=>(getN 255 a.v.data.toList).map fun v=>{x with ak:=v}
 | 4=>(getN 18446744073709551615 a.v.data.toList).map fun v=>{x with an:=v}
 | 5=>(getN 255 a.v.data.toList).map fun v=>{x with bk:=v}
 | 6=>(getN 18446744073709551615 a.v.data.toList).map fun v=>{x with bn:=v}
 | 7=>(getI 2147483647 a.v.data.toList).map fun v=>{x with n:=v}
 |_=>none
def putInstr(x:Instr):Nat->List UInt8
 | 1=>putU x.op
 | 2=>putI x.to
 | 3=>putU x.ak
 | 4=>putN x.an
 | 5=>putU x.bk
 | 6=>putN x.bn
 | 7=>putI x.n
 |_=>[]
structure goodInstr(x:Instr):Prop where
 op:gdN 255 x.op
 to:gdI 2147483647 x.to
 ak:gdN 255 x.ak
 an:gdN 18446744073709551615 x.an
 bk:gdN 255 x.bk
 bn:gdN 18446744073709551615 x.bn
 n:gdI 2147483647 x.n
theorem schInstr:Sch 7 stepInstr putInstr goodInstr zInstr where
 no:=fun y a h=>by
  unfold stepInstr
  split<;>first|rfl|omega
 is:=fun y a y' hy h=>by
  unfold stepInstr at h
  split at h
  ·rename_i ha
   obtain⟨v,hv,rfl⟩:=Option.map_eq_some_iff.1 h
   obtain⟨g1,g2⟩:=(codU 255 (by decide)).ok _ _ hv
   rw[ha]
   exact⟨⟨g1,hy.to,hy.ak,hy.an,hy.bk,hy.bn,hy.n⟩,g2,fun j hj=>by rcases j with _|_|_|_|_|_|_|_|j<;>first|rfl|exact absurd rfl hj⟩
  ·rename_i ha
   obtain⟨v,hv,rfl⟩:=Option.map_eq_some_iff.1 h
   obtain⟨g1,g2⟩:=(codI 2147483647 (by decide)).ok _ _ hv
   rw[ha]
   exact⟨⟨hy.op,g1,hy.ak,hy.an,hy.bk,hy.bn,hy.n⟩,g2,fun j hj=>by rcases j with _|_|_|_|_|_|_|_|j<;>first|rfl|exact absurd rfl hj⟩
  ·rename_i ha
   obtain⟨v,hv,rfl⟩:=Option.map_eq_some_iff.1 h
   obtain⟨g1,g2⟩:=(codU 255 (by decide)).ok _ _ hv
   rw[ha]
   exact⟨⟨hy.op,hy.to,g1,hy.an,hy.bk,hy.bn,hy.n⟩,g2,fun j hj=>by rcases j with _|_|_|_|_|_|_|_|j<;>first|rfl|exact absurd rfl hj⟩
  ·rename_i ha
   obtain⟨v,hv,rfl⟩:=Option.map_eq_some_iff.1 h
   obtain⟨g1,g2⟩:=(codN 18446744073709551615 (by decide)).ok _ _ hv
   rw[ha]
   exact⟨⟨hy.op,hy.to,hy.ak,g1,hy.bk,hy.bn,hy.n⟩,g2,fun j hj=>by rcases j with _|_|_|_|_|_|_|_|j<;>first|rfl|exact absurd rfl hj⟩
  ·rename_i ha
   obtain⟨v,hv,rfl⟩:=Option.map_eq_some_iff.1 h
   obtain⟨g1,g2⟩:=(codU 255 (by decide)).ok _ _ hv
   rw[ha]
   exact⟨⟨hy.op,hy.to,hy.ak,hy.an,g1,hy.bn,hy.n⟩,g2,fun j hj=>by rcases j with _|_|_|_|_|_|_|_|j<;>first|rfl|exact absurd rfl hj⟩
  ·rename_i ha
   obtain⟨v,hv,rfl⟩:=Option.map_eq_some_iff.1 h
   obtain⟨g1,g2⟩:=(codN 18446744073709551615 (by decide)).ok _ _ hv
   rw[ha]
   exact⟨⟨hy.op,hy.to,hy.ak,hy.an,hy.bk,g1,hy.n⟩,g2,fun j hj=>by rcases j with _|_|_|_|_|_|_|_|j<;>first|rfl|exact absurd rfl hj⟩
  ·rename_i ha
   obtain⟨v,hv,rfl⟩:=Option.map_eq_some_iff.1 h
   obtain⟨g1,g2⟩:=(codI 2147483647 (by decide)).ok _ _ hv
   rw[ha]
   exact⟨⟨hy.op,hy.to,hy.ak,hy.an,hy.bk,hy.bn,g1⟩,g2,fun j hj=>by rcases j with _|_|_|_|_|_|_|_|j<;>first|rfl|exact absurd rfl hj⟩
  ·cases h
 back:=fun x y k hx h1 h2=>by
  rcases k with _|_|_|_|_|_|_|_|k
  ·omega
  ·exact⟨{y with op:=x.op},by show(getN 255 (putU x.op)).map (fun v=>({y with op:=v}:Instr))=_;rw[(codU 255 (by decide)).back _ hx.op];rfl⟩
  ·exact⟨{y with to:=x.to},by show(getI 2147483647 (putI x.to)).map (fun v=>({y with to:=v}:Instr))=_;rw[(codI 2147483647 (by decide)).back _ hx.to];rfl⟩
  ·exact⟨{y with ak:=x.ak},by show(getN 255 (putU x.ak)).map (fun v=>({y with ak:=v}:Instr))=_;rw[(codU 255 (by decide)).back _ hx.ak];rfl⟩
  ·exact⟨{y with an:=x.an},by show(getN 18446744073709551615 (putN x.an)).map (fun v=>({y with an:=v}:Instr))=_;rw[(codN 18446744073709551615 (by decide)).back _ hx.an];rfl⟩
  ·exact⟨{y with bk:=x.bk},by show(getN 255 (putU x.bk)).map (fun v=>({y with bk:=v}:Instr))=_;rw[(codU 255 (by decide)).back _ hx.bk];rfl⟩
  ·exact⟨{y with bn:=x.bn},by show(getN 18446744073709551615 (putN x.bn)).map (fun v=>({y with bn:=v}:Instr))=_;rw[(codN 18446744073709551615 (by decide)).back _ hx.bn];rfl⟩
  ·exact⟨{y with n:=x.n},by show(getI 2147483647 (putI x.n)).map (fun v=>({y with n:=v}:Instr))=_;rw[(codI 2147483647 (by decide)).back _ hx.n];rfl⟩
  ·omega
 inj:=fun x y hx hy h=>by
  have e1:=(codU 255 (by decide)).inj hx.op hy.op (h 1 (by omega) (by omega))
  have e2:=(codI 2147483647 (by decide)).inj hx.to hy.to (h 2 (by omega) (by omega))
  have e3:=(codU 255 (by decide)).inj hx.ak hy.ak (h 3 (by omega) (by omega))
  have e4:=(codN 18446744073709551615 (by decide)).inj hx.an hy.an (h 4 (by omega) (by omega))
  have e5:=(codU 255 (by decide)).inj hx.bk hy.bk (h 5 (by omega) (by omega))
  have e6:=(codN 18446744073709551615 (by decide)).inj hx.bn hy.bn (h 6 (by omega) (by omega))
  have e7:=(codI 2147483647 (by decide)).inj hx.n hy.n (h 7 (by omega) (by omega))
  cases x;cases y
  simp only at e1 e2 e3 e4 e5 e6 e7
  subst e1 e2 e3 e4 e5 e6 e7
  rfl
 z:=⟨(codU 255 (by decide)).zg,(codI 2147483647 (by decide)).zg,(codU 255 (by decide)).zg,(codN 18446744073709551615 (by decide)).zg,(codU 255 (by decide)).zg,(codN 18446744073709551615 (by decide)).zg,(codI 2147483647 (by decide)).zg⟩
 z0:=fun k=>by rcases k with _|_|_|_|_|_|_|_|k<;>first|rfl|exact(codU 255 (by decide)).z0|exact(codI 2147483647 (by decide)).z0|exact(codN 18446744073709551615 (by decide)).z0
 len:=fun x k hx=>by
  rcases k with _|_|_|_|_|_|_|_|k
  ·exact Nat.zero_le _
  ·exact(codU 255 (by decide)).len _ hx.op
  ·exact(codI 2147483647 (by decide)).len _ hx.to
  ·exact(codU 255 (by decide)).len _ hx.ak
  ·exact(codN 18446744073709551615 (by decide)).len _ hx.an
  ·exact(codU 255 (by decide)).len _ hx.bk
  ·exact(codN 18446744073709551615 (by decide)).len _ hx.bn
  ·exact(codI 2147483647 (by decide)).len _ hx.n
  ·exact Nat.zero_le _
 m:=by omega
theorem attsInstr_eq(x:Instr):attsInstr x=atFrom (putInstr x) 7 0:=by
 unfold attsInstr
 simp only[addN_one,List.nil_append,List.append_assoc,atFrom,List.append_nil]
 rfl
def rdInstr(s:List UInt8):Option Instr:=rdO stepInstr zInstr s
theorem itInstr:ItemOk rdInstr oneInstr goodInstr:=itemOf schInstr (by omega) (fun x k hx=>by
 rcases k with _|_|_|_|_|_|_|_|k
 ·exact Nat.zero_le _
 ·exact numB_8 (u64N_lt _)
 ·exact numB_8 (u64N_lt _)
 ·exact numB_8 (u64N_lt _)
 ·exact numB_8 (by have h:=hx.an;unfold gdN at h;omega)
 ·exact numB_8 (u64N_lt _)
 ·exact numB_8 (by have h:=hx.bn;unfold gdN at h;omega)
 ·exact numB_8 (u64N_lt _)
 ·exact Nat.zero_le _) fun x=>by unfold oneInstr;rw[attsInstr_eq]
def zBucket:Bucket:=⟨0,0⟩
def stepBucket(x:Bucket)(a:At):Option Bucket:=match a.t with
 | 1=>(getN 18446744073709551615 a.v.data.toList).map fun v=>{x with w:=v}
 | 2=>(getI 2147483647 a.v.data.toList).map fun v=>{x with b:=v}
 |_=>none
def putBucket(x:Bucket):Nat->List UInt8
 | 1=>putN x.w
 | 2=>putI x.b
 |_=>[]
structure goodBucket(x:Bucket):Prop where
 w:gdN 18446744073709551615 x.w
 b:gdI 2147483647 x.b
theorem schBucket:Sch 2 stepBucket putBucket goodBucket zBucket where
 no:=fun y a h=>by
  unfold stepBucket
  split<;>first|rfl|omega
 is:=fun y a y' hy h=>by
  unfold stepBucket at h
  split at h
  ·rename_i ha
   obtain⟨v,hv,rfl⟩:=Option.map_eq_some_iff.1 h
   obtain⟨g1,g2⟩:=(codN 18446744073709551615 (by decide)).ok _ _ hv
   rw[ha]
   exact⟨⟨g1,hy.b⟩,g2,fun j hj=>by rcases j with _|_|_|j<;>first|rfl|exact absurd rfl hj⟩
  ·rename_i ha
   obtain⟨v,hv,rfl⟩:=Option.map_eq_some_iff.1 h
   obtain⟨g1,g2⟩:=(codI 2147483647 (by decide)).ok _ _ hv
   rw[ha]
   exact⟨⟨hy.w,g1⟩,g2,fun j hj=>by rcases j with _|_|_|j<;>first|rfl|exact absurd rfl hj⟩
  ·cases h
 back:=fun x y k hx h1 h2=>by
  rcases k with _|_|_|k
  ·omega
  ·exact⟨{y with w:=x.w},by show(getN 18446744073709551615 (putN x.w)).map (fun v=>({y with w:=v}:Bucket))=_;rw[(codN 18446744073709551615 (by decide)).back _ hx.w];rfl⟩
  ·exact⟨{y with b:=x.b},by show(getI 2147483647 (putI x.b)).map (fun v=>({y with b:=v}:Bucket))=_;rw[(codI 2147483647 (by decide)).back _ hx.b];rfl⟩
  ·omega
 inj:=fun x y hx hy h=>by
  have e1:=(codN 18446744073709551615 (by decide)).inj hx.w hy.w (h 1 (by omega) (by omega))
  have e2:=(codI 2147483647 (by decide)).inj hx.b hy.b (h 2 (by omega) (by omega))
  cases x;cases y
  simp only at e1 e2
  subst e1 e2
  rfl
 z:=⟨(codN 18446744073709551615 (by decide)).zg,(codI 2147483647 (by decide)).zg⟩
 z0:=fun k=>by rcases k with _|_|_|k<;>first|rfl|exact(codN 18446744073709551615 (by decide)).z0|exact(codI 2147483647 (by decide)).z0
 len:=fun x k hx=>by
  rcases k with _|_|_|k
  ·exact Nat.zero_le _
  ·exact(codN 18446744073709551615 (by decide)).len _ hx.w
  ·exact(codI 2147483647 (by decide)).len _ hx.b
  ·exact Nat.zero_le _
 m:=by omega
theorem attsBucket_eq(x:Bucket):attsBucket x=atFrom (putBucket x) 2 0:=by
 unfold attsBucket
 simp only[addN_one,List.nil_append,atFrom,List.append_nil]
 rfl
def rdBucket(s:List UInt8):Option Bucket:=rdO stepBucket zBucket s
theorem itBucket:ItemOk rdBucket oneBucket goodBucket:=itemOf schBucket (by omega) (fun x k hx=>by
 rcases k with _|_|_|k
 ·exact Nat.zero_le _
 ·exact numB_8 (by have h:=hx.w;unfold gdN at h;omega)
 ·exact numB_8 (u64N_lt _)
 ·exact Nat.zero_le _) fun x=>by unfold oneBucket;rw[attsBucket_eq]
def zNode:ONode:=⟨0,0,0,0,0,0,0,[],0⟩
def stepNode(x:ONode)(a:At):Option ONode:=match a.t with
 | 1=>(getI 2147483647 a.v.data.toList).map fun v=>{x with id:=v}
 | 2=>(getI 2147483647 a.v.data.toList).map fun v=>{x with size:=v}
 | 3=>(getI 2147483647 a.v.data.toList).map fun v=>{x with lo:=v}
 | 4=>(getI 2147483647 a.v.data.toList).map fun v=>{x with lw:=v}
 | 5=>(getI 2147483647 a.v.data.toList).map fun v=>{x with lu:=v}
 | 6=>(getI 2147483647 a.v.data.toList).map fun v=>{x with so:=v}
 | 7=>(getI 2147483647 a.v.data.toList).map fun v=>{x with sw:=v}
 | 8=>(getI 2147483647 a.v.data.toList).map fun v=>{x with ot:=v}
 | 9=>(getL rdArm 32 a.v.data.toList).map fun v=>{x with arms:=v}
 |_=>none
def putNode(x:ONode):Nat->List UInt8
 | 1=>putI x.id
 | 2=>putI x.size
 | 3=>putI x.lo
 | 4=>putI x.lw
 | 5=>putI x.lu
 | 6=>putI x.so
 | 7=>putI x.sw
 | 8=>putI x.ot
 | 9=>putL oneArm x.arms
 |_=>[]
structure goodNode(x:ONode):Prop where
 id:gdI 2147483647 x.id
 size:gdI 2147483647 x.size
 lo:gdI 2147483647 x.lo
 lw:gdI 2147483647 x.lw
 lu:gdI 2147483647 x.lu
 so:gdI 2147483647 x.so
 sw:gdI 2147483647 x.sw
 ot:gdI 2147483647 x.ot
 arms:gdL goodArm 32 x.arms
theorem schNode:Sch 9 stepNode putNode goodNode zNode where
 no:=fun y a h=>by
  unfold stepNode
  split<;>first|rfl|omega
 is:=fun y a y' hy h=>by
  unfold stepNode at h
  split at h
  ·rename_i ha
   obtain⟨v,hv,rfl⟩:=Option.map_eq_some_iff.1 h
   obtain⟨g1,g2⟩:=(codI 2147483647 (by decide)).ok _ _ hv
   rw[ha]
   exact⟨⟨g1,hy.size,hy.lo,hy.lw,hy.lu,hy.so,hy.sw,hy.ot,hy.arms⟩,g2,fun j hj=>by rcases j with _|_|_|_|_|_|_|_|_|_|j<;>first|rfl|exact absurd rfl hj⟩
  ·rename_i ha
   obtain⟨v,hv,rfl⟩:=Option.map_eq_some_iff.1 h
   obtain⟨g1,g2⟩:=(codI 2147483647 (by decide)).ok _ _ hv
   rw[ha]
   exact⟨⟨hy.id,g1,hy.lo,hy.lw,hy.lu,hy.so,hy.sw,hy.ot,hy.arms⟩,g2,fun j hj=>by rcases j with _|_|_|_|_|_|_|_|_|_|j<;>first|rfl|exact absurd rfl hj⟩
  ·rename_i ha
   obtain⟨v,hv,rfl⟩:=Option.map_eq_some_iff.1 h
   obtain⟨g1,g2⟩:=(codI 2147483647 (by decide)).ok _ _ hv
   rw[ha]
   exact⟨⟨hy.id,hy.size,g1,hy.lw,hy.lu,hy.so,hy.sw,hy.ot,hy.arms⟩,g2,fun j hj=>by rcases j with _|_|_|_|_|_|_|_|_|_|j<;>first|rfl|exact absurd rfl hj⟩
  ·rename_i ha
   obtain⟨v,hv,rfl⟩:=Option.map_eq_some_iff.1 h
   obtain⟨g1,g2⟩:=(codI 2147483647 (by decide)).ok _ _ hv
   rw[ha]
   exact⟨⟨hy.id,hy.size,hy.lo,g1,hy.lu,hy.so,hy.sw,hy.ot,hy.arms⟩,g2,fun j hj=>by rcases j with _|_|_|_|_|_|_|_|_|_|j<;>first|rfl|exact absurd rfl hj⟩
  ·rename_i ha
   obtain⟨v,hv,rfl⟩:=Option.map_eq_some_iff.1 h
   obtain⟨g1,g2⟩:=(codI 2147483647 (by decide)).ok _ _ hv
   rw[ha]
   exact⟨⟨hy.id,hy.size,hy.lo,hy.lw,g1,hy.so,hy.sw,hy.ot,hy.arms⟩,g2,fun j hj=>by rcases j with _|_|_|_|_|_|_|_|_|_|j<;>first|rfl|exact absurd rfl hj⟩
  ·rename_i ha
   obtain⟨v,hv,rfl⟩:=Option.map_eq_some_iff.1 h
   obtain⟨g1,g2⟩:=(codI 2147483647 (by decide)).ok _ _ hv
   rw[ha]
   exact⟨⟨hy.id,hy.size,hy.lo,hy.lw,hy.lu,g1,hy.sw,hy.ot,hy.arms⟩,g2,fun j hj=>by rcases j with _|_|_|_|_|_|_|_|_|_|j<;>first|rfl|exact absurd rfl hj⟩
  ·rename_i ha
   obtain⟨v,hv,rfl⟩:=Option.map_eq_some_iff.1 h
   obtain⟨g1,g2⟩:=(codI 2147483647 (by decide)).ok _ _ hv
   rw[ha]
   exact⟨⟨hy.id,hy.size,hy.lo,hy.lw,hy.lu,hy.so,g1,hy.ot,hy.arms⟩,g2,fun j hj=>by rcases j with _|_|_|_|_|_|_|_|_|_|j<;>first|rfl|exact absurd rfl hj⟩
  ·rename_i ha
   obtain⟨v,hv,rfl⟩:=Option.map_eq_some_iff.1 h
   obtain⟨g1,g2⟩:=(codI 2147483647 (by decide)).ok _ _ hv
   rw[ha]
   exact⟨⟨hy.id,hy.size,hy.lo,hy.lw,hy.lu,hy.so,hy.sw,g1,hy.arms⟩,g2,fun j hj=>by rcases j with _|_|_|_|_|_|_|_|_|_|j<;>first|rfl|exact absurd rfl hj⟩
  ·rename_i ha
   obtain⟨v,hv,rfl⟩:=Option.map_eq_some_iff.1 h
   obtain⟨g1,g2⟩:=(codL itArm 32 (by decide)).ok _ _ hv
   rw[ha]
   exact⟨⟨hy.id,hy.size,hy.lo,hy.lw,hy.lu,hy.so,hy.sw,hy.ot,g1⟩,g2,fun j hj=>by rcases j with _|_|_|_|_|_|_|_|_|_|j<;>first|rfl|exact absurd rfl hj⟩
  ·cases h
 back:=fun x y k hx h1 h2=>by
  rcases k with _|_|_|_|_|_|_|_|_|_|k
  ·omega
  ·exact⟨{y with id:=x.id},by show(getI 2147483647 (putI x.id)).map (fun v=>({y with id:=v}:ONode))=_;rw[(codI 2147483647 (by decide)).back _ hx.id];rfl⟩
  ·exact⟨{y with size:=x.size},by show(getI 2147483647 (putI x.size)).map (fun v=>({y with size:=v}:ONode))=_;rw[(codI 2147483647 (by decide)).back _ hx.size];rfl⟩
  ·exact⟨{y with lo:=x.lo},by show(getI 2147483647 (putI x.lo)).map (fun v=>({y with lo:=v}:ONode))=_;rw[(codI 2147483647 (by decide)).back _ hx.lo];rfl⟩
  ·exact⟨{y with lw:=x.lw},by show(getI 2147483647 (putI x.lw)).map (fun v=>({y with lw:=v}:ONode))=_;rw[(codI 2147483647 (by decide)).back _ hx.lw];rfl⟩
  ·exact⟨{y with lu:=x.lu},by show(getI 2147483647 (putI x.lu)).map (fun v=>({y with lu:=v}:ONode))=_;rw[(codI 2147483647 (by decide)).back _ hx.lu];rfl⟩
  ·exact⟨{y with so:=x.so},by show(getI 2147483647 (putI x.so)).map (fun v=>({y with so:=v}:ONode))=_;rw[(codI 2147483647 (by decide)).back _ hx.so];rfl⟩
  ·exact⟨{y with sw:=x.sw},by show(getI 2147483647 (putI x.sw)).map (fun v=>({y with sw:=v}:ONode))=_;rw[(codI 2147483647 (by decide)).back _ hx.sw];rfl⟩
  ·exact⟨{y with ot:=x.ot},by show(getI 2147483647 (putI x.ot)).map (fun v=>({y with ot:=v}:ONode))=_;rw[(codI 2147483647 (by decide)).back _ hx.ot];rfl⟩
  ·exact⟨{y with arms:=x.arms},by show(getL rdArm 32 (putL oneArm x.arms)).map (fun v=>({y with arms:=v}:ONode))=_;rw[(codL itArm 32 (by decide)).back _ hx.arms];rfl⟩
  ·omega
 inj:=fun x y hx hy h=>by
  have e1:=(codI 2147483647 (by decide)).inj hx.id hy.id (h 1 (by omega) (by omega))
  have e2:=(codI 2147483647 (by decide)).inj hx.size hy.size (h 2 (by omega) (by omega))
  have e3:=(codI 2147483647 (by decide)).inj hx.lo hy.lo (h 3 (by omega) (by omega))
  have e4:=(codI 2147483647 (by decide)).inj hx.lw hy.lw (h 4 (by omega) (by omega))
  have e5:=(codI 2147483647 (by decide)).inj hx.lu hy.lu (h 5 (by omega) (by omega))
  have e6:=(codI 2147483647 (by decide)).inj hx.so hy.so (h 6 (by omega) (by omega))
  have e7:=(codI 2147483647 (by decide)).inj hx.sw hy.sw (h 7 (by omega) (by omega))
  have e8:=(codI 2147483647 (by decide)).inj hx.ot hy.ot (h 8 (by omega) (by omega))
  have e9:=(codL itArm 32 (by decide)).inj hx.arms hy.arms (h 9 (by omega) (by omega))
  cases x;cases y
  simp only at e1 e2 e3 e4 e5 e6 e7 e8 e9
  subst e1 e2 e3 e4 e5 e6 e7 e8 e9
  rfl
 z:=⟨(codI 2147483647 (by decide)).zg,(codI 2147483647 (by decide)).zg,(codI 2147483647 (by decide)).zg,(codI 2147483647 (by decide)).zg,(codI 2147483647 (by decide)).zg,(codI 2147483647 (by decide)).zg,(codI 2147483647 (by decide)).zg,(codI 2147483647 (by decide)).zg,(codL itArm 32 (by decide)).zg⟩
 z0:=fun k=>by rcases k with _|_|_|_|_|_|_|_|_|_|k<;>first|rfl|exact(codI 2147483647 (by decide)).z0|exact(codL itArm 32 (by decide)).z0
 len:=fun x k hx=>by
  rcases k with _|_|_|_|_|_|_|_|_|_|k
  ·exact Nat.zero_le _
  ·exact(codI 2147483647 (by decide)).len _ hx.id
  ·exact(codI 2147483647 (by decide)).len _ hx.size
  ·exact(codI 2147483647 (by decide)).len _ hx.lo
  ·exact(codI 2147483647 (by decide)).len _ hx.lw
  ·exact(codI 2147483647 (by decide)).len _ hx.lu
  ·exact(codI 2147483647 (by decide)).len _ hx.so
  ·exact(codI 2147483647 (by decide)).len _ hx.sw
  ·exact(codI 2147483647 (by decide)).len _ hx.ot
  ·exact(codL itArm 32 (by decide)).len _ hx.arms
  ·exact Nat.zero_le _
 m:=by omega
theorem attsNode_eq(x:ONode):attsNode x=atFrom (putNode x) 9 0:=by
 unfold attsNode
 simp only[addN_one,addT_one,bytes_toList,List.nil_append,List.append_assoc,atFrom,List.append_nil]
 rfl
def zField:OField:=⟨0,0,0,0,0⟩
def stepField(x:OField)(a:At):Option OField:=match a.t with
 | 1=>(getI 2147483647 a.v.data.toList).map fun v=>{x with id:=v}
 | 2=>(getN 255 a.v.data.toList).map fun v=>{x with base:=v}
 | 3=>(getI 2147483647 a.v.data.toList).map fun v=>{x with node:=v}
 | 4=>(getI 2147483647 a.v.data.toList).map fun v=>{x with off:=v}
 | 5=>(getI 2147483647 a.v.data.toList).map fun v=>{x with wid:=v}
 |_=>none
def putField(x:OField):Nat->List UInt8
 | 1=>putI x.id
 | 2=>putU x.base
 | 3=>putI x.node
 | 4=>putI x.off
 | 5=>putI x.wid
 |_=>[]
structure goodField(x:OField):Prop where
 id:gdI 2147483647 x.id
 base:gdN 255 x.base
 node:gdI 2147483647 x.node
 off:gdI 2147483647 x.off
 wid:gdI 2147483647 x.wid
theorem schField:Sch 5 stepField putField goodField zField where
 no:=fun y a h=>by
  unfold stepField
  split<;>first|rfl|omega
 is:=fun y a y' hy h=>by
  unfold stepField at h
  split at h
  ·rename_i ha
   obtain⟨v,hv,rfl⟩:=Option.map_eq_some_iff.1 h
   obtain⟨g1,g2⟩:=(codI 2147483647 (by decide)).ok _ _ hv
   rw[ha]
   exact⟨⟨g1,hy.base,hy.node,hy.off,hy.wid⟩,g2,fun j hj=>by rcases j with _|_|_|_|_|_|j<;>first|rfl|exact absurd rfl hj⟩
  ·rename_i ha
   obtain⟨v,hv,rfl⟩:=Option.map_eq_some_iff.1 h
   obtain⟨g1,g2⟩:=(codU 255 (by decide)).ok _ _ hv
   rw[ha]
   exact⟨⟨hy.id,g1,hy.node,hy.off,hy.wid⟩,g2,fun j hj=>by rcases j with _|_|_|_|_|_|j<;>first|rfl|exact absurd rfl hj⟩
  ·rename_i ha
   obtain⟨v,hv,rfl⟩:=Option.map_eq_some_iff.1 h
   obtain⟨g1,g2⟩:=(codI 2147483647 (by decide)).ok _ _ hv
   rw[ha]
   exact⟨⟨hy.id,hy.base,g1,hy.off,hy.wid⟩,g2,fun j hj=>by rcases j with _|_|_|_|_|_|j<;>first|rfl|exact absurd rfl hj⟩
  ·rename_i ha
   obtain⟨v,hv,rfl⟩:=Option.map_eq_some_iff.1 h
   obtain⟨g1,g2⟩:=(codI 2147483647 (by decide)).ok _ _ hv
   rw[ha]
   exact⟨⟨hy.id,hy.base,hy.node,g1,hy.wid⟩,g2,fun j hj=>by rcases j with _|_|_|_|_|_|j<;>first|rfl|exact absurd rfl hj⟩
  ·rename_i ha
   obtain⟨v,hv,rfl⟩:=Option.map_eq_some_iff.1 h
   obtain⟨g1,g2⟩:=(codI 2147483647 (by decide)).ok _ _ hv
   rw[ha]
   exact⟨⟨hy.id,hy.base,hy.node,hy.off,g1⟩,g2,fun j hj=>by rcases j with _|_|_|_|_|_|j<;>first|rfl|exact absurd rfl hj⟩
  ·cases h
 back:=fun x y k hx h1 h2=>by
  rcases k with _|_|_|_|_|_|k
  ·omega
  ·exact⟨{y with id:=x.id},by show(getI 2147483647 (putI x.id)).map (fun v=>({y with id:=v}:OField))=_;rw[(codI 2147483647 (by decide)).back _ hx.id];rfl⟩
  ·exact⟨{y with base:=x.base},by show(getN 255 (putU x.base)).map (fun v=>({y with base:=v}:OField))=_;rw[(codU 255 (by decide)).back _ hx.base];rfl⟩
  ·exact⟨{y with node:=x.node},by show(getI 2147483647 (putI x.node)).map (fun v=>({y with node:=v}:OField))=_;rw[(codI 2147483647 (by decide)).back _ hx.node];rfl⟩
  ·exact⟨{y with off:=x.off},by show(getI 2147483647 (putI x.off)).map (fun v=>({y with off:=v}:OField))=_;rw[(codI 2147483647 (by decide)).back _ hx.off];rfl⟩
  ·exact⟨{y with wid:=x.wid},by show(getI 2147483647 (putI x.wid)).map (fun v=>({y with wid:=v}:OField))=_;rw[(codI 2147483647 (by decide)).back _ hx.wid];rfl⟩
  ·omega
 inj:=fun x y hx hy h=>by
  have e1:=(codI 2147483647 (by decide)).inj hx.id hy.id (h 1 (by omega) (by omega))
  have e2:=(codU 255 (by decide)).inj hx.base hy.base (h 2 (by omega) (by omega))
  have e3:=(codI 2147483647 (by decide)).inj hx.node hy.node (h 3 (by omega) (by omega))
  have e4:=(codI 2147483647 (by decide)).inj hx.off hy.off (h 4 (by omega) (by omega))
  have e5:=(codI 2147483647 (by decide)).inj hx.wid hy.wid (h 5 (by omega) (by omega))
  cases x;cases y
  simp only at e1 e2 e3 e4 e5
  subst e1 e2 e3 e4 e5
  rfl
 z:=⟨(codI 2147483647 (by decide)).zg,(codU 255 (by decide)).zg,(codI 2147483647 (by decide)).zg,(codI 2147483647 (by decide)).zg,(codI 2147483647 (by decide)).zg⟩
 z0:=fun k=>by rcases k with _|_|_|_|_|_|k<;>first|rfl|exact(codI 2147483647 (by decide)).z0|exact(codU 255 (by decide)).z0
 len:=fun x k hx=>by
  rcases k with _|_|_|_|_|_|k
  ·exact Nat.zero_le _
  ·exact(codI 2147483647 (by decide)).len _ hx.id
  ·exact(codU 255 (by decide)).len _ hx.base
  ·exact(codI 2147483647 (by decide)).len _ hx.node
  ·exact(codI 2147483647 (by decide)).len _ hx.off
  ·exact(codI 2147483647 (by decide)).len _ hx.wid
  ·exact Nat.zero_le _
 m:=by omega
theorem attsField_eq(x:OField):attsField x=atFrom (putField x) 5 0:=by
 unfold attsField
 simp only[addN_one,List.nil_append,List.append_assoc,atFrom,List.append_nil]
 rfl
def zTable:OTable:=⟨0,0,[],0,0⟩
def stepTable(x:OTable)(a:At):Option OTable:=match a.t with
 | 1=>(getI 2147483647 a.v.data.toList).map fun v=>{x with id:=v}
 | 2=>(getN 255 a.v.data.toList).map fun v=>{x with kind:=v}
 | 3=>(getL rdInt 4 a.v.data.toList).map fun v=>{x with keys:=v}
 | 4=>(getI 2147483647 a.v.data.toList).map fun v=>{x with cap:=v}
 | 5=>(getI 2147483647 a.v.data.toList).map fun v=>{x with miss:=v}
 |_=>none
def putTable(x:OTable):Nat->List UInt8
 | 1=>putI x.id
 | 2=>putU x.kind
 | 3=>putL oneInt x.keys
 | 4=>putI x.cap
 | 5=>putI x.miss
 |_=>[]
structure goodTable(x:OTable):Prop where
 id:gdI 2147483647 x.id
 kind:gdN 255 x.kind
 keys:gdL goodInt 4 x.keys
 cap:gdI 2147483647 x.cap
 miss:gdI 2147483647 x.miss
theorem schTable:Sch 5 stepTable putTable goodTable zTable where
 no:=fun y a h=>by
  unfold stepTable
  split<;>first|rfl|omega
 is:=fun y a y' hy h=>by
  unfold stepTable at h
  split at h
  ·rename_i ha
   obtain⟨v,hv,rfl⟩:=Option.map_eq_some_iff.1 h
   obtain⟨g1,g2⟩:=(codI 2147483647 (by decide)).ok _ _ hv
   rw[ha]
   exact⟨⟨g1,hy.kind,hy.keys,hy.cap,hy.miss⟩,g2,fun j hj=>by rcases j with _|_|_|_|_|_|j<;>first|rfl|exact absurd rfl hj⟩
  ·rename_i ha
   obtain⟨v,hv,rfl⟩:=Option.map_eq_some_iff.1 h
   obtain⟨g1,g2⟩:=(codU 255 (by decide)).ok _ _ hv
   rw[ha]
   exact⟨⟨hy.id,g1,hy.keys,hy.cap,hy.miss⟩,g2,fun j hj=>by rcases j with _|_|_|_|_|_|j<;>first|rfl|exact absurd rfl hj⟩
  ·rename_i ha
   obtain⟨v,hv,rfl⟩:=Option.map_eq_some_iff.1 h
   obtain⟨g1,g2⟩:=(codL itInt 4 (by decide)).ok _ _ hv
   rw[ha]
   exact⟨⟨hy.id,hy.kind,g1,hy.cap,hy.miss⟩,g2,fun j hj=>by rcases j with _|_|_|_|_|_|j<;>first|rfl|exact absurd rfl hj⟩
  ·rename_i ha
   obtain⟨v,hv,rfl⟩:=Option.map_eq_some_iff.1 h
   obtain⟨g1,g2⟩:=(codI 2147483647 (by decide)).ok _ _ hv
   rw[ha]
   exact⟨⟨hy.id,hy.kind,hy.keys,g1,hy.miss⟩,g2,fun j hj=>by rcases j with _|_|_|_|_|_|j<;>first|rfl|exact absurd rfl hj⟩
  ·rename_i ha
   obtain⟨v,hv,rfl⟩:=Option.map_eq_some_iff.1 h
   obtain⟨g1,g2⟩:=(codI 2147483647 (by decide)).ok _ _ hv
   rw[ha]
   exact⟨⟨hy.id,hy.kind,hy.keys,hy.cap,g1⟩,g2,fun j hj=>by rcases j with _|_|_|_|_|_|j<;>first|rfl|exact absurd rfl hj⟩
  ·cases h
 back:=fun x y k hx h1 h2=>by
  rcases k with _|_|_|_|_|_|k
  ·omega
  ·exact⟨{y with id:=x.id},by show(getI 2147483647 (putI x.id)).map (fun v=>({y with id:=v}:OTable))=_;rw[(codI 2147483647 (by decide)).back _ hx.id];rfl⟩
  ·exact⟨{y with kind:=x.kind},by show(getN 255 (putU x.kind)).map (fun v=>({y with kind:=v}:OTable))=_;rw[(codU 255 (by decide)).back _ hx.kind];rfl⟩
  ·exact⟨{y with keys:=x.keys},by show(getL rdInt 4 (putL oneInt x.keys)).map (fun v=>({y with keys:=v}:OTable))=_;rw[(codL itInt 4 (by decide)).back _ hx.keys];rfl⟩
  ·exact⟨{y with cap:=x.cap},by show(getI 2147483647 (putI x.cap)).map (fun v=>({y with cap:=v}:OTable))=_;rw[(codI 2147483647 (by decide)).back _ hx.cap];rfl⟩
  ·exact⟨{y with miss:=x.miss},by show(getI 2147483647 (putI x.miss)).map (fun v=>({y with miss:=v}:OTable))=_;rw[(codI 2147483647 (by decide)).back _ hx.miss];rfl⟩
  ·omega
 inj:=fun x y hx hy h=>by
  have e1:=(codI 2147483647 (by decide)).inj hx.id hy.id (h 1 (by omega) (by omega))
  have e2:=(codU 255 (by decide)).inj hx.kind hy.kind (h 2 (by omega) (by omega))
  have e3:=(codL itInt 4 (by decide)).inj hx.keys hy.keys (h 3 (by omega) (by omega))
  have e4:=(codI 2147483647 (by decide)).inj hx.cap hy.cap (h 4 (by omega) (by omega))
  have e5:=(codI 2147483647 (by decide)).inj hx.miss hy.miss (h 5 (by omega) (by omega))
  cases x;cases y
  simp only at e1 e2 e3 e4 e5
  subst e1 e2 e3 e4 e5
  rfl
 z:=⟨(codI 2147483647 (by decide)).zg,(codU 255 (by decide)).zg,(codL itInt 4 (by decide)).zg,(codI 2147483647 (by decide)).zg,(codI 2147483647 (by decide)).zg⟩
 z0:=fun k=>by rcases k with _|_|_|_|_|_|k<;>first|rfl|exact(codI 2147483647 (by decide)).z0|exact(codU 255 (by decide)).z0|exact(codL itInt 4 (by decide)).z0
 len:=fun x k hx=>by
  rcases k with _|_|_|_|_|_|k
  ·exact Nat.zero_le _
  ·exact(codI 2147483647 (by decide)).len _ hx.id
  ·exact(codU 255 (by decide)).len _ hx.kind
  ·exact(codL itInt 4 (by decide)).len _ hx.keys
  ·exact(codI 2147483647 (by decide)).len _ hx.cap
  ·exact(codI 2147483647 (by decide)).len _ hx.miss
  ·exact Nat.zero_le _
 m:=by omega
theorem attsTable_eq(x:OTable):attsTable x=atFrom (putTable x) 5 0:=by
 unfold attsTable
 simp only[addN_one,addT_one,bytes_toList,List.nil_append,List.append_assoc,atFrom,List.append_nil]
 rfl
def zEntry:OEntry:=⟨0,bytesOf [],bytesOf [],0,0,0,[],0,0,0,false⟩
def stepEntry(x:OEntry)(a:At):Option OEntry:=match a.t with
 | 1=>(getI 2147483647 a.v.data.toList).map fun v=>{x with tab:=v}
 | 2=>(getS 32 a.v.data.toList).map fun v=>{x with key:=v}
 | 3=>(getS 32 a.v.data.toList).map fun v=>{x with oth:=v}
 | 4=>(getI 2147483647 a.v.data.toList).map fun v=>{x with len:=v}
 | 5=>(getI 2147483647 a.v.data.toList).map fun v=>{x with prio:=v}
 | 6=>(getI 2147483647 a.v.data.toList).map fun v=>{x with blk:=v}
 | 7=>(getL rdNat 4 a.v.data.toList).map fun v=>{x with args:=v}
 | 8=>(getI 9223372036854775807 a.v.data.toList).map fun v=>{x with idle:=v}
 | 9=>(getI 9223372036854775807 a.v.data.toList).map fun v=>{x with hard:=v}
 | 10=>(getN 18446744073709551615 a.v.data.toList).map fun v=>{x with cook:=v}
 | 11=>(getB a.v.data.toList).map fun v=>{x with tell:=v}
 |_=>none
def putEntry(x:OEntry):Nat->List UInt8
 | 1=>putI x.tab
 | 2=>putT x.key
 | 3=>putT x.oth
 | 4=>putI x.len
 | 5=>putI x.prio
 | 6=>putI x.blk
 | 7=>putL oneNat x.args
 | 8=>putI x.idle
 | 9=>putI x.hard
 | 10=>putN x.cook
 | 11=>putB x.tell
 |_=>[]
structure goodEntry(x:OEntry):Prop where
 tab:gdI 2147483647 x.tab
 key:gdS 32 x.key
 oth:gdS 32 x.oth
 len:gdI 2147483647 x.len
 prio:gdI 2147483647 x.prio
 blk:gdI 2147483647 x.blk
 args:gdL goodNat 4 x.args
 idle:gdI 9223372036854775807 x.idle
 hard:gdI 9223372036854775807 x.hard
 cook:gdN 18446744073709551615 x.cook
 tell:gdB x.tell
theorem schEntry:Sch 11 stepEntry putEntry goodEntry zEntry where
 no:=fun y a h=>by
  unfold stepEntry
  split<;>first|rfl|omega
 is:=fun y a y' hy h=>by
  unfold stepEntry at h
  split at h
  ·rename_i ha
   obtain⟨v,hv,rfl⟩:=Option.map_eq_some_iff.1 h
   obtain⟨g1,g2⟩:=(codI 2147483647 (by decide)).ok _ _ hv
   rw[ha]
   exact⟨⟨g1,hy.key,hy.oth,hy.len,hy.prio,hy.blk,hy.args,hy.idle,hy.hard,hy.cook,hy.tell⟩,g2,fun j hj=>by rcases j with _|_|_|_|_|_|_|_|_|_|_|_|j<;>first|rfl|exact absurd rfl hj⟩
  ·rename_i ha
   obtain⟨v,hv,rfl⟩:=Option.map_eq_some_iff.1 h
   obtain⟨g1,g2⟩:=(codS 32 (by decide)).ok _ _ hv
   rw[ha]
   exact⟨⟨hy.tab,g1,hy.oth,hy.len,hy.prio,hy.blk,hy.args,hy.idle,hy.hard,hy.cook,hy.tell⟩,g2,fun j hj=>by rcases j with _|_|_|_|_|_|_|_|_|_|_|_|j<;>first|rfl|exact absurd rfl hj⟩
  ·rename_i ha
   obtain⟨v,hv,rfl⟩:=Option.map_eq_some_iff.1 h
   obtain⟨g1,g2⟩:=(codS 32 (by decide)).ok _ _ hv
   rw[ha]
   exact⟨⟨hy.tab,hy.key,g1,hy.len,hy.prio,hy.blk,hy.args,hy.idle,hy.hard,hy.cook,hy.tell⟩,g2,fun j hj=>by rcases j with _|_|_|_|_|_|_|_|_|_|_|_|j<;>first|rfl|exact absurd rfl hj⟩
  ·rename_i ha
   obtain⟨v,hv,rfl⟩:=Option.map_eq_some_iff.1 h
   obtain⟨g1,g2⟩:=(codI 2147483647 (by decide)).ok _ _ hv
   rw[ha]
   exact⟨⟨hy.tab,hy.key,hy.oth,g1,hy.prio,hy.blk,hy.args,hy.idle,hy.hard,hy.cook,hy.tell⟩,g2,fun j hj=>by rcases j with _|_|_|_|_|_|_|_|_|_|_|_|j<;>first|rfl|exact absurd rfl hj⟩
  ·rename_i ha
   obtain⟨v,hv,rfl⟩:=Option.map_eq_some_iff.1 h
   obtain⟨g1,g2⟩:=(codI 2147483647 (by decide)).ok _ _ hv
   rw[ha]
   exact⟨⟨hy.tab,hy.key,hy.oth,hy.len,g1,hy.blk,hy.args,hy.idle,hy.hard,hy.cook,hy.tell⟩,g2,fun j hj=>by rcases j with _|_|_|_|_|_|_|_|_|_|_|_|j<;>first|rfl|exact absurd rfl hj⟩
  ·rename_i ha
   obtain⟨v,hv,rfl⟩:=Option.map_eq_some_iff.1 h
   obtain⟨g1,g2⟩:=(codI 2147483647 (by decide)).ok _ _ hv
   rw[ha]
   exact⟨⟨hy.tab,hy.key,hy.oth,hy.len,hy.prio,g1,hy.args,hy.idle,hy.hard,hy.cook,hy.tell⟩,g2,fun j hj=>by rcases j with _|_|_|_|_|_|_|_|_|_|_|_|j<;>first|rfl|exact absurd rfl hj⟩
  ·rename_i ha
   obtain⟨v,hv,rfl⟩:=Option.map_eq_some_iff.1 h
   obtain⟨g1,g2⟩:=(codL itNat 4 (by decide)).ok _ _ hv
   rw[ha]
   exact⟨⟨hy.tab,hy.key,hy.oth,hy.len,hy.prio,hy.blk,g1,hy.idle,hy.hard,hy.cook,hy.tell⟩,g2,fun j hj=>by rcases j with _|_|_|_|_|_|_|_|_|_|_|_|j<;>first|rfl|exact absurd rfl hj⟩
  ·rename_i ha
   obtain⟨v,hv,rfl⟩:=Option.map_eq_some_iff.1 h
   obtain⟨g1,g2⟩:=(codI 9223372036854775807 (by decide)).ok _ _ hv
   rw[ha]
   exact⟨⟨hy.tab,hy.key,hy.oth,hy.len,hy.prio,hy.blk,hy.args,g1,hy.hard,hy.cook,hy.tell⟩,g2,fun j hj=>by rcases j with _|_|_|_|_|_|_|_|_|_|_|_|j<;>first|rfl|exact absurd rfl hj⟩
  ·rename_i ha
   obtain⟨v,hv,rfl⟩:=Option.map_eq_some_iff.1 h
   obtain⟨g1,g2⟩:=(codI 9223372036854775807 (by decide)).ok _ _ hv
   rw[ha]
   exact⟨⟨hy.tab,hy.key,hy.oth,hy.len,hy.prio,hy.blk,hy.args,hy.idle,g1,hy.cook,hy.tell⟩,g2,fun j hj=>by rcases j with _|_|_|_|_|_|_|_|_|_|_|_|j<;>first|rfl|exact absurd rfl hj⟩
  ·rename_i ha
   obtain⟨v,hv,rfl⟩:=Option.map_eq_some_iff.1 h
   obtain⟨g1,g2⟩:=(codN 18446744073709551615 (by decide)).ok _ _ hv
   rw[ha]
   exact⟨⟨hy.tab,hy.key,hy.oth,hy.len,hy.prio,hy.blk,hy.args,hy.idle,hy.hard,g1,hy.tell⟩,g2,fun j hj=>by rcases j with _|_|_|_|_|_|_|_|_|_|_|_|j<;>first|rfl|exact absurd rfl hj⟩
  ·rename_i ha
   obtain⟨v,hv,rfl⟩:=Option.map_eq_some_iff.1 h
   obtain⟨g1,g2⟩:=codB.ok _ _ hv
   rw[ha]
   exact⟨⟨hy.tab,hy.key,hy.oth,hy.len,hy.prio,hy.blk,hy.args,hy.idle,hy.hard,hy.cook,g1⟩,g2,fun j hj=>by rcases j with _|_|_|_|_|_|_|_|_|_|_|_|j<;>first|rfl|exact absurd rfl hj⟩
  ·cases h
 back:=fun x y k hx h1 h2=>by
  rcases k with _|_|_|_|_|_|_|_|_|_|_|_|k
  ·omega
  ·exact⟨{y with tab:=x.tab},by show(getI 2147483647 (putI x.tab)).map (fun v=>({y with tab:=v}:OEntry))=_;rw[(codI 2147483647 (by decide)).back _ hx.tab];rfl⟩
  ·exact⟨{y with key:=x.key},by show(getS 32 (putT x.key)).map (fun v=>({y with key:=v}:OEntry))=_;rw[(codS 32 (by decide)).back _ hx.key];rfl⟩
  ·exact⟨{y with oth:=x.oth},by show(getS 32 (putT x.oth)).map (fun v=>({y with oth:=v}:OEntry))=_;rw[(codS 32 (by decide)).back _ hx.oth];rfl⟩
  ·exact⟨{y with len:=x.len},by show(getI 2147483647 (putI x.len)).map (fun v=>({y with len:=v}:OEntry))=_;rw[(codI 2147483647 (by decide)).back _ hx.len];rfl⟩
  ·exact⟨{y with prio:=x.prio},by show(getI 2147483647 (putI x.prio)).map (fun v=>({y with prio:=v}:OEntry))=_;rw[(codI 2147483647 (by decide)).back _ hx.prio];rfl⟩
  ·exact⟨{y with blk:=x.blk},by show(getI 2147483647 (putI x.blk)).map (fun v=>({y with blk:=v}:OEntry))=_;rw[(codI 2147483647 (by decide)).back _ hx.blk];rfl⟩
  ·exact⟨{y with args:=x.args},by show(getL rdNat 4 (putL oneNat x.args)).map (fun v=>({y with args:=v}:OEntry))=_;rw[(codL itNat 4 (by decide)).back _ hx.args];rfl⟩
  ·exact⟨{y with idle:=x.idle},by show(getI 9223372036854775807 (putI x.idle)).map (fun v=>({y with idle:=v}:OEntry))=_;rw[(codI 9223372036854775807 (by decide)).back _ hx.idle];rfl⟩
  ·exact⟨{y with hard:=x.hard},by show(getI 9223372036854775807 (putI x.hard)).map (fun v=>({y with hard:=v}:OEntry))=_;rw[(codI 9223372036854775807 (by decide)).back _ hx.hard];rfl⟩
  ·exact⟨{y with cook:=x.cook},by show(getN 18446744073709551615 (putN x.cook)).map (fun v=>({y with cook:=v}:OEntry))=_;rw[(codN 18446744073709551615 (by decide)).back _ hx.cook];rfl⟩
  ·exact⟨{y with tell:=x.tell},by show(getB (putB x.tell)).map (fun v=>({y with tell:=v}:OEntry))=_;rw[codB.back _ hx.tell];rfl⟩
  ·omega
 inj:=fun x y hx hy h=>by
  have e1:=(codI 2147483647 (by decide)).inj hx.tab hy.tab (h 1 (by omega) (by omega))
  have e2:=(codS 32 (by decide)).inj hx.key hy.key (h 2 (by omega) (by omega))
  have e3:=(codS 32 (by decide)).inj hx.oth hy.oth (h 3 (by omega) (by omega))
  have e4:=(codI 2147483647 (by decide)).inj hx.len hy.len (h 4 (by omega) (by omega))
  have e5:=(codI 2147483647 (by decide)).inj hx.prio hy.prio (h 5 (by omega) (by omega))
  have e6:=(codI 2147483647 (by decide)).inj hx.blk hy.blk (h 6 (by omega) (by omega))
  have e7:=(codL itNat 4 (by decide)).inj hx.args hy.args (h 7 (by omega) (by omega))
  have e8:=(codI 9223372036854775807 (by decide)).inj hx.idle hy.idle (h 8 (by omega) (by omega))
  have e9:=(codI 9223372036854775807 (by decide)).inj hx.hard hy.hard (h 9 (by omega) (by omega))
  have e10:=(codN 18446744073709551615 (by decide)).inj hx.cook hy.cook (h 10 (by omega) (by omega))
  have e11:=codB.inj hx.tell hy.tell (h 11 (by omega) (by omega))
  cases x;cases y
  simp only at e1 e2 e3 e4 e5 e6 e7 e8 e9 e10 e11
  subst e1 e2 e3 e4 e5 e6 e7 e8 e9 e10 e11
  rfl
 z:=⟨(codI 2147483647 (by decide)).zg,(codS 32 (by decide)).zg,(codS 32 (by decide)).zg,(codI 2147483647 (by decide)).zg,(codI 2147483647 (by decide)).zg,(codI 2147483647 (by decide)).zg,(codL itNat 4 (by decide)).zg,(codI 9223372036854775807 (by decide)).zg,(codI 9223372036854775807 (by decide)).zg,(codN 18446744073709551615 (by decide)).zg,codB.zg⟩
 z0:=fun k=>by rcases k with _|_|_|_|_|_|_|_|_|_|_|_|k<;>first|rfl|exact(codI 2147483647 (by decide)).z0|exact(codS 32 (by decide)).z0|exact(codL itNat 4 (by decide)).z0|exact(codI 9223372036854775807 (by decide)).z0|exact(codN 18446744073709551615 (by decide)).z0|exact codB.z0
 len:=fun x k hx=>by
  rcases k with _|_|_|_|_|_|_|_|_|_|_|_|k
  ·exact Nat.zero_le _
  ·exact(codI 2147483647 (by decide)).len _ hx.tab
  ·exact(codS 32 (by decide)).len _ hx.key
  ·exact(codS 32 (by decide)).len _ hx.oth
  ·exact(codI 2147483647 (by decide)).len _ hx.len
  ·exact(codI 2147483647 (by decide)).len _ hx.prio
  ·exact(codI 2147483647 (by decide)).len _ hx.blk
  ·exact(codL itNat 4 (by decide)).len _ hx.args
  ·exact(codI 9223372036854775807 (by decide)).len _ hx.idle
  ·exact(codI 9223372036854775807 (by decide)).len _ hx.hard
  ·exact(codN 18446744073709551615 (by decide)).len _ hx.cook
  ·exact codB.len _ hx.tell
  ·exact Nat.zero_le _
 m:=by omega
theorem attsEntry_eq(x:OEntry):attsEntry x=atFrom (putEntry x) 11 0:=by
 unfold attsEntry
 simp only[addN_one,addT_one,bytes_toList,addB_one,List.nil_append,List.append_assoc,atFrom,List.append_nil]
 rfl
def zBlock:OBlock:=⟨0,[]⟩
def stepBlock(x:OBlock)(a:At):Option OBlock:=match a.t with
 | 1=>(getI 2147483647 a.v.data.toList).map fun v=>{x with id:=v}
 | 2=>(getL rdInstr 32 a.v.data.toList).map fun v=>{x with code:=v}
 |_=>none
def putBlock(x:OBlock):Nat->List UInt8
 | 1=>putI x.id
 | 2=>putL oneInstr x.code
 |_=>[]
structure goodBlock(x:OBlock):Prop where
 id:gdI 2147483647 x.id
 code:gdL goodInstr 32 x.code
theorem schBlock:Sch 2 stepBlock putBlock goodBlock zBlock where
 no:=fun y a h=>by
  unfold stepBlock
  split<;>first|rfl|omega
 is:=fun y a y' hy h=>by
  unfold stepBlock at h
  split at h
  ·rename_i ha
   obtain⟨v,hv,rfl⟩:=Option.map_eq_some_iff.1 h
   obtain⟨g1,g2⟩:=(codI 2147483647 (by decide)).ok _ _ hv
   rw[ha]
   exact⟨⟨g1,hy.code⟩,g2,fun j hj=>by rcases j with _|_|_|j<;>first|rfl|exact absurd rfl hj⟩
  ·rename_i ha
   obtain⟨v,hv,rfl⟩:=Option.map_eq_some_iff.1 h
   obtain⟨g1,g2⟩:=(codL itInstr 32 (by decide)).ok _ _ hv
   rw[ha]
   exact⟨⟨hy.id,g1⟩,g2,fun j hj=>by rcases j with _|_|_|j<;>first|rfl|exact absurd rfl hj⟩
  ·cases h
 back:=fun x y k hx h1 h2=>by
  rcases k with _|_|_|k
  ·omega
  ·exact⟨{y with id:=x.id},by show(getI 2147483647 (putI x.id)).map (fun v=>({y with id:=v}:OBlock))=_;rw[(codI 2147483647 (by decide)).back _ hx.id];rfl⟩
  ·exact⟨{y with code:=x.code},by show(getL rdInstr 32 (putL oneInstr x.code)).map (fun v=>({y with code:=v}:OBlock))=_;rw[(codL itInstr 32 (by decide)).back _ hx.code];rfl⟩
  ·omega
 inj:=fun x y hx hy h=>by
  have e1:=(codI 2147483647 (by decide)).inj hx.id hy.id (h 1 (by omega) (by omega))
  have e2:=(codL itInstr 32 (by decide)).inj hx.code hy.code (h 2 (by omega) (by omega))
  cases x;cases y
  simp only at e1 e2
  subst e1 e2
  rfl
 z:=⟨(codI 2147483647 (by decide)).zg,(codL itInstr 32 (by decide)).zg⟩
 z0:=fun k=>by rcases k with _|_|_|k<;>first|rfl|exact(codI 2147483647 (by decide)).z0|exact(codL itInstr 32 (by decide)).z0
 len:=fun x k hx=>by
  rcases k with _|_|_|k
  ·exact Nat.zero_le _
  ·exact(codI 2147483647 (by decide)).len _ hx.id
  ·exact(codL itInstr 32 (by decide)).len _ hx.code
  ·exact Nat.zero_le _
 m:=by omega
theorem attsBlock_eq(x:OBlock):attsBlock x=atFrom (putBlock x) 2 0:=by
 unfold attsBlock
 simp only[addN_one,addT_one,bytes_toList,List.nil_append,atFrom,List.append_nil]
 rfl
def zGroup:OGroup:=⟨0,0,0,[]⟩
def stepGroup(x:OGroup)(a:At):Option OGroup:=match a.t with
 | 1=>(getI 2147483647 a.v.data.toList).map fun v=>{x with id:=v}
 | 2=>(getN 255 a.v.data.toList).map fun v=>{x with kind:=v}
 | 3=>(getI 2147483647 a.v.data.toList).map fun v=>{x with fld:=v}
 | 4=>(getL rdBucket 16 a.v.data.toList).map fun v=>{x with bks:=v}
 |_=>none
def putGroup(x:OGroup):Nat->List UInt8
 | 1=>putI x.id
 | 2=>putU x.kind
 | 3=>putI x.fld
 | 4=>putL oneBucket x.bks
 |_=>[]
structure goodGroup(x:OGroup):Prop where
 id:gdI 2147483647 x.id
 kind:gdN 255 x.kind
 fld:gdI 2147483647 x.fld
 bks:gdL goodBucket 16 x.bks
theorem schGroup:Sch 4 stepGroup putGroup goodGroup zGroup where
 no:=fun y a h=>by
  unfold stepGroup
  split<;>first|rfl|omega
 is:=fun y a y' hy h=>by
  unfold stepGroup at h
  split at h
  ·rename_i ha
   obtain⟨v,hv,rfl⟩:=Option.map_eq_some_iff.1 h
   obtain⟨g1,g2⟩:=(codI 2147483647 (by decide)).ok _ _ hv
   rw[ha]
   exact⟨⟨g1,hy.kind,hy.fld,hy.bks⟩,g2,fun j hj=>by rcases j with _|_|_|_|_|j<;>first|rfl|exact absurd rfl hj⟩
  ·rename_i ha
   obtain⟨v,hv,rfl⟩:=Option.map_eq_some_iff.1 h
   obtain⟨g1,g2⟩:=(codU 255 (by decide)).ok _ _ hv
   rw[ha]
   exact⟨⟨hy.id,g1,hy.fld,hy.bks⟩,g2,fun j hj=>by rcases j with _|_|_|_|_|j<;>first|rfl|exact absurd rfl hj⟩
  ·rename_i ha
   obtain⟨v,hv,rfl⟩:=Option.map_eq_some_iff.1 h
   obtain⟨g1,g2⟩:=(codI 2147483647 (by decide)).ok _ _ hv
   rw[ha]
   exact⟨⟨hy.id,hy.kind,g1,hy.bks⟩,g2,fun j hj=>by rcases j with _|_|_|_|_|j<;>first|rfl|exact absurd rfl hj⟩
  ·rename_i ha
   obtain⟨v,hv,rfl⟩:=Option.map_eq_some_iff.1 h
   obtain⟨g1,g2⟩:=(codL itBucket 16 (by decide)).ok _ _ hv
   rw[ha]
   exact⟨⟨hy.id,hy.kind,hy.fld,g1⟩,g2,fun j hj=>by rcases j with _|_|_|_|_|j<;>first|rfl|exact absurd rfl hj⟩
  ·cases h
 back:=fun x y k hx h1 h2=>by
  rcases k with _|_|_|_|_|k
  ·omega
  ·exact⟨{y with id:=x.id},by show(getI 2147483647 (putI x.id)).map (fun v=>({y with id:=v}:OGroup))=_;rw[(codI 2147483647 (by decide)).back _ hx.id];rfl⟩
  ·exact⟨{y with kind:=x.kind},by show(getN 255 (putU x.kind)).map (fun v=>({y with kind:=v}:OGroup))=_;rw[(codU 255 (by decide)).back _ hx.kind];rfl⟩
  ·exact⟨{y with fld:=x.fld},by show(getI 2147483647 (putI x.fld)).map (fun v=>({y with fld:=v}:OGroup))=_;rw[(codI 2147483647 (by decide)).back _ hx.fld];rfl⟩
  ·exact⟨{y with bks:=x.bks},by show(getL rdBucket 16 (putL oneBucket x.bks)).map (fun v=>({y with bks:=v}:OGroup))=_;rw[(codL itBucket 16 (by decide)).back _ hx.bks];rfl⟩
  ·omega
 inj:=fun x y hx hy h=>by
  have e1:=(codI 2147483647 (by decide)).inj hx.id hy.id (h 1 (by omega) (by omega))
  have e2:=(codU 255 (by decide)).inj hx.kind hy.kind (h 2 (by omega) (by omega))
  have e3:=(codI 2147483647 (by decide)).inj hx.fld hy.fld (h 3 (by omega) (by omega))
  have e4:=(codL itBucket 16 (by decide)).inj hx.bks hy.bks (h 4 (by omega) (by omega))
  cases x;cases y
  simp only at e1 e2 e3 e4
  subst e1 e2 e3 e4
  rfl
 z:=⟨(codI 2147483647 (by decide)).zg,(codU 255 (by decide)).zg,(codI 2147483647 (by decide)).zg,(codL itBucket 16 (by decide)).zg⟩
 z0:=fun k=>by rcases k with _|_|_|_|_|k<;>first|rfl|exact(codI 2147483647 (by decide)).z0|exact(codU 255 (by decide)).z0|exact(codL itBucket 16 (by decide)).z0
 len:=fun x k hx=>by
  rcases k with _|_|_|_|_|k
  ·exact Nat.zero_le _
  ·exact(codI 2147483647 (by decide)).len _ hx.id
  ·exact(codU 255 (by decide)).len _ hx.kind
  ·exact(codI 2147483647 (by decide)).len _ hx.fld
  ·exact(codL itBucket 16 (by decide)).len _ hx.bks
  ·exact Nat.zero_le _
 m:=by omega
theorem attsGroup_eq(x:OGroup):attsGroup x=atFrom (putGroup x) 4 0:=by
 unfold attsGroup
 simp only[addN_one,addT_one,bytes_toList,List.nil_append,List.append_assoc,atFrom,List.append_nil]
 rfl
def zMeter:OMeter:=⟨0,0,0⟩
def stepMeter(x:OMeter)(a:At):Option OMeter:=match a.t with
 | 1=>(getI 2147483647 a.v.data.toList).map fun v=>{x with id:=v}
 | 2=>(getI 9223372036854775807 a.v.data.toList).map fun v=>{x with rate:=v}
 | 3=>(getI 9223372036854775807 a.v.data.toList).map fun v=>{x with burst:=v}
 |_=>none
def putMeter(x:OMeter):Nat->List UInt8
 | 1=>putI x.id
 | 2=>putI x.rate
 | 3=>putI x.burst
 |_=>[]
structure goodMeter(x:OMeter):Prop where
 id:gdI 2147483647 x.id
 rate:gdI 9223372036854775807 x.rate
 burst:gdI 9223372036854775807 x.burst
theorem schMeter:Sch 3 stepMeter putMeter goodMeter zMeter where
 no:=fun y a h=>by
  unfold stepMeter
  split<;>first|rfl|omega
 is:=fun y a y' hy h=>by
  unfold stepMeter at h
  split at h
  ·rename_i ha
   obtain⟨v,hv,rfl⟩:=Option.map_eq_some_iff.1 h
   obtain⟨g1,g2⟩:=(codI 2147483647 (by decide)).ok _ _ hv
   rw[ha]
   exact⟨⟨g1,hy.rate,hy.burst⟩,g2,fun j hj=>by rcases j with _|_|_|_|j<;>first|rfl|exact absurd rfl hj⟩
  ·rename_i ha
   obtain⟨v,hv,rfl⟩:=Option.map_eq_some_iff.1 h
   obtain⟨g1,g2⟩:=(codI 9223372036854775807 (by decide)).ok _ _ hv
   rw[ha]
   exact⟨⟨hy.id,g1,hy.burst⟩,g2,fun j hj=>by rcases j with _|_|_|_|j<;>first|rfl|exact absurd rfl hj⟩
  ·rename_i ha
   obtain⟨v,hv,rfl⟩:=Option.map_eq_some_iff.1 h
   obtain⟨g1,g2⟩:=(codI 9223372036854775807 (by decide)).ok _ _ hv
   rw[ha]
   exact⟨⟨hy.id,hy.rate,g1⟩,g2,fun j hj=>by rcases j with _|_|_|_|j<;>first|rfl|exact absurd rfl hj⟩
  ·cases h
 back:=fun x y k hx h1 h2=>by
  rcases k with _|_|_|_|k
  ·omega
  ·exact⟨{y with id:=x.id},by show(getI 2147483647 (putI x.id)).map (fun v=>({y with id:=v}:OMeter))=_;rw[(codI 2147483647 (by decide)).back _ hx.id];rfl⟩
  ·exact⟨{y with rate:=x.rate},by show(getI 9223372036854775807 (putI x.rate)).map (fun v=>({y with rate:=v}:OMeter))=_;rw[(codI 9223372036854775807 (by decide)).back _ hx.rate];rfl⟩
  ·exact⟨{y with burst:=x.burst},by show(getI 9223372036854775807 (putI x.burst)).map (fun v=>({y with burst:=v}:OMeter))=_;rw[(codI 9223372036854775807 (by decide)).back _ hx.burst];rfl⟩
  ·omega
 inj:=fun x y hx hy h=>by
  have e1:=(codI 2147483647 (by decide)).inj hx.id hy.id (h 1 (by omega) (by omega))
  have e2:=(codI 9223372036854775807 (by decide)).inj hx.rate hy.rate (h 2 (by omega) (by omega))
  have e3:=(codI 9223372036854775807 (by decide)).inj hx.burst hy.burst (h 3 (by omega) (by omega))
  cases x;cases y
  simp only at e1 e2 e3
  subst e1 e2 e3
  rfl
 z:=⟨(codI 2147483647 (by decide)).zg,(codI 9223372036854775807 (by decide)).zg,(codI 9223372036854775807 (by decide)).zg⟩
 z0:=fun k=>by rcases k with _|_|_|_|k<;>first|rfl|exact(codI 2147483647 (by decide)).z0|exact(codI 9223372036854775807 (by decide)).z0
 len:=fun x k hx=>by
  rcases k with _|_|_|_|k
  ·exact Nat.zero_le _
  ·exact(codI 2147483647 (by decide)).len _ hx.id
  ·exact(codI 9223372036854775807 (by decide)).len _ hx.rate
  ·exact(codI 9223372036854775807 (by decide)).len _ hx.burst
  ·exact Nat.zero_le _
 m:=by omega
theorem attsMeter_eq(x:OMeter):attsMeter x=atFrom (putMeter x) 3 0:=by
 unfold attsMeter
 simp only[addN_one,List.nil_append,List.append_assoc,atFrom,List.append_nil]
 rfl
def zRegs:ORegs:=⟨0,0⟩
def stepRegs(x:ORegs)(a:At):Option ORegs:=match a.t with
 | 1=>(getI 2147483647 a.v.data.toList).map fun v=>{x with id:=v}
 | 2=>(getI 2147483647 a.v.data.toList).map fun v=>{x with size:=v}
 |_=>none
def putRegs(x:ORegs):Nat->List UInt8
 | 1=>putI x.id
 | 2=>putI x.size
 |_=>[]
structure goodRegs(x:ORegs):Prop where
 id:gdI 2147483647 x.id
 size:gdI 2147483647 x.size
theorem schRegs:Sch 2 stepRegs putRegs goodRegs zRegs where
 no:=fun y a h=>by
  unfold stepRegs
  split<;>first|rfl|omega
 is:=fun y a y' hy h=>by
  unfold stepRegs at h
  split at h
  ·rename_i ha
   obtain⟨v,hv,rfl⟩:=Option.map_eq_some_iff.1 h
   obtain⟨g1,g2⟩:=(codI 2147483647 (by decide)).ok _ _ hv
   rw[ha]
   exact⟨⟨g1,hy.size⟩,g2,fun j hj=>by rcases j with _|_|_|j<;>first|rfl|exact absurd rfl hj⟩
  ·rename_i ha
   obtain⟨v,hv,rfl⟩:=Option.map_eq_some_iff.1 h
   obtain⟨g1,g2⟩:=(codI 2147483647 (by decide)).ok _ _ hv
   rw[ha]
   exact⟨⟨hy.id,g1⟩,g2,fun j hj=>by rcases j with _|_|_|j<;>first|rfl|exact absurd rfl hj⟩
  ·cases h
 back:=fun x y k hx h1 h2=>by
  rcases k with _|_|_|k
  ·omega
  ·exact⟨{y with id:=x.id},by show(getI 2147483647 (putI x.id)).map (fun v=>({y with id:=v}:ORegs))=_;rw[(codI 2147483647 (by decide)).back _ hx.id];rfl⟩
  ·exact⟨{y with size:=x.size},by show(getI 2147483647 (putI x.size)).map (fun v=>({y with size:=v}:ORegs))=_;rw[(codI 2147483647 (by decide)).back _ hx.size];rfl⟩
  ·omega
 inj:=fun x y hx hy h=>by
  have e1:=(codI 2147483647 (by decide)).inj hx.id hy.id (h 1 (by omega) (by omega))
  have e2:=(codI 2147483647 (by decide)).inj hx.size hy.size (h 2 (by omega) (by omega))
  cases x;cases y
  simp only at e1 e2
  subst e1 e2
  rfl
 z:=⟨(codI 2147483647 (by decide)).zg,(codI 2147483647 (by decide)).zg⟩
 z0:=fun k=>by rcases k with _|_|_|k<;>first|rfl|exact(codI 2147483647 (by decide)).z0
 len:=fun x k hx=>by
  rcases k with _|_|_|k
  ·exact Nat.zero_le _
  ·exact(codI 2147483647 (by decide)).len _ hx.id
  ·exact(codI 2147483647 (by decide)).len _ hx.size
  ·exact Nat.zero_le _
 m:=by omega
theorem attsRegs_eq(x:ORegs):attsRegs x=atFrom (putRegs x) 2 0:=by
 unfold attsRegs
 simp only[addN_one,List.nil_append,atFrom,List.append_nil]
 rfl
end Go.Tlv
