/- The law ObjNothing: what the code comes to. -/
import Derived.Test.YtblbaohcelldpaaGreatU14
set_option linter.all false
namespace Go.Proofs.YtblbaohcelldpaaGreat.Ob
open Go Go.Abs Go.Tlv
set_option maxRecDepth 100000
noncomputable section
def I2(x:OMsg)(k:Upto 8):List Value×List (Option AObj):=([pA 100,.int .i64 (k.1:Int)],[some (cM x)])
theorem rnd2_0(x:OMsg)(hx:okMsg x)(hr:rgMsg x):
  Is (wpe Tryz.prog (real Tryz.prog) (howOf Z0 Zp [] [] [(11,sPu MPur),(15,sReads MRr),(13,sSm (MSmr vMsg okMsg sameM))] [(97,18),(97,20),(97,34),(97,51),(97,95)]) 300 (.code false (loopIn Tryz.prog 6 4) (stOf 100 97 [1,3] [] (I2 x ⟨0,by omega⟩))) (roundK 1 [1,3] [2] 97
   (fun vals objs=>∃a':Upto 8,8-a'.1<8-0/\vals=(I2 x a').1/\objs=(I2 x a').2/\∀e v,R1 e v->R1 e v)
   (fun e v=>R1 e v))):=by
 refine⟨?_⟩
 show gNothingR0 (real Tryz.prog) MPur MRr (MSmr vMsg okMsg sameM) (x.a0:Int) (x.a1:Int) x.a2 x.a3 x.a4 x.a5 x.a6 (x.a7:Int) (x.a8:Int) x.a9 (rowsOf cNat x.a10) x.n.id x.n.size x.n.lo x.n.lw x.n.lu x.n.so x.n.sw (rowsOf cArm x.n.arms) x.n.ot x.f.id (x.f.base:Int) x.f.node x.f.off x.f.wid x.t.id (x.t.kind:Int) (rowsOf cInt x.t.keys) x.t.cap x.t.miss x.e.tab x.e.key x.e.oth x.e.len x.e.prio x.e.blk (rowsOf cNat x.e.args) x.e.idle x.e.hard (x.e.cook:Int) x.e.tell x.b.id (rowsOf cInstr x.b.code) x.g.id (x.g.kind:Int) x.g.fld (rowsOf cBucket x.g.bks) x.m.id x.m.rate x.m.burst x.r.id x.r.size _ _
 rw[gNothingR0_eq]
 have hz:rdE stepNode zNode (bytesOf []).data.toList=(0,zNode):=rdnilNode
 have hz0:encS (attsNode zNode)=[]:=(nothingNode schNode.z).2 rfl
 refine⟨fun y hy=>?_,fun h=>absurd (hz.symm.trans h) (by simp),fun h=>absurd (hz.symm.trans h) (by simp)⟩
 have e:zNode=y:=by have:=hz.symm.trans hy;simpa using this
 subst e
 refine⟨zMsg,0,rfl,okZ,rfl,by omega,fun _=>mN okZ rfl (n_scmp_ne (fun h=>absurd hz0 h) (fun _=>?_)),fun hm=>absurd (show mayJ zMsg 0=true from goodNode_may schNode.z) (by rw[hm];simp)⟩
 refine⟨x,0,rfl,hx,rfl,by omega,fun hm=>?_,fun _=>⟨rfl,⟨1,by omega⟩,by show 8-1<8-0;omega,rfl,rfl,fun _ _ h=>h⟩⟩
 have hg:goodNode x.n:=goodNode_of hm hr.1
 refine n_scmp_eq (fun h=>?_) (fun h=>?_)
 ·have e:x.n=zNode:=(nothingNode hg).1 h
  exact mN (x:=mkNode x.n) (y:=zMsg) (ok_mkNode hg) (by rw[e];rfl) ⟨rfl,⟨1,by omega⟩,by show 8-1<8-0;omega,rfl,rfl,fun _ _ h=>h⟩
 ·exact⟨mkNode x.n,zMsg,rfl,rfl,ok_mkNode hg,okZ,fun hs=>absurd ((nothingNode hg).2 hs.1) h,fun _=>⟨rfl,⟨1,by omega⟩,by show 8-1<8-0;omega,rfl,rfl,fun _ _ h=>h⟩⟩
theorem rnd2_1(x:OMsg)(hx:okMsg x)(hr:rgMsg x):
  Is (wpe Tryz.prog (real Tryz.prog) (howOf Z0 Zp [] [] [(11,sPu MPur),(15,sReads MRr),(13,sSm (MSmr vMsg okMsg sameM))] [(97,18),(97,20),(97,34),(97,51),(97,95)]) 300 (.code false (loopIn Tryz.prog 6 4) (stOf 100 97 [1,3] [] (I2 x ⟨1,by omega⟩))) (roundK 1 [1,3] [2] 97
   (fun vals objs=>∃a':Upto 8,8-a'.1<8-1/\vals=(I2 x a').1/\objs=(I2 x a').2/\∀e v,R1 e v->R1 e v)
   (fun e v=>R1 e v))):=by
 refine⟨?_⟩
 show gNothingR1 (real Tryz.prog) MPur MRr (MSmr vMsg okMsg sameM) (x.a0:Int) (x.a1:Int) x.a2 x.a3 x.a4 x.a5 x.a6 (x.a7:Int) (x.a8:Int) x.a9 (rowsOf cNat x.a10) x.n.id x.n.size x.n.lo x.n.lw x.n.lu x.n.so x.n.sw (rowsOf cArm x.n.arms) x.n.ot x.f.id (x.f.base:Int) x.f.node x.f.off x.f.wid x.t.id (x.t.kind:Int) (rowsOf cInt x.t.keys) x.t.cap x.t.miss x.e.tab x.e.key x.e.oth x.e.len x.e.prio x.e.blk (rowsOf cNat x.e.args) x.e.idle x.e.hard (x.e.cook:Int) x.e.tell x.b.id (rowsOf cInstr x.b.code) x.g.id (x.g.kind:Int) x.g.fld (rowsOf cBucket x.g.bks) x.m.id x.m.rate x.m.burst x.r.id x.r.size _ _
 rw[gNothingR1_eq]
 have hz:rdE stepField zField (bytesOf []).data.toList=(0,zField):=rdnilField
 have hz0:encS (attsField zField)=[]:=(nothingField schField.z).2 rfl
 refine⟨fun y hy=>?_,fun h=>absurd (hz.symm.trans h) (by simp),fun h=>absurd (hz.symm.trans h) (by simp)⟩
 have e:zField=y:=by have:=hz.symm.trans hy;simpa using this
 subst e
 refine⟨zMsg,1,rfl,okZ,rfl,by omega,fun _=>mN okZ rfl (n_scmp_ne (fun h=>absurd hz0 h) (fun _=>?_)),fun hm=>absurd (show mayJ zMsg 1=true from goodField_may schField.z) (by rw[hm];simp)⟩
 refine⟨x,1,rfl,hx,rfl,by omega,fun hm=>?_,fun _=>⟨rfl,⟨2,by omega⟩,by show 8-2<8-1;omega,rfl,rfl,fun _ _ h=>h⟩⟩
 have hg:goodField x.f:=goodField_of hm hr.2.1
 refine n_scmp_eq (fun h=>?_) (fun h=>?_)
 ·have e:x.f=zField:=(nothingField hg).1 h
  exact mN (x:=mkField x.f) (y:=zMsg) (ok_mkField hg) (by rw[e];rfl) ⟨rfl,⟨2,by omega⟩,by show 8-2<8-1;omega,rfl,rfl,fun _ _ h=>h⟩
 ·exact⟨mkField x.f,zMsg,rfl,rfl,ok_mkField hg,okZ,fun hs=>absurd ((nothingField hg).2 hs.2.1) h,fun _=>⟨rfl,⟨2,by omega⟩,by show 8-2<8-1;omega,rfl,rfl,fun _ _ h=>h⟩⟩
theorem rnd2_2(x:OMsg)(hx:okMsg x)(hr:rgMsg x):
  Is (wpe Tryz.prog (real Tryz.prog) (howOf Z0 Zp [] [] [(11,sPu MPur),(15,sReads MRr),(13,sSm (MSmr vMsg okMsg sameM))] [(97,18),(97,20),(97,34),(97,51),(97,95)]) 300 (.code false (loopIn Tryz.prog 6 4) (stOf 100 97 [1,3] [] (I2 x ⟨2,by omega⟩))) (roundK 1 [1,3] [2] 97
   (fun vals objs=>∃a':Upto 8,8-a'.1<8-2/\vals=(I2 x a').1/\objs=(I2 x a').2/\∀e v,R1 e v->R1 e v)
   (fun e v=>R1 e v))):=by
 refine⟨?_⟩
 show gNothingR2 (real Tryz.prog) MPur MRr (MSmr vMsg okMsg sameM) (x.a0:Int) (x.a1:Int) x.a2 x.a3 x.a4 x.a5 x.a6 (x.a7:Int) (x.a8:Int) x.a9 (rowsOf cNat x.a10) x.n.id x.n.size x.n.lo x.n.lw x.n.lu x.n.so x.n.sw (rowsOf cArm x.n.arms) x.n.ot x.f.id (x.f.base:Int) x.f.node x.f.off x.f.wid x.t.id (x.t.kind:Int) (rowsOf cInt x.t.keys) x.t.cap x.t.miss x.e.tab x.e.key x.e.oth x.e.len x.e.prio x.e.blk (rowsOf cNat x.e.args) x.e.idle x.e.hard (x.e.cook:Int) x.e.tell x.b.id (rowsOf cInstr x.b.code) x.g.id (x.g.kind:Int) x.g.fld (rowsOf cBucket x.g.bks) x.m.id x.m.rate x.m.burst x.r.id x.r.size _ _
 rw[gNothingR2_eq]
 have hz:rdE stepTable zTable (bytesOf []).data.toList=(0,zTable):=rdnilTable
 have hz0:encS (attsTable zTable)=[]:=(nothingTable schTable.z).2 rfl
 refine⟨fun y hy=>?_,fun h=>absurd (hz.symm.trans h) (by simp),fun h=>absurd (hz.symm.trans h) (by simp)⟩
 have e:zTable=y:=by have:=hz.symm.trans hy;simpa using this
 subst e
 refine⟨zMsg,2,rfl,okZ,rfl,by omega,fun _=>mN okZ rfl (n_scmp_ne (fun h=>absurd hz0 h) (fun _=>?_)),fun hm=>absurd (show mayJ zMsg 2=true from goodTable_may schTable.z) (by rw[hm];simp)⟩
 refine⟨x,2,rfl,hx,rfl,by omega,fun hm=>?_,fun _=>⟨rfl,⟨3,by omega⟩,by show 8-3<8-2;omega,rfl,rfl,fun _ _ h=>h⟩⟩
 have hg:goodTable x.t:=goodTable_of hm hr.2.2.1
 refine n_scmp_eq (fun h=>?_) (fun h=>?_)
 ·have e:x.t=zTable:=(nothingTable hg).1 h
  exact mN (x:=mkTable x.t) (y:=zMsg) (ok_mkTable hg) (by rw[e];rfl) ⟨rfl,⟨3,by omega⟩,by show 8-3<8-2;omega,rfl,rfl,fun _ _ h=>h⟩
 ·exact⟨mkTable x.t,zMsg,rfl,rfl,ok_mkTable hg,okZ,fun hs=>absurd ((nothingTable hg).2 hs.2.2.1) h,fun _=>⟨rfl,⟨3,by omega⟩,by show 8-3<8-2;omega,rfl,rfl,fun _ _ h=>h⟩⟩
theorem rnd2_3(x:OMsg)(hx:okMsg x)(hr:rgMsg x):
  Is (wpe Tryz.prog (real Tryz.prog) (howOf Z0 Zp [] [] [(11,sPu MPur),(15,sReads MRr),(13,sSm (MSmr vMsg okMsg sameM))] [(97,18),(97,20),(97,34),(97,51),(97,95)]) 300 (.code false (loopIn Tryz.prog 6 4) (stOf 100 97 [1,3] [] (I2 x ⟨3,by omega⟩))) (roundK 1 [1,3] [2] 97
   (fun vals objs=>∃a':Upto 8,8-a'.1<8-3/\vals=(I2 x a').1/\objs=(I2 x a').2/\∀e v,R1 e v->R1 e v)
   (fun e v=>R1 e v))):=by
 refine⟨?_⟩
 show gNothingR3 (real Tryz.prog) MPur MRr (MSmr vMsg okMsg sameM) (x.a0:Int) (x.a1:Int) x.a2 x.a3 x.a4 x.a5 x.a6 (x.a7:Int) (x.a8:Int) x.a9 (rowsOf cNat x.a10) x.n.id x.n.size x.n.lo x.n.lw x.n.lu x.n.so x.n.sw (rowsOf cArm x.n.arms) x.n.ot x.f.id (x.f.base:Int) x.f.node x.f.off x.f.wid x.t.id (x.t.kind:Int) (rowsOf cInt x.t.keys) x.t.cap x.t.miss x.e.tab x.e.key x.e.oth x.e.len x.e.prio x.e.blk (rowsOf cNat x.e.args) x.e.idle x.e.hard (x.e.cook:Int) x.e.tell x.b.id (rowsOf cInstr x.b.code) x.g.id (x.g.kind:Int) x.g.fld (rowsOf cBucket x.g.bks) x.m.id x.m.rate x.m.burst x.r.id x.r.size _ _
 rw[gNothingR3_eq]
 have hz:rdE stepEntry zEntry (bytesOf []).data.toList=(0,zEntry):=rdnilEntry
 have hz0:encS (attsEntry zEntry)=[]:=(nothingEntry schEntry.z).2 rfl
 refine⟨fun y hy=>?_,fun h=>absurd (hz.symm.trans h) (by simp),fun h=>absurd (hz.symm.trans h) (by simp)⟩
 have e:zEntry=y:=by have:=hz.symm.trans hy;simpa using this
 subst e
 refine⟨zMsg,3,rfl,okZ,rfl,by omega,fun _=>mN okZ rfl (n_scmp_ne (fun h=>absurd hz0 h) (fun _=>?_)),fun hm=>absurd (show mayJ zMsg 3=true from goodEntry_may schEntry.z) (by rw[hm];simp)⟩
 refine⟨x,3,rfl,hx,rfl,by omega,fun hm=>?_,fun _=>⟨rfl,⟨4,by omega⟩,by show 8-4<8-3;omega,rfl,rfl,fun _ _ h=>h⟩⟩
 have hg:goodEntry x.e:=goodEntry_of hm hr.2.2.2.1
 refine n_scmp_eq (fun h=>?_) (fun h=>?_)
 ·have e:x.e=zEntry:=(nothingEntry hg).1 h
  exact mN (x:=mkEntry x.e) (y:=zMsg) (ok_mkEntry hg) (by rw[e];rfl) ⟨rfl,⟨4,by omega⟩,by show 8-4<8-3;omega,rfl,rfl,fun _ _ h=>h⟩
 ·exact⟨mkEntry x.e,zMsg,rfl,rfl,ok_mkEntry hg,okZ,fun hs=>absurd ((nothingEntry hg).2 hs.2.2.2.1) h,fun _=>⟨rfl,⟨4,by omega⟩,by show 8-4<8-3;omega,rfl,rfl,fun _ _ h=>h⟩⟩
theorem rnd2_4(x:OMsg)(hx:okMsg x)(hr:rgMsg x):
  Is (wpe Tryz.prog (real Tryz.prog) (howOf Z0 Zp [] [] [(11,sPu MPur),(15,sReads MRr),(13,sSm (MSmr vMsg okMsg sameM))] [(97,18),(97,20),(97,34),(97,51),(97,95)]) 300 (.code false (loopIn Tryz.prog 6 4) (stOf 100 97 [1,3] [] (I2 x ⟨4,by omega⟩))) (roundK 1 [1,3] [2] 97
   (fun vals objs=>∃a':Upto 8,8-a'.1<8-4/\vals=(I2 x a').1/\objs=(I2 x a').2/\∀e v,R1 e v->R1 e v)
   (fun e v=>R1 e v))):=by
 refine⟨?_⟩
 show gNothingR4 (real Tryz.prog) MPur MRr (MSmr vMsg okMsg sameM) (x.a0:Int) (x.a1:Int) x.a2 x.a3 x.a4 x.a5 x.a6 (x.a7:Int) (x.a8:Int) x.a9 (rowsOf cNat x.a10) x.n.id x.n.size x.n.lo x.n.lw x.n.lu x.n.so x.n.sw (rowsOf cArm x.n.arms) x.n.ot x.f.id (x.f.base:Int) x.f.node x.f.off x.f.wid x.t.id (x.t.kind:Int) (rowsOf cInt x.t.keys) x.t.cap x.t.miss x.e.tab x.e.key x.e.oth x.e.len x.e.prio x.e.blk (rowsOf cNat x.e.args) x.e.idle x.e.hard (x.e.cook:Int) x.e.tell x.b.id (rowsOf cInstr x.b.code) x.g.id (x.g.kind:Int) x.g.fld (rowsOf cBucket x.g.bks) x.m.id x.m.rate x.m.burst x.r.id x.r.size _ _
 rw[gNothingR4_eq]
 have hz:rdE stepBlock zBlock (bytesOf []).data.toList=(0,zBlock):=rdnilBlock
 have hz0:encS (attsBlock zBlock)=[]:=(nothingBlock schBlock.z).2 rfl
 refine⟨fun y hy=>?_,fun h=>absurd (hz.symm.trans h) (by simp),fun h=>absurd (hz.symm.trans h) (by simp)⟩
 have e:zBlock=y:=by have:=hz.symm.trans hy;simpa using this
 subst e
 refine⟨zMsg,4,rfl,okZ,rfl,by omega,fun _=>mN okZ rfl (n_scmp_ne (fun h=>absurd hz0 h) (fun _=>?_)),fun hm=>absurd (show mayJ zMsg 4=true from goodBlock_may schBlock.z) (by rw[hm];simp)⟩
 refine⟨x,4,rfl,hx,rfl,by omega,fun hm=>?_,fun _=>⟨rfl,⟨5,by omega⟩,by show 8-5<8-4;omega,rfl,rfl,fun _ _ h=>h⟩⟩
 have hg:goodBlock x.b:=goodBlock_of hm hr.2.2.2.2.1
 refine n_scmp_eq (fun h=>?_) (fun h=>?_)
 ·have e:x.b=zBlock:=(nothingBlock hg).1 h
  exact mN (x:=mkBlock x.b) (y:=zMsg) (ok_mkBlock hg) (by rw[e];rfl) ⟨rfl,⟨5,by omega⟩,by show 8-5<8-4;omega,rfl,rfl,fun _ _ h=>h⟩
 ·exact⟨mkBlock x.b,zMsg,rfl,rfl,ok_mkBlock hg,okZ,fun hs=>absurd ((nothingBlock hg).2 hs.2.2.2.2.1) h,fun _=>⟨rfl,⟨5,by omega⟩,by show 8-5<8-4;omega,rfl,rfl,fun _ _ h=>h⟩⟩
theorem rnd2_5(x:OMsg)(hx:okMsg x)(hr:rgMsg x):
  Is (wpe Tryz.prog (real Tryz.prog) (howOf Z0 Zp [] [] [(11,sPu MPur),(15,sReads MRr),(13,sSm (MSmr vMsg okMsg sameM))] [(97,18),(97,20),(97,34),(97,51),(97,95)]) 300 (.code false (loopIn Tryz.prog 6 4) (stOf 100 97 [1,3] [] (I2 x ⟨5,by omega⟩))) (roundK 1 [1,3] [2] 97
   (fun vals objs=>∃a':Upto 8,8-a'.1<8-5/\vals=(I2 x a').1/\objs=(I2 x a').2/\∀e v,R1 e v->R1 e v)
   (fun e v=>R1 e v))):=by
 refine⟨?_⟩
 show gNothingR5 (real Tryz.prog) MPur MRr (MSmr vMsg okMsg sameM) (x.a0:Int) (x.a1:Int) x.a2 x.a3 x.a4 x.a5 x.a6 (x.a7:Int) (x.a8:Int) x.a9 (rowsOf cNat x.a10) x.n.id x.n.size x.n.lo x.n.lw x.n.lu x.n.so x.n.sw (rowsOf cArm x.n.arms) x.n.ot x.f.id (x.f.base:Int) x.f.node x.f.off x.f.wid x.t.id (x.t.kind:Int) (rowsOf cInt x.t.keys) x.t.cap x.t.miss x.e.tab x.e.key x.e.oth x.e.len x.e.prio x.e.blk (rowsOf cNat x.e.args) x.e.idle x.e.hard (x.e.cook:Int) x.e.tell x.b.id (rowsOf cInstr x.b.code) x.g.id (x.g.kind:Int) x.g.fld (rowsOf cBucket x.g.bks) x.m.id x.m.rate x.m.burst x.r.id x.r.size _ _
 rw[gNothingR5_eq]
 have hz:rdE stepGroup zGroup (bytesOf []).data.toList=(0,zGroup):=rdnilGroup
 have hz0:encS (attsGroup zGroup)=[]:=(nothingGroup schGroup.z).2 rfl
 refine⟨fun y hy=>?_,fun h=>absurd (hz.symm.trans h) (by simp),fun h=>absurd (hz.symm.trans h) (by simp)⟩
 have e:zGroup=y:=by have:=hz.symm.trans hy;simpa using this
 subst e
 refine⟨zMsg,5,rfl,okZ,rfl,by omega,fun _=>mN okZ rfl (n_scmp_ne (fun h=>absurd hz0 h) (fun _=>?_)),fun hm=>absurd (show mayJ zMsg 5=true from goodGroup_may schGroup.z) (by rw[hm];simp)⟩
 refine⟨x,5,rfl,hx,rfl,by omega,fun hm=>?_,fun _=>⟨rfl,⟨6,by omega⟩,by show 8-6<8-5;omega,rfl,rfl,fun _ _ h=>h⟩⟩
 have hg:goodGroup x.g:=goodGroup_of hm hr.2.2.2.2.2.1
 refine n_scmp_eq (fun h=>?_) (fun h=>?_)
 ·have e:x.g=zGroup:=(nothingGroup hg).1 h
  exact mN (x:=mkGroup x.g) (y:=zMsg) (ok_mkGroup hg) (by rw[e];rfl) ⟨rfl,⟨6,by omega⟩,by show 8-6<8-5;omega,rfl,rfl,fun _ _ h=>h⟩
 ·exact⟨mkGroup x.g,zMsg,rfl,rfl,ok_mkGroup hg,okZ,fun hs=>absurd ((nothingGroup hg).2 hs.2.2.2.2.2.1) h,fun _=>⟨rfl,⟨6,by omega⟩,by show 8-6<8-5;omega,rfl,rfl,fun _ _ h=>h⟩⟩
theorem rnd2_6(x:OMsg)(hx:okMsg x)(hr:rgMsg x):
  Is (wpe Tryz.prog (real Tryz.prog) (howOf Z0 Zp [] [] [(11,sPu MPur),(15,sReads MRr),(13,sSm (MSmr vMsg okMsg sameM))] [(97,18),(97,20),(97,34),(97,51),(97,95)]) 300 (.code false (loopIn Tryz.prog 6 4) (stOf 100 97 [1,3] [] (I2 x ⟨6,by omega⟩))) (roundK 1 [1,3] [2] 97
   (fun vals objs=>∃a':Upto 8,8-a'.1<8-6/\vals=(I2 x a').1/\objs=(I2 x a').2/\∀e v,R1 e v->R1 e v)
   (fun e v=>R1 e v))):=by
 refine⟨?_⟩
 show gNothingR6 (real Tryz.prog) MPur MRr (MSmr vMsg okMsg sameM) (x.a0:Int) (x.a1:Int) x.a2 x.a3 x.a4 x.a5 x.a6 (x.a7:Int) (x.a8:Int) x.a9 (rowsOf cNat x.a10) x.n.id x.n.size x.n.lo x.n.lw x.n.lu x.n.so x.n.sw (rowsOf cArm x.n.arms) x.n.ot x.f.id (x.f.base:Int) x.f.node x.f.off x.f.wid x.t.id (x.t.kind:Int) (rowsOf cInt x.t.keys) x.t.cap x.t.miss x.e.tab x.e.key x.e.oth x.e.len x.e.prio x.e.blk (rowsOf cNat x.e.args) x.e.idle x.e.hard (x.e.cook:Int) x.e.tell x.b.id (rowsOf cInstr x.b.code) x.g.id (x.g.kind:Int) x.g.fld (rowsOf cBucket x.g.bks) x.m.id x.m.rate x.m.burst x.r.id x.r.size _ _
 rw[gNothingR6_eq]
 have hz:rdE stepMeter zMeter (bytesOf []).data.toList=(0,zMeter):=rdnilMeter
 have hz0:encS (attsMeter zMeter)=[]:=(nothingMeter schMeter.z).2 rfl
 refine⟨fun y hy=>?_,fun h=>absurd (hz.symm.trans h) (by simp),fun h=>absurd (hz.symm.trans h) (by simp)⟩
 have e:zMeter=y:=by have:=hz.symm.trans hy;simpa using this
 subst e
 refine⟨zMsg,6,rfl,okZ,rfl,by omega,fun _=>mN okZ rfl (n_scmp_ne (fun h=>absurd hz0 h) (fun _=>?_)),fun hm=>absurd (show mayJ zMsg 6=true from goodMeter_may schMeter.z) (by rw[hm];simp)⟩
 refine⟨x,6,rfl,hx,rfl,by omega,fun hm=>?_,fun _=>⟨rfl,⟨7,by omega⟩,by show 8-7<8-6;omega,rfl,rfl,fun _ _ h=>h⟩⟩
 have hg:goodMeter x.m:=goodMeter_of hm hr.2.2.2.2.2.2.1
 refine n_scmp_eq (fun h=>?_) (fun h=>?_)
 ·have e:x.m=zMeter:=(nothingMeter hg).1 h
  exact mN (x:=mkMeter x.m) (y:=zMsg) (ok_mkMeter hg) (by rw[e];rfl) ⟨rfl,⟨7,by omega⟩,by show 8-7<8-6;omega,rfl,rfl,fun _ _ h=>h⟩
 ·exact⟨mkMeter x.m,zMsg,rfl,rfl,ok_mkMeter hg,okZ,fun hs=>absurd ((nothingMeter hg).2 hs.2.2.2.2.2.2.1) h,fun _=>⟨rfl,⟨7,by omega⟩,by show 8-7<8-6;omega,rfl,rfl,fun _ _ h=>h⟩⟩
theorem rnd2_7(x:OMsg)(hx:okMsg x)(hr:rgMsg x):
  Is (wpe Tryz.prog (real Tryz.prog) (howOf Z0 Zp [] [] [(11,sPu MPur),(15,sReads MRr),(13,sSm (MSmr vMsg okMsg sameM))] [(97,18),(97,20),(97,34),(97,51),(97,95)]) 300 (.code false (loopIn Tryz.prog 6 4) (stOf 100 97 [1,3] [] (I2 x ⟨7,by omega⟩))) (roundK 1 [1,3] [2] 97
   (fun vals objs=>∃a':Upto 8,8-a'.1<8-7/\vals=(I2 x a').1/\objs=(I2 x a').2/\∀e v,R1 e v->R1 e v)
   (fun e v=>R1 e v))):=by
 refine⟨?_⟩
 show gNothingR7 (real Tryz.prog) MPur MRr (MSmr vMsg okMsg sameM) (x.a0:Int) (x.a1:Int) x.a2 x.a3 x.a4 x.a5 x.a6 (x.a7:Int) (x.a8:Int) x.a9 (rowsOf cNat x.a10) x.n.id x.n.size x.n.lo x.n.lw x.n.lu x.n.so x.n.sw (rowsOf cArm x.n.arms) x.n.ot x.f.id (x.f.base:Int) x.f.node x.f.off x.f.wid x.t.id (x.t.kind:Int) (rowsOf cInt x.t.keys) x.t.cap x.t.miss x.e.tab x.e.key x.e.oth x.e.len x.e.prio x.e.blk (rowsOf cNat x.e.args) x.e.idle x.e.hard (x.e.cook:Int) x.e.tell x.b.id (rowsOf cInstr x.b.code) x.g.id (x.g.kind:Int) x.g.fld (rowsOf cBucket x.g.bks) x.m.id x.m.rate x.m.burst x.r.id x.r.size _ _
 rw[gNothingR7_eq]
 have hz:rdE stepRegs zRegs (bytesOf []).data.toList=(0,zRegs):=rdnilRegs
 have hz0:encS (attsRegs zRegs)=[]:=(nothingRegs schRegs.z).2 rfl
 refine⟨fun y hy=>?_,fun h=>absurd (hz.symm.trans h) (by simp),fun h=>absurd (hz.symm.trans h) (by simp)⟩
 have e:zRegs=y:=by have:=hz.symm.trans hy;simpa using this
 subst e
 refine⟨zMsg,7,rfl,okZ,rfl,by omega,fun _=>mN okZ rfl (n_scmp_ne (fun h=>absurd hz0 h) (fun _=>?_)),fun hm=>absurd (show mayJ zMsg 7=true from goodRegs_may schRegs.z) (by rw[hm];simp)⟩
 refine⟨x,7,rfl,hx,rfl,by omega,fun hm=>?_,fun _=>⟨rfl,⟨8,by omega⟩,by show 8-8<8-7;omega,rfl,rfl,fun _ _ h=>h⟩⟩
 have hg:goodRegs x.r:=goodRegs_of hm hr.2.2.2.2.2.2.2
 refine n_scmp_eq (fun h=>?_) (fun h=>?_)
 ·have e:x.r=zRegs:=(nothingRegs hg).1 h
  exact mN (x:=mkRegs x.r) (y:=zMsg) (ok_mkRegs hg) (by rw[e];rfl) ⟨rfl,⟨8,by omega⟩,by show 8-8<8-7;omega,rfl,rfl,fun _ _ h=>h⟩
 ·exact⟨mkRegs x.r,zMsg,rfl,rfl,ok_mkRegs hg,okZ,fun hs=>absurd ((nothingRegs hg).2 hs.2.2.2.2.2.2.2) h,fun _=>⟨rfl,⟨8,by omega⟩,by show 8-8<8-7;omega,rfl,rfl,fun _ _ h=>h⟩⟩
theorem rnd2_8(x:OMsg):
  Is (wpe Tryz.prog (real Tryz.prog) (howOf Z0 Zp [] [] [(11,sPu MPur),(15,sReads MRr),(13,sSm (MSmr vMsg okMsg sameM))] [(97,18),(97,20),(97,34),(97,51),(97,95)]) 300 (.code false (loopIn Tryz.prog 6 4) (stOf 100 97 [1,3] [] (I2 x ⟨8,by omega⟩))) (roundK 1 [1,3] [2] 97
   (fun vals objs=>∃a':Upto 8,8-a'.1<8-8/\vals=(I2 x a').1/\objs=(I2 x a').2/\∀e v,R1 e v->R1 e v)
   (fun e v=>R1 e v))):=by
 refine⟨?_⟩
 show gNothingR8 (real Tryz.prog) MPur MRr (MSmr vMsg okMsg sameM) (x.a0:Int) (x.a1:Int) x.a2 x.a3 x.a4 x.a5 x.a6 (x.a7:Int) (x.a8:Int) x.a9 (rowsOf cNat x.a10) x.n.id x.n.size x.n.lo x.n.lw x.n.lu x.n.so x.n.sw (rowsOf cArm x.n.arms) x.n.ot x.f.id (x.f.base:Int) x.f.node x.f.off x.f.wid x.t.id (x.t.kind:Int) (rowsOf cInt x.t.keys) x.t.cap x.t.miss x.e.tab x.e.key x.e.oth x.e.len x.e.prio x.e.blk (rowsOf cNat x.e.args) x.e.idle x.e.hard (x.e.cook:Int) x.e.tell x.b.id (rowsOf cInstr x.b.code) x.g.id (x.g.kind:Int) x.g.fld (rowsOf cBucket x.g.bks) x.m.id x.m.rate x.m.burst x.r.id x.r.size _ _
 rw[gNothingR8_eq]
 exact⟨rfl,rfl,rfl⟩
def L2(x:OMsg):LWt:=fun c n vals obs A=>c=loopIn Tryz.prog 6 4/\n=97/\vals=[pA 100,.int .i64 (0:Int)]/\obs=[some (cM x)]/\okMsg x/\rgMsg x/\A
theorem lp2L(x:OMsg):LoopOk Tryz.prog 100 [1,3] (sLoW [2] (L2 x)):=by
 show LoopOk Tryz.prog 100 [1,3] (lpS [2] _)
 refine lp_mkK okp (W:=(howOf Z0 Zp [] [] [(11,sPu MPur),(15,sReads MRr),(13,sSm (MSmr vMsg okMsg sameM))] [(97,18),(97,20),(97,34),(97,51),(97,95)])) (kn_pu (pu3s puPu puRe puSmM)) lp_none ?_
 rintro c n vals obs K ⟨hc,hn,hv,ho,hx,hr,hA⟩
 subst hc;subst hn;subst hv;subst ho
 refine⟨Upto 8,300,fun k=>8-k.1,I2 x,fun _ e v=>R1 e v,⟨0,by omega⟩,Wk.refl _ _ _ _,?_,?_⟩
 ·rintro e v ⟨rfl,rfl⟩
  exact hA
 ·rintro ⟨k,hk⟩
  rcases k with _|_|_|_|_|_|_|_|_|k
  ·exact rnd2_0 x hx hr
  ·exact rnd2_1 x hx hr
  ·exact rnd2_2 x hx hr
  ·exact rnd2_3 x hx hr
  ·exact rnd2_4 x hx hr
  ·exact rnd2_5 x hx hr
  ·exact rnd2_6 x hx hr
  ·exact rnd2_7 x hx hr
  ·exact rnd2_8 x
  ·omega
theorem law2C(x:OMsg)(hl:lenOk x)(hr:rgMsg x):Is (gNothing (real Tryz.prog) MLgr (L2 x) (x.a0:Int) (x.a1:Int) x.a2 x.a3 x.a4 x.a5 x.a6 (x.a7:Int) (x.a8:Int) x.a9 (rowsOf cNat x.a10) x.n.id x.n.size x.n.lo x.n.lw x.n.lu x.n.so x.n.sw (rowsOf cArm x.n.arms) x.n.ot x.f.id (x.f.base:Int) x.f.node x.f.off x.f.wid x.t.id (x.t.kind:Int) (rowsOf cInt x.t.keys) x.t.cap x.t.miss x.e.tab x.e.key x.e.oth x.e.len x.e.prio x.e.blk (rowsOf cNat x.e.args) x.e.idle x.e.hard (x.e.cook:Int) x.e.tell x.b.id (rowsOf cInstr x.b.code) x.g.id (x.g.kind:Int) x.g.fld (rowsOf cBucket x.g.bks) x.m.id x.m.rate x.m.burst x.r.id x.r.size (fun v=>v = .bool true)):=by
 refine⟨?_⟩
 rw[gNothing_eq]
 exact⟨x,rfl,hl,rfl,fun hs=>⟨rfl,rfl,rfl,rfl,okMsg_of hs hr,hr,rfl⟩⟩
theorem law2H(x:OMsg)(hl:lenOk x)(hr:rgMsg x)(B:Base)(H:Heap):CallH Tryz.prog 100 B 6 [vMsg x] H (.returned (.bool true)) H:=
 pu_mkV okp (kn_pu (pu_two puLg puAwk)) (lp_ok (fun y hy=>by simp only[List.mem_singleton]at hy;subst hy;exact lp2L x)) rfl (law2C x hl hr) B H
end
end Go.Proofs.YtblbaohcelldpaaGreat.Ob
