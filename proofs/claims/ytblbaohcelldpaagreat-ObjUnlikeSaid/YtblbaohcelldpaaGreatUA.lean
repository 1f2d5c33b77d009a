/- The examples, run. -/
import Derived.Test.YtblbaohcelldpaaGreatU9
import Derived.Test.YtblbaohcelldpaaGreatS5
set_option linter.all false
namespace Go.Proofs.YtblbaohcelldpaaGreat.Ob
open Go Go.Abs Go.Tlv
noncomputable section
def WC0:How:=⟨fun _=>none,fun _=>false,fun _=>none,fun _ _=>none,fun _=>none,fun _ _=>true⟩
def gAw(N:Nd)(K:Value->Prop):Prop:=wpe Tryz.prog N WC0 10000 (.call 9 [] h0) (retV K)
set_option maxRecDepth 100000
theorem gAw_eq(N:Nd)(K:Value->Prop):gAw N K=(((qq1 1 (bytesOf [(5:UInt8)]))=(qq1 1 (bytesOf [(5:UInt8)])))/\(((qq1 1 (bytesOf [(5:UInt8)]))=(qq1 1 (bytesOf [(5:UInt8)])))/\(((qq1 1 (bytesOf [(5:UInt8)]))=(qq1 1 (bytesOf [(5:UInt8)])))/\(((qq1 1 (bytesOf [(5:UInt8)]))=(qq1 1 (bytesOf [(5:UInt8)])))/\(((qq1 1 (bytesOf [(5:UInt8)]))=(qq1 1 (bytesOf [(5:UInt8)])))/\(((qq1 1 (bytesOf [(5:UInt8)]))=(qq1 1 (bytesOf [(5:UInt8)])))/\(((qq1 2 (bytesOf [(1:UInt8),(44:UInt8)]))=(qq1 2 (bytesOf [(1:UInt8),(44:UInt8)])))/\(((qq1 2 (bytesOf [(1:UInt8),(44:UInt8)]))=(qq1 2 (bytesOf [(1:UInt8),(44:UInt8)])))/\(((qq1 2 (bytesOf [(1:UInt8),(44:UInt8)]))=(qq1 2 (bytesOf [(1:UInt8),(44:UInt8)])))/\(((qq1 2 (bytesOf [(1:UInt8),(44:UInt8)]))=(qq1 2 (bytesOf [(1:UInt8),(44:UInt8)])))/\(((qq1 2 (bytesOf [(1:UInt8),(44:UInt8)]))=(qq1 2 (bytesOf [(1:UInt8),(44:UInt8)])))/\(((qq1 2 (bytesOf [(1:UInt8),(44:UInt8)]))=(qq1 2 (bytesOf [(1:UInt8),(44:UInt8)])))/\(((qq1 1 (bytesOf [(22:UInt8)]))=(qq1 1 (bytesOf [(22:UInt8)])))/\(((qq1 1 (bytesOf [(22:UInt8)]))=(qq1 1 (bytesOf [(22:UInt8)])))/\(((qq1 1 (bytesOf [(22:UInt8)]))=(qq1 1 (bytesOf [(22:UInt8)])))/\(((qq1 1 (bytesOf [(22:UInt8)]))=(qq1 1 (bytesOf [(22:UInt8)])))/\(((qq1 1 (bytesOf [(22:UInt8)]))=(qq1 1 (bytesOf [(22:UInt8)])))/\(((qq1 1 (bytesOf [(22:UInt8)]))=(qq1 1 (bytesOf [(22:UInt8)])))/\(((qq1 1 (bytesOf [(1:UInt8)]))=(qq1 1 (bytesOf [(1:UInt8)])))/\(((qq1 1 (bytesOf [(1:UInt8)]))=(qq1 1 (bytesOf [(1:UInt8)])))/\(((qq1 1 (bytesOf [(1:UInt8)]))=(qq1 1 (bytesOf [(1:UInt8)])))/\(((qq1 1 (bytesOf [(1:UInt8)]))=(qq1 1 (bytesOf [(1:UInt8)])))/\(((qq1 1 (bytesOf [(1:UInt8)]))=(qq1 1 (bytesOf [(1:UInt8)])))/\(((qq1 1 (bytesOf [(1:UInt8)]))=(qq1 1 (bytesOf [(1:UInt8)])))/\(((qq1 2 (bytesOf [(0:UInt8),(4:UInt8),(1:UInt8),(0:UInt8),(1:UInt8),(22:UInt8)]))=(qq1 2 (bytesOf [(0:UInt8),(4:UInt8),(1:UInt8),(0:UInt8),(1:UInt8),(22:UInt8)])))/\(((qq1 2 (bytesOf [(0:UInt8),(4:UInt8),(1:UInt8),(0:UInt8),(1:UInt8),(22:UInt8)]))=(qq1 2 (bytesOf [(0:UInt8),(4:UInt8),(1:UInt8),(0:UInt8),(1:UInt8),(22:UInt8)])))/\(((qq1 2 (bytesOf [(0:UInt8),(4:UInt8),(1:UInt8),(0:UInt8),(1:UInt8),(22:UInt8)]))=(qq1 2 (bytesOf [(0:UInt8),(4:UInt8),(1:UInt8),(0:UInt8),(1:UInt8),(22:UInt8)])))/\(((qq1 2 (bytesOf [(0:UInt8),(4:UInt8),(1:UInt8),(0:UInt8),(1:UInt8),(22:UInt8)]))=(qq1 2 (bytesOf [(0:UInt8),(4:UInt8),(1:UInt8),(0:UInt8),(1:UInt8),(22:UInt8)])))/\(((qq1 2 (bytesOf [(0:UInt8),(4:UInt8),(1:UInt8),(0:UInt8),(1:UInt8),(22:UInt8)]))=(qq1 2 (bytesOf [(0:UInt8),(4:UInt8),(1:UInt8),(0:UInt8),(1:UInt8),(22:UInt8)])))/\(((qq1 2 (bytesOf [(0:UInt8),(4:UInt8),(1:UInt8),(0:UInt8),(1:UInt8),(22:UInt8)]))=(qq1 2 (bytesOf [(0:UInt8),(4:UInt8),(1:UInt8),(0:UInt8),(1:UInt8),(22:UInt8)])))/\(K (.bool true)))))))))))))))))))))))))))))))):=by kernel_rfl
theorem awC:Is (gAw (real Tryz.prog) (fun v=>v = .bool true)):=by
 refine⟨?_⟩
 rw[gAw_eq]
 repeat first|exact rfl|refine And.intro rfl ?_
theorem awakeH(B:Base)(H:Heap):CallH Tryz.prog 100 B 9 [] H (.returned (.bool true)) H:=
 pu_mkV okp (W:=WC0) ⟨fun f S h=>(by cases h),fun f S h=>(by cases h)⟩ (fun k n0 live S h=>(by cases h)) rfl awC B H
end
end Go.Proofs.YtblbaohcelldpaaGreat.Ob
namespace Go.Tlv
open Go Go.Abs
theorem okI_iff{n:Int}:okI n=true↔gdI 2147483647 n:=by unfold okI gdI;simp
theorem any_iff{α:Type}{l:List α}{p:α->Bool}:(!l.any p)=true↔∀y∈l,¬p y=true:=by
 rw[Bool.not_eq_true',List.any_eq_false]
theorem len_iff{n m:Nat}:decide ((n:Int)<=(m:Int))=true↔n<=m:=by simp
theorem pArm_iff{y:Arm}:¬pArm y=true↔gdI 2147483647 y.nx:=by unfold pArm;rw[Bool.not_eq_true',←okI_iff];simp
theorem pBucket_iff{y:Bucket}:¬pBucket y=true↔gdI 2147483647 y.b:=by unfold pBucket;rw[Bool.not_eq_true',←okI_iff];simp
theorem pInstr_iff{y:Instr}:¬pInstr y=true↔gdI 2147483647 y.to/\gdI 2147483647 y.n:=by unfold pInstr;rw[Bool.not_eq_true',←okI_iff,←okI_iff];simp
def rgArm(y:Arm):Prop:=y.v<4294967296
def rgInstr(y:Instr):Prop:=y.op<256/\y.ak<256/\y.an<18446744073709551616/\y.bk<256/\y.bn<18446744073709551616
def rgBucket(y:Bucket):Prop:=y.w<18446744073709551616
def rgNode(x:ONode):Prop:=∀y∈x.arms,rgArm y
def rgField(x:OField):Prop:=x.base<256
def rgTable(x:OTable):Prop:=x.kind<256
def rgEntry(x:OEntry):Prop:=(∀y∈x.args,y<18446744073709551616)/\x.cook<18446744073709551616/\x.idle<=9223372036854775807/\x.hard<=9223372036854775807
def rgBlock(x:OBlock):Prop:=∀y∈x.code,rgInstr y
def rgGroup(x:OGroup):Prop:=x.kind<256/\∀y∈x.bks,rgBucket y
def rgMeter(x:OMeter):Prop:=x.rate<=9223372036854775807/\x.burst<=9223372036854775807
def rgRegs(_x:ORegs):Prop:=True
theorem goodArm_of{y:Arm}(h:gdI 2147483647 y.nx)(hr:rgArm y):goodArm y:=⟨by unfold rgArm at hr;unfold gdN;omega,h⟩
theorem goodInstr_of{y:Instr}(h:gdI 2147483647 y.to/\gdI 2147483647 y.n)(hr:rgInstr y):goodInstr y:=by
 obtain⟨h1,h2,h3,h4,h5⟩:=hr
 exact⟨by unfold gdN;omega,h.1,by unfold gdN;omega,by unfold gdN;omega,by unfold gdN;omega,by unfold gdN;omega,h.2⟩
theorem goodBucket_of{y:Bucket}(h:gdI 2147483647 y.b)(hr:rgBucket y):goodBucket y:=⟨by unfold rgBucket at hr;unfold gdN;omega,h⟩
theorem mayNode_iff{x:ONode}:mayNode x=true↔(gdI 2147483647 x.id/\gdI 2147483647 x.size/\gdI 2147483647 x.lo/\gdI 2147483647 x.lw/\gdI 2147483647 x.lu/\gdI 2147483647 x.so/\gdI 2147483647 x.sw/\gdI 2147483647 x.ot)/\x.arms.length<=32/\∀y∈x.arms,gdI 2147483647 y.nx:=by
 unfold mayNode
 simp only[List.all_cons,List.all_nil,Bool.and_true,Bool.and_eq_true,okI_iff,any_iff,pArm_iff]
 rw[show(decide ((x.arms.length:Int)<=32)=true↔x.arms.length<=32)from len_iff (m:=32)]
theorem goodNode_of{x:ONode}(hm:mayNode x=true)(hr:rgNode x):goodNode x:=by
 obtain⟨⟨h_id,h_size,h_lo,h_lw,h_lu,h_so,h_sw,h_ot⟩,hl,ha⟩:=mayNode_iff.1 hm
 exact⟨h_id,h_size,h_lo,h_lw,h_lu,h_so,h_sw,h_ot,⟨hl,fun y hy=>goodArm_of (ha y hy) (hr y hy)⟩⟩
theorem goodNode_may{x:ONode}(h:goodNode x):mayNode x=true:=mayNode_iff.2 ⟨⟨h.id,h.size,h.lo,h.lw,h.lu,h.so,h.sw,h.ot⟩,h.arms.1,fun y hy=>(h.arms.2 y hy).nx⟩
theorem goodNode_ok{x:ONode}(h:goodNode x):okNode x:=⟨by unfold fitNode;have:=h.arms.1;omega,trivial,by have:=h.arms.1;omega⟩
theorem nothingNode{x:ONode}(h:goodNode x):encS (attsNode x)=[]↔x=zNode:=by rw[attsNode_eq];exact schNode.nothing h
theorem unlikeNode{x y:ONode}(hx:goodNode x)(hy:goodNode y):encS (attsNode x)=encS (attsNode y)↔x=y:=by rw[attsNode_eq,attsNode_eq];exact schNode.unlike hx hy
theorem moreNode{x:ONode}(h:goodNode x){t:Nat}{v:List UInt8}(ht:12<=t)(ht2:t<256)(hv:v.length<=65535):rdE stepNode zNode (encS (attsNode x)++(UInt8.ofNat t::(two v.length++v)))=(3,zNode):=by
 rw[attsNode_eq];exact schNode.more h (by omega) ht2 hv
theorem boundNode{x:ONode}(h:goodNode x):(encS (attsNode x)).length<=1000000:=by
 rw[attsNode_eq]
 have h1:=encS_len (l:=atFrom (putNode x) 9 0) (n:=65535) (atFrom_v (fun j=>schNode.len x j h) _ _)
 have h2:=atFrom_len (f:=putNode x) 9 0
 have h3:(atFrom (putNode x) 9 0).length*(65535+3)<=11*(65535+3):=Nat.mul_le_mul_right _ (by omega)
 omega
theorem rdnilNode:rdE stepNode zNode []=(0,zNode):=Sch.rd_nil
theorem mayField_iff{x:OField}:mayField x=true↔(gdI 2147483647 x.id/\gdI 2147483647 x.node/\gdI 2147483647 x.off/\gdI 2147483647 x.wid):=by
 unfold mayField
 simp only[List.all_cons,List.all_nil,Bool.and_true,Bool.and_eq_true,okI_iff]
theorem goodField_of{x:OField}(hm:mayField x=true)(hr:rgField x):goodField x:=by
 obtain⟨h_id,h_node,h_off,h_wid⟩:=mayField_iff.1 hm
 exact⟨h_id,(by unfold rgField at hr;unfold gdN;omega),h_node,h_off,h_wid⟩
theorem goodField_may{x:OField}(h:goodField x):mayField x=true:=mayField_iff.2 ⟨h.id,h.node,h.off,h.wid⟩
theorem goodField_ok{x:OField}(h:goodField x):okField x:=⟨trivial,trivial,trivial⟩
theorem nothingField{x:OField}(h:goodField x):encS (attsField x)=[]↔x=zField:=by rw[attsField_eq];exact schField.nothing h
theorem unlikeField{x y:OField}(hx:goodField x)(hy:goodField y):encS (attsField x)=encS (attsField y)↔x=y:=by rw[attsField_eq,attsField_eq];exact schField.unlike hx hy
theorem moreField{x:OField}(h:goodField x){t:Nat}{v:List UInt8}(ht:12<=t)(ht2:t<256)(hv:v.length<=65535):rdE stepField zField (encS (attsField x)++(UInt8.ofNat t::(two v.length++v)))=(3,zField):=by
 rw[attsField_eq];exact schField.more h (by omega) ht2 hv
theorem boundField{x:OField}(h:goodField x):(encS (attsField x)).length<=1000000:=by
 rw[attsField_eq]
 have h1:=encS_len (l:=atFrom (putField x) 5 0) (n:=65535) (atFrom_v (fun j=>schField.len x j h) _ _)
 have h2:=atFrom_len (f:=putField x) 5 0
 have h3:(atFrom (putField x) 5 0).length*(65535+3)<=11*(65535+3):=Nat.mul_le_mul_right _ (by omega)
 omega
theorem rdnilField:rdE stepField zField []=(0,zField):=Sch.rd_nil
theorem mayTable_iff{x:OTable}:mayTable x=true↔(gdI 2147483647 x.id/\gdI 2147483647 x.cap/\gdI 2147483647 x.miss)/\x.keys.length<=4/\∀y∈x.keys,gdI 2147483647 y:=by
 unfold mayTable
 simp only[List.all_cons,List.all_nil,Bool.and_true,Bool.and_eq_true,okI_iff,List.all_eq_true]
 rw[show(decide ((x.keys.length:Int)<=4)=true↔x.keys.length<=4)from len_iff (m:=4)]
theorem goodTable_of{x:OTable}(hm:mayTable x=true)(hr:rgTable x):goodTable x:=by
 obtain⟨⟨h_id,h_cap,h_miss⟩,hl,ha⟩:=mayTable_iff.1 hm
 exact⟨h_id,(by unfold rgTable at hr;unfold gdN;omega),⟨hl,ha⟩,h_cap,h_miss⟩
theorem goodTable_may{x:OTable}(h:goodTable x):mayTable x=true:=mayTable_iff.2 ⟨⟨h.id,h.cap,h.miss⟩,h.keys.1,fun y hy=>h.keys.2 y hy⟩
theorem goodTable_ok{x:OTable}(h:goodTable x):okTable x:=⟨by unfold fitTable;have:=h.keys.1;omega,trivial,by have:=h.keys.1;omega⟩
theorem nothingTable{x:OTable}(h:goodTable x):encS (attsTable x)=[]↔x=zTable:=by rw[attsTable_eq];exact schTable.nothing h
theorem unlikeTable{x y:OTable}(hx:goodTable x)(hy:goodTable y):encS (attsTable x)=encS (attsTable y)↔x=y:=by rw[attsTable_eq,attsTable_eq];exact schTable.unlike hx hy
theorem moreTable{x:OTable}(h:goodTable x){t:Nat}{v:List UInt8}(ht:12<=t)(ht2:t<256)(hv:v.length<=65535):rdE stepTable zTable (encS (attsTable x)++(UInt8.ofNat t::(two v.length++v)))=(3,zTable):=by
 rw[attsTable_eq];exact schTable.more h (by omega) ht2 hv
theorem boundTable{x:OTable}(h:goodTable x):(encS (attsTable x)).length<=1000000:=by
 rw[attsTable_eq]
 have h1:=encS_len (l:=atFrom (putTable x) 5 0) (n:=65535) (atFrom_v (fun j=>schTable.len x j h) _ _)
 have h2:=atFrom_len (f:=putTable x) 5 0
 have h3:(atFrom (putTable x) 5 0).length*(65535+3)<=11*(65535+3):=Nat.mul_le_mul_right _ (by omega)
 omega
theorem rdnilTable:rdE stepTable zTable []=(0,zTable):=Sch.rd_nil
theorem mayEntry_iff{x:OEntry}:mayEntry x=true↔(gdI 2147483647 x.tab/\gdI 2147483647 x.len/\gdI 2147483647 x.prio/\gdI 2147483647 x.blk)/\0<=x.idle/\0<=x.hard/\x.key.data.toList.length<=32/\x.oth.data.toList.length<=32/\x.args.length<=4:=by
 unfold mayEntry
 simp only[List.all_cons,List.all_nil,Bool.and_true,Bool.and_eq_true,okI_iff,decide_eq_true_eq]
 constructor
 ·rintro ⟨h,a,b,c,d,e⟩
  exact⟨h,a,b,by omega,by omega,by omega⟩
 ·rintro ⟨h,a,b,c,d,e⟩
  exact⟨h,a,b,by omega,by omega,by omega⟩
theorem goodEntry_of{x:OEntry}(hm:mayEntry x=true)(hr:rgEntry x):goodEntry x:=by
 obtain⟨⟨h_tab,h_len,h_prio,h_blk⟩,hi,hh,hk,ho,hl⟩:=mayEntry_iff.1 hm
 exact⟨h_tab,hk,ho,h_len,h_prio,h_blk,⟨hl,fun y hy=>(by have:=hr.1 y hy;unfold goodNat gdN;omega)⟩,⟨hi,hr.2.2.1⟩,⟨hh,hr.2.2.2⟩,(by have:=hr.2.1;unfold gdN;omega),trivial⟩
theorem goodEntry_may{x:OEntry}(h:goodEntry x):mayEntry x=true:=mayEntry_iff.2 ⟨⟨h.tab,h.len,h.prio,h.blk⟩,h.idle.1,h.hard.1,h.key,h.oth,h.args.1⟩
theorem goodEntry_ok{x:OEntry}(h:goodEntry x):okEntry x:=⟨by unfold fitEntry;have:=h.args.1;omega,⟨fun y hy=>(by have:=h.args.2 y hy;unfold goodNat gdN at this;unfold wfNat;omega),(by have:=h.cook;unfold gdN at this;omega)⟩,by have:=h.args.1;omega⟩
theorem nothingEntry{x:OEntry}(h:goodEntry x):encS (attsEntry x)=[]↔x=zEntry:=by rw[attsEntry_eq];exact schEntry.nothing h
theorem unlikeEntry{x y:OEntry}(hx:goodEntry x)(hy:goodEntry y):encS (attsEntry x)=encS (attsEntry y)↔x=y:=by rw[attsEntry_eq,attsEntry_eq];exact schEntry.unlike hx hy
theorem moreEntry{x:OEntry}(h:goodEntry x){t:Nat}{v:List UInt8}(ht:12<=t)(ht2:t<256)(hv:v.length<=65535):rdE stepEntry zEntry (encS (attsEntry x)++(UInt8.ofNat t::(two v.length++v)))=(3,zEntry):=by
 rw[attsEntry_eq];exact schEntry.more h (by omega) ht2 hv
theorem boundEntry{x:OEntry}(h:goodEntry x):(encS (attsEntry x)).length<=1000000:=by
 rw[attsEntry_eq]
 have h1:=encS_len (l:=atFrom (putEntry x) 11 0) (n:=65535) (atFrom_v (fun j=>schEntry.len x j h) _ _)
 have h2:=atFrom_len (f:=putEntry x) 11 0
 have h3:(atFrom (putEntry x) 11 0).length*(65535+3)<=11*(65535+3):=Nat.mul_le_mul_right _ (by omega)
 omega
theorem rdnilEntry:rdE stepEntry zEntry []=(0,zEntry):=Sch.rd_nil
theorem mayBlock_iff{x:OBlock}:mayBlock x=true↔(gdI 2147483647 x.id)/\x.code.length<=32/\∀y∈x.code,gdI 2147483647 y.to/\gdI 2147483647 y.n:=by
 unfold mayBlock
 simp only[List.all_cons,List.all_nil,Bool.and_true,Bool.and_eq_true,okI_iff,any_iff,pInstr_iff]
 rw[show(decide ((x.code.length:Int)<=32)=true↔x.code.length<=32)from len_iff (m:=32)]
theorem goodBlock_of{x:OBlock}(hm:mayBlock x=true)(hr:rgBlock x):goodBlock x:=by
 obtain⟨h_id,hl,ha⟩:=mayBlock_iff.1 hm
 exact⟨h_id,⟨hl,fun y hy=>goodInstr_of (ha y hy) (hr y hy)⟩⟩
theorem goodBlock_may{x:OBlock}(h:goodBlock x):mayBlock x=true:=mayBlock_iff.2 ⟨h.id,h.code.1,fun y hy=>⟨(h.code.2 y hy).to,(h.code.2 y hy).n⟩⟩
theorem goodBlock_ok{x:OBlock}(h:goodBlock x):okBlock x:=⟨by unfold fitBlock;have:=h.code.1;omega,fun y hy=>(by have h1:=(h.code.2 y hy).an;have h2:=(h.code.2 y hy).bn;unfold gdN at h1 h2;exact⟨by omega,by omega⟩),by have:=h.code.1;omega⟩
theorem nothingBlock{x:OBlock}(h:goodBlock x):encS (attsBlock x)=[]↔x=zBlock:=by rw[attsBlock_eq];exact schBlock.nothing h
theorem unlikeBlock{x y:OBlock}(hx:goodBlock x)(hy:goodBlock y):encS (attsBlock x)=encS (attsBlock y)↔x=y:=by rw[attsBlock_eq,attsBlock_eq];exact schBlock.unlike hx hy
theorem moreBlock{x:OBlock}(h:goodBlock x){t:Nat}{v:List UInt8}(ht:12<=t)(ht2:t<256)(hv:v.length<=65535):rdE stepBlock zBlock (encS (attsBlock x)++(UInt8.ofNat t::(two v.length++v)))=(3,zBlock):=by
 rw[attsBlock_eq];exact schBlock.more h (by omega) ht2 hv
theorem boundBlock{x:OBlock}(h:goodBlock x):(encS (attsBlock x)).length<=1000000:=by
 rw[attsBlock_eq]
 have h1:=encS_len (l:=atFrom (putBlock x) 2 0) (n:=65535) (atFrom_v (fun j=>schBlock.len x j h) _ _)
 have h2:=atFrom_len (f:=putBlock x) 2 0
 have h3:(atFrom (putBlock x) 2 0).length*(65535+3)<=11*(65535+3):=Nat.mul_le_mul_right _ (by omega)
 omega
theorem rdnilBlock:rdE stepBlock zBlock []=(0,zBlock):=Sch.rd_nil
theorem mayGroup_iff{x:OGroup}:mayGroup x=true↔(gdI 2147483647 x.id/\gdI 2147483647 x.fld)/\x.bks.length<=16/\∀y∈x.bks,gdI 2147483647 y.b:=by
 unfold mayGroup
 simp only[List.all_cons,List.all_nil,Bool.and_true,Bool.and_eq_true,okI_iff,any_iff,pBucket_iff]
 rw[show(decide ((x.bks.length:Int)<=16)=true↔x.bks.length<=16)from len_iff (m:=16)]
theorem goodGroup_of{x:OGroup}(hm:mayGroup x=true)(hr:rgGroup x):goodGroup x:=by
 obtain⟨⟨h_id,h_fld⟩,hl,ha⟩:=mayGroup_iff.1 hm
 exact⟨h_id,(by have:=hr.1;unfold gdN;omega),h_fld,⟨hl,fun y hy=>goodBucket_of (ha y hy) (hr.2 y hy)⟩⟩
theorem goodGroup_may{x:OGroup}(h:goodGroup x):mayGroup x=true:=mayGroup_iff.2 ⟨⟨h.id,h.fld⟩,h.bks.1,fun y hy=>(h.bks.2 y hy).b⟩
theorem goodGroup_ok{x:OGroup}(h:goodGroup x):okGroup x:=⟨by unfold fitGroup;have:=h.bks.1;omega,fun y hy=>(by have h1:=(h.bks.2 y hy).w;unfold gdN at h1;unfold wfBucket;omega),by have:=h.bks.1;omega⟩
theorem nothingGroup{x:OGroup}(h:goodGroup x):encS (attsGroup x)=[]↔x=zGroup:=by rw[attsGroup_eq];exact schGroup.nothing h
theorem unlikeGroup{x y:OGroup}(hx:goodGroup x)(hy:goodGroup y):encS (attsGroup x)=encS (attsGroup y)↔x=y:=by rw[attsGroup_eq,attsGroup_eq];exact schGroup.unlike hx hy
theorem moreGroup{x:OGroup}(h:goodGroup x){t:Nat}{v:List UInt8}(ht:12<=t)(ht2:t<256)(hv:v.length<=65535):rdE stepGroup zGroup (encS (attsGroup x)++(UInt8.ofNat t::(two v.length++v)))=(3,zGroup):=by
 rw[attsGroup_eq];exact schGroup.more h (by omega) ht2 hv
theorem boundGroup{x:OGroup}(h:goodGroup x):(encS (attsGroup x)).length<=1000000:=by
 rw[attsGroup_eq]
 have h1:=encS_len (l:=atFrom (putGroup x) 4 0) (n:=65535) (atFrom_v (fun j=>schGroup.len x j h) _ _)
 have h2:=atFrom_len (f:=putGroup x) 4 0
 have h3:(atFrom (putGroup x) 4 0).length*(65535+3)<=11*(65535+3):=Nat.mul_le_mul_right _ (by omega)
 omega
theorem rdnilGroup:rdE stepGroup zGroup []=(0,zGroup):=Sch.rd_nil
theorem mayMeter_iff{x:OMeter}:mayMeter x=true↔(gdI 2147483647 x.id)/\0<=x.rate/\0<=x.burst:=by
 unfold mayMeter
 simp only[List.all_cons,List.all_nil,Bool.and_true,Bool.and_eq_true,okI_iff,decide_eq_true_eq]
theorem goodMeter_of{x:OMeter}(hm:mayMeter x=true)(hr:rgMeter x):goodMeter x:=by
 obtain⟨h_id,hra,hbu⟩:=mayMeter_iff.1 hm
 exact⟨h_id,⟨hra,hr.1⟩,⟨hbu,hr.2⟩⟩
theorem goodMeter_may{x:OMeter}(h:goodMeter x):mayMeter x=true:=mayMeter_iff.2 ⟨h.id,h.rate.1,h.burst.1⟩
theorem goodMeter_ok{x:OMeter}(h:goodMeter x):okMeter x:=⟨trivial,trivial,trivial⟩
theorem nothingMeter{x:OMeter}(h:goodMeter x):encS (attsMeter x)=[]↔x=zMeter:=by rw[attsMeter_eq];exact schMeter.nothing h
theorem unlikeMeter{x y:OMeter}(hx:goodMeter x)(hy:goodMeter y):encS (attsMeter x)=encS (attsMeter y)↔x=y:=by rw[attsMeter_eq,attsMeter_eq];exact schMeter.unlike hx hy
theorem moreMeter{x:OMeter}(h:goodMeter x){t:Nat}{v:List UInt8}(ht:12<=t)(ht2:t<256)(hv:v.length<=65535):rdE stepMeter zMeter (encS (attsMeter x)++(UInt8.ofNat t::(two v.length++v)))=(3,zMeter):=by
 rw[attsMeter_eq];exact schMeter.more h (by omega) ht2 hv
theorem boundMeter{x:OMeter}(h:goodMeter x):(encS (attsMeter x)).length<=1000000:=by
 rw[attsMeter_eq]
 have h1:=encS_len (l:=atFrom (putMeter x) 3 0) (n:=65535) (atFrom_v (fun j=>schMeter.len x j h) _ _)
 have h2:=atFrom_len (f:=putMeter x) 3 0
 have h3:(atFrom (putMeter x) 3 0).length*(65535+3)<=11*(65535+3):=Nat.mul_le_mul_right _ (by omega)
 omega
theorem rdnilMeter:rdE stepMeter zMeter []=(0,zMeter):=Sch.rd_nil
theorem mayRegs_iff{x:ORegs}:mayRegs x=true↔(gdI 2147483647 x.id/\gdI 2147483647 x.size):=by
 unfold mayRegs
 simp only[List.all_cons,List.all_nil,Bool.and_true,Bool.and_eq_true,okI_iff]
theorem goodRegs_of{x:ORegs}(hm:mayRegs x=true)(hr:rgRegs x):goodRegs x:=by
 obtain⟨h_id,h_size⟩:=mayRegs_iff.1 hm
 exact⟨h_id,h_size⟩
theorem goodRegs_may{x:ORegs}(h:goodRegs x):mayRegs x=true:=mayRegs_iff.2 ⟨h.id,h.size⟩
theorem goodRegs_ok{x:ORegs}(h:goodRegs x):okRegs x:=⟨trivial,trivial,trivial⟩
theorem nothingRegs{x:ORegs}(h:goodRegs x):encS (attsRegs x)=[]↔x=zRegs:=by rw[attsRegs_eq];exact schRegs.nothing h
theorem unlikeRegs{x y:ORegs}(hx:goodRegs x)(hy:goodRegs y):encS (attsRegs x)=encS (attsRegs y)↔x=y:=by rw[attsRegs_eq,attsRegs_eq];exact schRegs.unlike hx hy
theorem moreRegs{x:ORegs}(h:goodRegs x){t:Nat}{v:List UInt8}(ht:12<=t)(ht2:t<256)(hv:v.length<=65535):rdE stepRegs zRegs (encS (attsRegs x)++(UInt8.ofNat t::(two v.length++v)))=(3,zRegs):=by
 rw[attsRegs_eq];exact schRegs.more h (by omega) ht2 hv
theorem boundRegs{x:ORegs}(h:goodRegs x):(encS (attsRegs x)).length<=1000000:=by
 rw[attsRegs_eq]
 have h1:=encS_len (l:=atFrom (putRegs x) 2 0) (n:=65535) (atFrom_v (fun j=>schRegs.len x j h) _ _)
 have h2:=atFrom_len (f:=putRegs x) 2 0
 have h3:(atFrom (putRegs x) 2 0).length*(65535+3)<=11*(65535+3):=Nat.mul_le_mul_right _ (by omega)
 omega
theorem rdnilRegs:rdE stepRegs zRegs []=(0,zRegs):=Sch.rd_nil
def zMsg:OMsg:=⟨0,0,0,0,0,0,0,0,0,bytesOf [],[],zNode,zField,zTable,zEntry,zBlock,zGroup,zMeter,zRegs⟩
def sameM(x y:OMsg):Prop:=x.n=y.n/\x.f=y.f/\x.t=y.t/\x.e=y.e/\x.b=y.b/\x.g=y.g/\x.m=y.m/\x.r=y.r
def lenOk(x:OMsg):Prop:=x.n.arms.length<=140737488355328/\x.t.keys.length<=140737488355328/\x.e.args.length<=140737488355328/\x.b.code.length<=140737488355328/\x.g.bks.length<=140737488355328
def smallM(x:OMsg):Prop:=x.n.arms.length<=400/\x.t.keys.length<=400/\x.e.args.length<=400/\x.b.code.length<=400/\x.g.bks.length<=400
def rgMsg(x:OMsg):Prop:=rgNode x.n/\rgField x.f/\rgTable x.t/\rgEntry x.e/\rgBlock x.b/\rgGroup x.g/\rgMeter x.m/\rgRegs x.r
theorem sameM_refl(x:OMsg):sameM x x:=⟨rfl,rfl,rfl,rfl,rfl,rfl,rfl,rfl⟩
theorem okZ:okMsg zMsg:=⟨goodNode_ok schNode.z,goodField_ok schField.z,goodTable_ok schTable.z,goodEntry_ok schEntry.z,goodBlock_ok schBlock.z,goodGroup_ok schGroup.z,goodMeter_ok schMeter.z,goodRegs_ok schRegs.z⟩
def mkNode(y:ONode):OMsg:={zMsg with n:=y}
theorem ok_mkNode{y:ONode}(h:goodNode y):okMsg (mkNode y):=⟨goodNode_ok h,goodField_ok schField.z,goodTable_ok schTable.z,goodEntry_ok schEntry.z,goodBlock_ok schBlock.z,goodGroup_ok schGroup.z,goodMeter_ok schMeter.z,goodRegs_ok schRegs.z⟩
def mkField(y:OField):OMsg:={zMsg with f:=y}
theorem ok_mkField{y:OField}(h:goodField y):okMsg (mkField y):=⟨goodNode_ok schNode.z,goodField_ok h,goodTable_ok schTable.z,goodEntry_ok schEntry.z,goodBlock_ok schBlock.z,goodGroup_ok schGroup.z,goodMeter_ok schMeter.z,goodRegs_ok schRegs.z⟩
def mkTable(y:OTable):OMsg:={zMsg with t:=y}
theorem ok_mkTable{y:OTable}(h:goodTable y):okMsg (mkTable y):=⟨goodNode_ok schNode.z,goodField_ok schField.z,goodTable_ok h,goodEntry_ok schEntry.z,goodBlock_ok schBlock.z,goodGroup_ok schGroup.z,goodMeter_ok schMeter.z,goodRegs_ok schRegs.z⟩
def mkEntry(y:OEntry):OMsg:={zMsg with e:=y}
theorem ok_mkEntry{y:OEntry}(h:goodEntry y):okMsg (mkEntry y):=⟨goodNode_ok schNode.z,goodField_ok schField.z,goodTable_ok schTable.z,goodEntry_ok h,goodBlock_ok schBlock.z,goodGroup_ok schGroup.z,goodMeter_ok schMeter.z,goodRegs_ok schRegs.z⟩
def mkBlock(y:OBlock):OMsg:={zMsg with b:=y}
theorem ok_mkBlock{y:OBlock}(h:goodBlock y):okMsg (mkBlock y):=⟨goodNode_ok schNode.z,goodField_ok schField.z,goodTable_ok schTable.z,goodEntry_ok schEntry.z,goodBlock_ok h,goodGroup_ok schGroup.z,goodMeter_ok schMeter.z,goodRegs_ok schRegs.z⟩
def mkGroup(y:OGroup):OMsg:={zMsg with g:=y}
theorem ok_mkGroup{y:OGroup}(h:goodGroup y):okMsg (mkGroup y):=⟨goodNode_ok schNode.z,goodField_ok schField.z,goodTable_ok schTable.z,goodEntry_ok schEntry.z,goodBlock_ok schBlock.z,goodGroup_ok h,goodMeter_ok schMeter.z,goodRegs_ok schRegs.z⟩
def mkMeter(y:OMeter):OMsg:={zMsg with m:=y}
theorem ok_mkMeter{y:OMeter}(h:goodMeter y):okMsg (mkMeter y):=⟨goodNode_ok schNode.z,goodField_ok schField.z,goodTable_ok schTable.z,goodEntry_ok schEntry.z,goodBlock_ok schBlock.z,goodGroup_ok schGroup.z,goodMeter_ok h,goodRegs_ok schRegs.z⟩
def mkRegs(y:ORegs):OMsg:={zMsg with r:=y}
theorem ok_mkRegs{y:ORegs}(h:goodRegs y):okMsg (mkRegs y):=⟨goodNode_ok schNode.z,goodField_ok schField.z,goodTable_ok schTable.z,goodEntry_ok schEntry.z,goodBlock_ok schBlock.z,goodGroup_ok schGroup.z,goodMeter_ok schMeter.z,goodRegs_ok h⟩
theorem okMsg_of{x:OMsg}(h:smallM x)(hr:rgMsg x):okMsg x:=by
 obtain⟨h1,h2,h3,h4,h5⟩:=h
 obtain⟨r1,r2,r3,r4,r5,r6,r7,r8⟩:=hr
 exact⟨⟨by unfold fitNode;omega,trivial,by omega⟩,⟨trivial,trivial,trivial⟩,⟨by unfold fitTable;omega,trivial,by omega⟩,⟨by unfold fitEntry;omega,⟨r4.1,r4.2.1⟩,by omega⟩,⟨by unfold fitBlock;omega,fun y hy=>⟨(r5 y hy).2.2.1,(r5 y hy).2.2.2.2⟩,by omega⟩,⟨by unfold fitGroup;omega,r6.2,by omega⟩,⟨trivial,trivial,trivial⟩,⟨trivial,trivial,trivial⟩⟩
end Go.Tlv
