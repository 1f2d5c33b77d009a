/- The examples, run. -/
import Derived.Test.YtblbaohcelldpaaGreatU9
import Derived.Test.YtblbaohcelldpaaGreatS5
set_option linter.all false
namespace Go.Proofs.YtblbaohcelldpaaGreat.Ob
open Go Go.Abs Go.Tlv
noncomputable section
def WC0:How:=⟨fun _=>none,fun _=>false,fun _=>none,fun _ _=>none,fun _=>none,fun _ _=>true⟩
def gAw(N:Nd)(K:Value->Prop):Prop:=wpe Tryz.prog N WC0 10000 (.call 9 [] h0) (retV K)
set_option maxRecDepth 100000
theorem gAw_eq(N:Nd)(K:Value->Prop):gAw N K=(((qq2 1 (bytesOf [(5:UInt8)]))=(qq2 1 (bytesOf [(5:UInt8)])))/\(((qq2 1 (bytesOf [(5:UInt8)]))=(qq2 1 (bytesOf [(5:UInt8)])))/\(((qq2 1 (bytesOf [(5:UInt8)]))=(qq2 1 (bytesOf [(5:UInt8)])))/\(((qq2 1 (bytesOf [(5:UInt8)]))=(qq2 1 (bytesOf [(5:UInt8)])))/\(((qq2 1 (bytesOf [(5:UInt8)]))=(qq2 1 (bytesOf [(5:UInt8)])))/\(((qq2 1 (bytesOf [(5:UInt8)]))=(qq2 1 (bytesOf [(5:UInt8)])))/\(((qq2 2 (bytesOf [(1:UInt8),(44:UInt8)]))=(qq2 2 (bytesOf [(1:UInt8),(44:UInt8)])))/\(((qq2 2 (bytesOf [(1:UInt8),(44:UInt8)]))=(qq2 2 (bytesOf [(1:UInt8),(44:UInt8)])))/\(((qq2 2 (bytesOf [(1:UInt8),(44:UInt8)]))=(qq2 2 (bytesOf [(1:UInt8),(44:UInt8)])))/\(((qq2 2 (bytesOf [(1:UInt8),(44:UInt8)]))=(qq2 2 (bytesOf [(1:UInt8),(44:UInt8)])))/\(((qq2 2 (bytesOf [(1:UInt8),(44:UInt8)]))=(qq2 2 (bytesOf [(1:UInt8),(44:UInt8)])))/\(((qq2 2 (bytesOf [(1:UInt8),(44:UInt8)]))=(qq2 2 (bytesOf [(1:UInt8),(44:UInt8)])))/\(((qq2 1 (bytesOf [(22:UInt8)]))=(qq2 1 (bytesOf [(22:UInt8)])))/\(((qq2 1 (bytesOf [(22:UInt8)]))=(qq2 1 (bytesOf [(22:UInt8)])))/\(((qq2 1 (bytesOf [(22:UInt8)]))=(qq2 1 (bytesOf [(22:UInt8)])))/\(((qq2 1 (bytesOf [(22:UInt8)]))=(qq2 1 (bytesOf [(22:UInt8)])))/\(((qq2 1 (bytesOf [(22:UInt8)]))=(qq2 1 (bytesOf [(22:UInt8)])))/\(((qq2 1 (bytesOf [(22:UInt8)]))=(qq2 1 (bytesOf [(22:UInt8)])))/\(((qq2 1 (bytesOf [(1:UInt8)]))=(qq2 1 (bytesOf [(1:UInt8)])))/\(((qq2 1 (bytesOf [(1:UInt8)]))=(qq2 1 (bytesOf [(1:UInt8)])))/\(((qq2 1 (bytesOf [(1:UInt8)]))=(qq2 1 (bytesOf [(1:UInt8)])))/\(((qq2 1 (bytesOf [(1:UInt8)]))=(qq2 1 (bytesOf [(1:UInt8)])))/\(((qq2 1 (bytesOf [(1:UInt8)]))=(qq2 1 (bytesOf [(1:UInt8)])))/\(((qq2 1 (bytesOf [(1:UInt8)]))=(qq2 1 (bytesOf [(1:UInt8)])))/\(((qq2 2 (bytesOf [(0:UInt8),(4:UInt8),(1:UInt8),(0:UInt8),(1:UInt8),(22:UInt8)]))=(qq2 2 (bytesOf [(0:UInt8),(4:UInt8),(1:UInt8),(0:UInt8),(1:UInt8),(22:UInt8)])))/\(((qq2 2 (bytesOf [(0:UInt8),(4:UInt8),(1:UInt8),(0:UInt8),(1:UInt8),(22:UInt8)]))=(qq2 2 (bytesOf [(0:UInt8),(4:UInt8),(1:UInt8),(0:UInt8),(1:UInt8),(22:UInt8)])))/\(((qq2 2 (bytesOf [(0:UInt8),(4:UInt8),(1:UInt8),(0:UInt8),(1:UInt8),(22:UInt8)]))=(qq2 2 (bytesOf [(0:UInt8),(4:UInt8),(1:UInt8),(0:UInt8),(1:UInt8),(22:UInt8)])))/\(((qq2 2 (bytesOf [(0:UInt8),(4:UInt8),(1:UInt8),(0:UInt8),(1:UInt8),(22:UInt8)]))=(qq2 2 (bytesOf [(0:UInt8),(4:UInt8),(1:UInt8),(0:UInt8),(1:UInt8),(22:UInt8)])))/\(((qq2 2 (bytesOf [(0:UInt8),(4:UInt8),(1:UInt8),(0:UInt8),(1:UInt8),(22:UInt8)]))=(qq2 2 (bytesOf [(0:UInt8),(4:UInt8),(1:UInt8),(0:UInt8),(1:UInt8),(22:UInt8)])))/\(((qq2 2 (bytesOf [(0:UInt8),(4:UInt8),(1:UInt8),(0:UInt8),(1:UInt8),(22:UInt8)]))=(qq2 2 (bytesOf [(0:UInt8),(4:UInt8),(1:UInt8),(0:UInt8),(1:UInt8),(22:UInt8)])))/\(K (.bool true)))))))))))))))))))))))))))))))):=by kernel_rfl
theorem awC:Is (gAw (real Tryz.prog) (fun v=>v = .bool true)):=by
 refine⟨?_⟩
 rw[gAw_eq]
 repeat first|exact rfl|refine And.intro rfl ?_
theorem awakeH(B:Base)(H:Heap):CallH Tryz.prog 100 B 9 [] H (.returned (.bool true)) H:=
 pu_mkV okp (W:=WC0) ⟨fun f S h=>(by cases h),fun f S h=>(by cases h)⟩ (fun k n0 live S h=>(by cases h)) rfl awC B H
end
end Go.Proofs.YtblbaohcelldpaaGreat.Ob
namespace Go.Tlv
open Go Go.Abs
theorem okI_iff{n:Int}:okI n=true↔gdI 2147483647 n:=by unfold okI gdI;simp
theorem any_iff{α:Type}{l:List α}{p:α->Bool}:(!l.any p)=true↔∀y∈l,¬p y=true:=by
 rw[Bool.not_eq_true',List.any_eq_false]
theorem len_iff{n m:Nat}:decide ((n:Int)<=(m:Int))=true↔n<=m:=by simp
theorem pArm_iff{y:Arm}:¬pArm y=true↔gdI 2147483647 y.nx:=by unfold pArm;rw[Bool.not_eq_true',←okI_iff];simp
theorem pBucket_iff{y:Bucket}:¬pBucket y=true↔gdI 2147483647 y.b:=by unfold pBucket;rw[Bool.not_eq_true',←okI_iff];simp
theorem pInstr_iff{y:Instr}:¬pInstr y=true↔gdI 2147483647 y.to/\gdI 2147483647 y.n:=by unfold pInstr;rw[Bool.not_eq_true',←okI_iff,←okI_iff];simp
def rgArm(y:Arm):Prop:=y.v<4294967296
def rgInstr(y:Instr):Prop:=y.op<256/\y.ak<256/\y.an<18446744073709551616/\y.bk<256/\y.bn<18446744073709551616
def rgBucket(y:Bucket):Prop:=y.w<18446744073709551616
def rgNode(x:ONode):Prop:=∀y∈x.arms,rgArm y
def rgField(x:OField):Prop:=x.base<256
def rgTable(x:OTable):Prop:=x.kind<256
def rgEntry(x:OEntry):Prop:=(∀y∈x.args,y<18446744073709551616)/\x.cook<18446744073709551616/\x.idle<=9223372036854775807/\x.hard<=9223372036854775807
def rgBlock(x:OBlock):Prop:=∀y∈x.code,rgInstr y
def rgGroup(x:OGroup):Prop:=x.kind<256/\∀y∈x.bks,rgBucket y
def rgMeter(x:OMeter):Prop:=x.rate<=9223372036854775807/\x.burst<=9223372036854775807
def rgRegs(_x:ORegs):Prop:=True
theorem goodArm_of{y:Arm}(h:gdI 2147483647 y.nx)(hr:rgArm y):goodArm y:=⟨by unfold rgArm at hr;unfold gdN;omega,h⟩
theorem goodInstr_of{y:Instr}(h:gdI 2147483647 y.to/\gdI 2147483647 y.n)(hr:rgInstr y):goodInstr y:=by
 obtain⟨h1,h2,h3,h4,h5⟩:=hr
 exact⟨by unfold gdN;omega,h.1,by unfold gdN;omega,by unfold gdN;omega,by unfold gdN;omega,by unfold gdN;omega,h.2⟩
theorem goodBucket_of{y:Bucket}(h:gdI 2147483647 y.b)(hr:rgBucket y):goodBucket y:=⟨by unfold rgBucket at hr;unfold gdN;omega,h⟩
theorem mayNode_iff{x:ONode}:mayNode x=true↔(gdI 2147483647 x.id/\gdI 2147483647 x.size/\gdI 2147483647 x.lo/\gdI 2147483647 x.lw/\gdI 2147483647 x.lu/\gdI 2147483647 x.so/\gdI 2147483647 x.sw/\gdI 2147483647 x.ot)/\x.arms.length<=32/\∀y∈x.arms,gdI 2147483647 y.nx:=by
 unfold mayNode
 simp only[List.all_cons,List.all_nil,Bool.and_true,Bool.and_eq_true,okI_iff,any_iff,pArm_iff]
 rw[show(decide ((x.arms.length:Int)<=32)=true↔x.arms.length<=32)from len_iff (m:=32)]
theorem goodNode_of{x:ONode}(hm:mayNode x=true)(hr:rgNode x):goodNode x:=by
 obtain⟨⟨h_id,h_size,h_lo,h_lw,h_lu,h_so,h_sw,h_ot⟩,hl,ha⟩:=mayNode_iff.1 hm
 exact⟨h_id,h_size,h_lo,h_lw,h_lu,h_so,h_sw,h_ot,⟨hl,fun y hy=>goodArm_of (ha y hy) (hr y hy)⟩⟩
theorem goodNode_may{x:ONode}(h:goodNode x):mayNode x=true:=mayNode_iff.2 ⟨⟨h.id,h.size,h.lo,h.lw,h.lu,h.so,h.sw,h.ot⟩,h.arms.1,fun y hy=>(h.arms.2 y hy).nx⟩
theorem goodNode_ok{x:ONode}(h:goodNode x):okNode x:=⟨by unfold fitNode;have:=h.arms.1;omega,trivial,by have:=h.arms.1;omega⟩
theorem putNode_back{x:ONode}(h:goodNode x):rdE stepNode zNode (encS (attsNode x))=(0,x):=by rw[attsNode_eq];exact schNode.rd_put h
theorem rdNode_ok{s:List UInt8}{x:ONode}(h:rdE stepNode zNode s=(0,x)):goodNode x/\encS (attsNode x)=s:=by rw[attsNode_eq];exact schNode.rd_ok h
theorem mayField_iff{x:OField}:mayField x=true↔(gdI 2147483647 x.id/\gdI 2147483647 x.node/\gdI 2147483647 x.off/\gdI 2147483647 x.wid):=by
 unfold mayField
 simp only[List.all_cons,List.all_nil,Bool.and_true,Bool.and_eq_true,okI_iff]
theorem goodField_of{x:OField}(hm:mayField x=true)(hr:rgField x):goodField x:=by
 obtain⟨h_id,h_node,h_off,h_wid⟩:=mayField_iff.1 hm
 exact⟨h_id,(by unfold rgField at hr;unfold gdN;omega),h_node,h_off,h_wid⟩
theorem goodField_may{x:OField}(h:goodField x):mayField x=true:=mayField_iff.2 ⟨h.id,h.node,h.off,h.wid⟩
theorem goodField_ok{x:OField}(h:goodField x):okField x:=⟨trivial,trivial,trivial⟩
theorem putField_back{x:OField}(h:goodField x):rdE stepField zField (encS (attsField x))=(0,x):=by rw[attsField_eq];exact schField.rd_put h
theorem rdField_ok{s:List UInt8}{x:OField}(h:rdE stepField zField s=(0,x)):goodField x/\encS (attsField x)=s:=by rw[attsField_eq];exact schField.rd_ok h
theorem mayTable_iff{x:OTable}:mayTable x=true↔(gdI 2147483647 x.id/\gdI 2147483647 x.cap/\gdI 2147483647 x.miss)/\x.keys.length<=4/\∀y∈x.keys,gdI 2147483647 y:=by
 unfold mayTable
 simp only[List.all_cons,List.all_nil,Bool.and_true,Bool.and_eq_true,okI_iff,List.all_eq_true]
 rw[show(decide ((x.keys.length:Int)<=4)=true↔x.keys.length<=4)from len_iff (m:=4)]
theorem goodTable_of{x:OTable}(hm:mayTable x=true)(hr:rgTable x):goodTable x:=by
 obtain⟨⟨h_id,h_cap,h_miss⟩,hl,ha⟩:=mayTable_iff.1 hm
 exact⟨h_id,(by unfold rgTable at hr;unfold gdN;omega),⟨hl,ha⟩,h_cap,h_miss⟩
theorem goodTable_may{x:OTable}(h:goodTable x):mayTable x=true:=mayTable_iff.2 ⟨⟨h.id,h.cap,h.miss⟩,h.keys.1,fun y hy=>h.keys.2 y hy⟩
theorem goodTable_ok{x:OTable}(h:goodTable x):okTable x:=⟨by unfold fitTable;have:=h.keys.1;omega,trivial,by have:=h.keys.1;omega⟩
theorem putTable_back{x:OTable}(h:goodTable x):rdE stepTable zTable (encS (attsTable x))=(0,x):=by rw[attsTable_eq];exact schTable.rd_put h
theorem rdTable_ok{s:List UInt8}{x:OTable}(h:rdE stepTable zTable s=(0,x)):goodTable x/\encS (attsTable x)=s:=by rw[attsTable_eq];exact schTable.rd_ok h
theorem mayEntry_iff{x:OEntry}:mayEntry x=true↔(gdI 2147483647 x.tab/\gdI 2147483647 x.len/\gdI 2147483647 x.prio/\gdI 2147483647 x.blk)/\0<=x.idle/\0<=x.hard/\x.key.data.toList.length<=32/\x.oth.data.toList.length<=32/\x.args.length<=4:=by
 unfold mayEntry
 simp only[List.all_cons,List.all_nil,Bool.and_true,Bool.and_eq_true,okI_iff,decide_eq_true_eq]
 constructor
 ·rintro ⟨h,a,b,c,d,e⟩
  exact⟨h,a,b,by omega,by omega,by omega⟩
 ·rintro ⟨h,a,b,c,d,e⟩
  exact⟨h,a,b,by omega,by omega,by omega⟩
theorem goodEntry_of{x:OEntry}(hm:mayEntry x=true)(hr:rgEntry x):goodEntry x:=by
 obtain⟨⟨h_tab,h_len,h_prio,h_blk⟩,hi,hh,hk,ho,hl⟩:=mayEntry_iff.1 hm
 exact⟨h_tab,hk,ho,h_len,h_prio,h_blk,⟨hl,fun y hy=>(by have:=hr.1 y hy;unfold goodNat gdN;omega)⟩,⟨hi,hr.2.2.1⟩,⟨hh,hr.2.2.2⟩,(by have:=hr.2.1;unfold gdN;omega),trivial⟩
theorem goodEntry_may{x:OEntry}(h:goodEntry x):mayEntry x=true:=mayEntry_iff.2 ⟨⟨h.tab,h.len,h.prio,h.blk⟩,h.idle.1,h.hard.1,h.key,h.oth,h.args.1⟩
theorem goodEntry_ok{x:OEntry}(h:goodEntry x):okEntry x:=⟨by unfold fitEntry;have:=h.args.1;omega,⟨fun y hy=>(by have:=h.args.2 y hy;unfold goodNat gdN at this;unfold wfNat;omega),(by have:=h.cook;unfold gdN at this;omega)⟩,by have:=h.args.1;omega⟩
theorem putEntry_back{x:OEntry}(h:goodEntry x):rdE stepEntry zEntry (encS (attsEntry x))=(0,x):=by rw[attsEntry_eq];exact schEntry.rd_put h
theorem rdEntry_ok{s:List UInt8}{x:OEntry}(h:rdE stepEntry zEntry s=(0,x)):goodEntry x/\encS (attsEntry x)=s:=by rw[attsEntry_eq];exact schEntry.rd_ok h
theorem mayBlock_iff{x:OBlock}:mayBlock x=true↔(gdI 2147483647 x.id)/\x.code.length<=32/\∀y∈x.code,gdI 2147483647 y.to/\gdI 2147483647 y.n:=by
 unfold mayBlock
 simp only[List.all_cons,List.all_nil,Bool.and_true,Bool.and_eq_true,okI_iff,any_iff,pInstr_iff]
 rw[show(decide ((x.code.length:Int)<=32)=true↔x.code.length<=32)from len_iff (m:=32)]
theorem goodBlock_of{x:OBlock}(hm:mayBlock x=true)(hr:rgBlock x):goodBlock x:=by
 obtain⟨h_id,hl,ha⟩:=mayBlock_iff.1 hm
 exact⟨h_id,⟨hl,fun y hy=>goodInstr_of (ha y hy) (hr y hy)⟩⟩
theorem goodBlock_may{x:OBlock}(h:goodBlock x):mayBlock x=true:=mayBlock_iff.2 ⟨h.id,h.code.1,fun y hy=>⟨(h.code.2 y hy).to,(h.code.2 y hy).n⟩⟩
theorem goodBlock_ok{x:OBlock}(h:goodBlock x):okBlock x:=⟨by unfold fitBlock;have:=h.code.1;omega,fun y hy=>(by have h1:=(h.code.2 y hy).an;have h2:=(h.code.2 y hy).bn;unfold gdN at h1 h2;exact⟨by omega,by omega⟩),by have:=h.code.1;omega⟩
theorem putBlock_back{x:OBlock}(h:goodBlock x):rdE stepBlock zBlock (encS (attsBlock x))=(0,x):=by rw[attsBlock_eq];exact schBlock.rd_put h
theorem rdBlock_ok{s:List UInt8}{x:OBlock}(h:rdE stepBlock zBlock s=(0,x)):goodBlock x/\encS (attsBlock x)=s:=by rw[attsBlock_eq];exact schBlock.rd_ok h
theorem mayGroup_iff{x:OGroup}:mayGroup x=true↔(gdI 2147483647 x.id/\gdI 2147483647 x.fld)/\x.bks.length<=16/\∀y∈x.bks,gdI 2147483647 y.b:=by
 unfold mayGroup
 simp only[List.all_cons,List.all_nil,Bool.and_true,Bool.and_eq_true,okI_iff,any_iff,pBucket_iff]
 rw[show(decide ((x.bks.length:Int)<=16)=true↔x.bks.length<=16)from len_iff (m:=16)]
theorem goodGroup_of{x:OGroup}(hm:mayGroup x=true)(hr:rgGroup x):goodGroup x:=by
 obtain⟨⟨h_id,h_fld⟩,hl,ha⟩:=mayGroup_iff.1 hm
 exact⟨h_id,(by have:=hr.1;unfold gdN;omega),h_fld,⟨hl,fun y hy=>goodBucket_of (ha y hy) (hr.2 y hy)⟩⟩
theorem goodGroup_may{x:OGroup}(h:goodGroup x):mayGroup x=true:=mayGroup_iff.2 ⟨⟨h.id,h.fld⟩,h.bks.1,fun y hy=>(h.bks.2 y hy).b⟩
theorem goodGroup_ok{x:OGroup}(h:goodGroup x):okGroup x:=⟨by unfold fitGroup;have:=h.bks.1;omega,fun y hy=>(by have h1:=(h.bks.2 y hy).w;unfold gdN at h1;unfold wfBucket;omega),by have:=h.bks.1;omega⟩
theorem putGroup_back{x:OGroup}(h:goodGroup x):rdE stepGroup zGroup (encS (attsGroup x))=(0,x):=by rw[attsGroup_eq];exact schGroup.rd_put h
theorem rdGroup_ok{s:List UInt8}{x:OGroup}(h:rdE stepGroup zGroup s=(0,x)):goodGroup x/\encS (attsGroup x)=s:=by rw[attsGroup_eq];exact schGroup.rd_ok h
theorem mayMeter_iff{x:OMeter}:mayMeter x=true↔(gdI 2147483647 x.id)/\0<=x.rate/\0<=x.burst:=by
 unfold mayMeter
 simp only[List.all_cons,List.all_nil,Bool.and_true,Bool.and_eq_true,okI_iff,decide_eq_true_eq]
theorem goodMeter_of{x:OMeter}(hm:mayMeter x=true)(hr:rgMeter x):goodMeter x:=by
 obtain⟨h_id,hra,hbu⟩:=mayMeter_iff.1 hm
 exact⟨h_id,⟨hra,hr.1⟩,⟨hbu,hr.2⟩⟩
theorem goodMeter_may{x:OMeter}(h:goodMeter x):mayMeter x=true:=mayMeter_iff.2 ⟨h.id,h.rate.1,h.burst.1⟩
theorem goodMeter_ok{x:OMeter}(h:goodMeter x):okMeter x:=⟨trivial,trivial,trivial⟩
theorem putMeter_back{x:OMeter}(h:goodMeter x):rdE stepMeter zMeter (encS (attsMeter x))=(0,x):=by rw[attsMeter_eq];exact schMeter.rd_put h
theorem rdMeter_ok{s:List UInt8}{x:OMeter}(h:rdE stepMeter zMeter s=(0,x)):goodMeter x/\encS (attsMeter x)=s:=by rw[attsMeter_eq];exact schMeter.rd_ok h
theorem mayRegs_iff{x:ORegs}:mayRegs x=true↔(gdI 2147483647 x.id/\gdI 2147483647 x.size):=by
 unfold mayRegs
 simp only[List.all_cons,List.all_nil,Bool.and_true,Bool.and_eq_true,okI_iff]
theorem goodRegs_of{x:ORegs}(hm:mayRegs x=true)(hr:rgRegs x):goodRegs x:=by
 obtain⟨h_id,h_size⟩:=mayRegs_iff.1 hm
 exact⟨h_id,h_size⟩
theorem goodRegs_may{x:ORegs}(h:goodRegs x):mayRegs x=true:=mayRegs_iff.2 ⟨h.id,h.size⟩
theorem goodRegs_ok{x:ORegs}(h:goodRegs x):okRegs x:=⟨trivial,trivial,trivial⟩
theorem putRegs_back{x:ORegs}(h:goodRegs x):rdE stepRegs zRegs (encS (attsRegs x))=(0,x):=by rw[attsRegs_eq];exact schRegs.rd_put h
theorem rdRegs_ok{s:List UInt8}{x:ORegs}(h:rdE stepRegs zRegs s=(0,x)):goodRegs x/\encS (attsRegs x)=s:=by rw[attsRegs_eq];exact schRegs.rd_ok h
def zMsg:OMsg:=⟨0,0,0,0,0,0,0,0,0,bytesOf [],[],zNode,zField,zTable,zEntry,zBlock,zGroup,zMeter,zRegs⟩
def sameM(x y:OMsg):Prop:=x.n=y.n/\x.f=y.f/\x.t=y.t/\x.e=y.e/\x.b=y.b/\x.g=y.g/\x.m=y.m/\x.r=y.r
def lenOk(x:OMsg):Prop:=x.n.arms.length<=140737488355328/\x.t.keys.length<=140737488355328/\x.e.args.length<=140737488355328/\x.b.code.length<=140737488355328/\x.g.bks.length<=140737488355328
def smallM(x:OMsg):Prop:=x.n.arms.length<=400/\x.t.keys.length<=400/\x.e.args.length<=400/\x.b.code.length<=400/\x.g.bks.length<=400
def rgMsg(x:OMsg):Prop:=rgNode x.n/\rgField x.f/\rgTable x.t/\rgEntry x.e/\rgBlock x.b/\rgGroup x.g/\rgMeter x.m/\rgRegs x.r
theorem sameM_refl(x:OMsg):sameM x x:=⟨rfl,rfl,rfl,rfl,rfl,rfl,rfl,rfl⟩
theorem okZ:okMsg zMsg:=⟨goodNode_ok schNode.z,goodField_ok schField.z,goodTable_ok schTable.z,goodEntry_ok schEntry.z,goodBlock_ok schBlock.z,goodGroup_ok schGroup.z,goodMeter_ok schMeter.z,goodRegs_ok schRegs.z⟩
def mkNode(y:ONode):OMsg:={zMsg with n:=y}
theorem ok_mkNode{y:ONode}(h:goodNode y):okMsg (mkNode y):=⟨goodNode_ok h,goodField_ok schField.z,goodTable_ok schTable.z,goodEntry_ok schEntry.z,goodBlock_ok schBlock.z,goodGroup_ok schGroup.z,goodMeter_ok schMeter.z,goodRegs_ok schRegs.z⟩
def mkField(y:OField):OMsg:={zMsg with f:=y}
theorem ok_mkField{y:OField}(h:goodField y):okMsg (mkField y):=⟨goodNode_ok schNode.z,goodField_ok h,goodTable_ok schTable.z,goodEntry_ok schEntry.z,goodBlock_ok schBlock.z,goodGroup_ok schGroup.z,goodMeter_ok schMeter.z,goodRegs_ok schRegs.z⟩
def mkTable(y:OTable):OMsg:={zMsg with t:=y}
theorem ok_mkTable{y:OTable}(h:goodTable y):okMsg (mkTable y):=⟨goodNode_ok schNode.z,goodField_ok schField.z,goodTable_ok h,goodEntry_ok schEntry.z,goodBlock_ok schBlock.z,goodGroup_ok schGroup.z,goodMeter_ok schMeter.z,goodRegs_ok schRegs.z⟩
def mkEntry(y:OEntry):OMsg:={zMsg with e:=y}
theorem ok_mkEntry{y:OEntry}(h:goodEntry y):okMsg (mkEntry y):=⟨goodNode_ok schNode.z,goodField_ok schField.z,goodTable_ok schTable.z,goodEntry_ok h,goodBlock_ok schBlock.z,goodGroup_ok schGroup.z,goodMeter_ok schMeter.z,goodRegs_ok schRegs.z⟩
def mkBlock(y:OBlock):OMsg:={zMsg with b:=y}
theorem ok_mkBlock{y:OBlock}(h:goodBlock y):okMsg (mkBlock y):=⟨goodNode_ok schNode.z,goodField_ok schField.z,goodTable_ok schTable.z,goodEntry_ok schEntry.z,goodBlock_ok h,goodGroup_ok schGroup.z,goodMeter_ok schMeter.z,goodRegs_ok schRegs.z⟩
def mkGroup(y:OGroup):OMsg:={zMsg with g:=y}
theorem ok_mkGroup{y:OGroup}(h:goodGroup y):okMsg (mkGroup y):=⟨goodNode_ok schNode.z,goodField_ok schField.z,goodTable_ok schTable.z,goodEntry_ok schEntry.z,goodBlock_ok schBlock.z,goodGroup_ok h,goodMeter_ok schMeter.z,goodRegs_ok schRegs.z⟩
def mkMeter(y:OMeter):OMsg:={zMsg with m:=y}
theorem ok_mkMeter{y:OMeter}(h:goodMeter y):okMsg (mkMeter y):=⟨goodNode_ok schNode.z,goodField_ok schField.z,goodTable_ok schTable.z,goodEntry_ok schEntry.z,goodBlock_ok schBlock.z,goodGroup_ok schGroup.z,goodMeter_ok h,goodRegs_ok schRegs.z⟩
def mkRegs(y:ORegs):OMsg:={zMsg with r:=y}
theorem ok_mkRegs{y:ORegs}(h:goodRegs y):okMsg (mkRegs y):=⟨goodNode_ok schNode.z,goodField_ok schField.z,goodTable_ok schTable.z,goodEntry_ok schEntry.z,goodBlock_ok schBlock.z,goodGroup_ok schGroup.z,goodMeter_ok schMeter.z,goodRegs_ok h⟩
theorem okMsg_of{x:OMsg}(h:smallM x)(hr:rgMsg x):okMsg x:=by
 obtain⟨h1,h2,h3,h4,h5⟩:=h
 obtain⟨r1,r2,r3,r4,r5,r6,r7,r8⟩:=hr
 exact⟨⟨by unfold fitNode;omega,trivial,by omega⟩,⟨trivial,trivial,trivial⟩,⟨by unfold fitTable;omega,trivial,by omega⟩,⟨by unfold fitEntry;omega,⟨r4.1,r4.2.1⟩,by omega⟩,⟨by unfold fitBlock;omega,fun y hy=>⟨(r5 y hy).2.2.1,(r5 y hy).2.2.2.2⟩,by omega⟩,⟨by unfold fitGroup;omega,r6.2,by omega⟩,⟨trivial,trivial,trivial⟩,⟨trivial,trivial,trivial⟩⟩
end Go.Tlv
