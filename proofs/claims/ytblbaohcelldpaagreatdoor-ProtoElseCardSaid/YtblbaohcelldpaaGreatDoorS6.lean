/- What may be said is good, and the other way about. -/
import Derived.Test.YtblbaohcelldpaaGreatDoorS5
set_option linter.all false
namespace Go.Tlv
open Go Go.Abs
theorem okI_iff{n:Int}:okI n=true↔gdI 2147483647 n:=by unfold okI gdI;simp
theorem any_iff{α:Type}{l:List α}{p:α->Bool}:(!l.any p)=true↔∀y∈l,¬p y=true:=by
 rw[Bool.not_eq_true',List.any_eq_false]
theorem len_iff{n m:Nat}:decide ((n:Int)<=(m:Int))=true↔n<=m:=by simp
theorem pArm_iff{y:Arm}:¬pArm y=true↔gdI 2147483647 y.nx:=by unfold pArm;rw[Bool.not_eq_true',←okI_iff];simp
theorem pBucket_iff{y:Bucket}:¬pBucket y=true↔gdI 2147483647 y.b:=by unfold pBucket;rw[Bool.not_eq_true',←okI_iff];simp
theorem pInstr_iff{y:Instr}:¬pInstr y=true↔gdI 2147483647 y.to/\gdI 2147483647 y.n:=by unfold pInstr;rw[Bool.not_eq_true',←okI_iff,←okI_iff];simp
def rgArm(y:Arm):Prop:=y.v<4294967296
def rgInstr(y:Instr):Prop:=y.op<256/\y.ak<256/\y.an<18446744073709551616/\y.bk<256/\y.bn<18446744073709551616
def rgBucket(y:Bucket):Prop:=y.w<18446744073709551616
def rgNode(x:ONode):Prop:=∀y∈x.arms,rgArm y
def rgField(x:OField):Prop:=x.base<256
def rgTable(x:OTable):Prop:=x.kind<256
def rgEntry(x:OEntry):Prop:=(∀y∈x.args,y<18446744073709551616)/\x.cook<18446744073709551616/\x.idle<=9223372036854775807/\x.hard<=9223372036854775807
def rgBlock(x:OBlock):Prop:=∀y∈x.code,rgInstr y
def rgGroup(x:OGroup):Prop:=x.kind<256/\∀y∈x.bks,rgBucket y
def rgMeter(x:OMeter):Prop:=x.rate<=9223372036854775807/\x.burst<=9223372036854775807
def rgRegs(_x:ORegs):Prop:=True
theorem goodArm_of{y:Arm}(h:gdI 2147483647 y.nx)(hr:rgArm y):goodArm y:=⟨by unfold rgArm at hr;unfold gdN;omega,h⟩
theorem goodInstr_of{y:Instr}(h:gdI 2147483647 y.to/\gdI 2147483647 y.n)(hr:rgInstr y):goodInstr y:=by
 obtain⟨h1,h2,h3,h4,h5⟩:=hr
 exact⟨by unfold gdN;omega,h.1,by unfold gdN;omega,by unfold gdN;omega,by unfold gdN;omega,by unfold gdN;omega,h.2⟩
theorem goodBucket_of{y:Bucket}(h:gdI 2147483647 y.b)(hr:rgBucket y):goodBucket y:=⟨by unfold rgBucket at hr;unfold gdN;omega,h⟩
theorem mayNode_iff{x:ONode}:mayNode x=true↔(gdI 2147483647 x.id/\gdI 2147483647 x.size/\gdI 2147483647 x.lo/\gdI 2147483647 x.lw/\gdI 2147483647 x.lu/\gdI 2147483647 x.so/\gdI 2147483647 x.sw/\gdI 2147483647 x.ot)/\x.arms.length<=32/\∀y∈x.arms,gdI 2147483647 y.nx:=by
 unfold mayNode
 simp only[List.all_cons,List.all_nil,Bool.and_true,Bool.and_eq_true,okI_iff,any_iff,pArm_iff]
 rw[show(decide ((x.arms.length:Int)<=32)=true↔x.arms.length<=32)from len_iff (m:=32)]
theorem goodNode_of{x:ONode}(hm:mayNode x=true)(hr:rgNode x):goodNode x:=by
 obtain⟨⟨h_id,h_size,h_lo,h_lw,h_lu,h_so,h_sw,h_ot⟩,hl,ha⟩:=mayNode_iff.1 hm
 exact⟨h_id,h_size,h_lo,h_lw,h_lu,h_so,h_sw,h_ot,⟨hl,fun y hy=>goodArm_of (ha y hy) (hr y hy)⟩⟩
theorem goodNode_may{x:ONode}(h:goodNode x):mayNode x=true:=mayNode_iff.2 ⟨⟨h.id,h.size,h.lo,h.lw,h.lu,h.so,h.sw,h.ot⟩,h.arms.1,fun y hy=>(h.arms.2 y hy).nx⟩
theorem putNode_back{x:ONode}(h:goodNode x):rdE stepNode zNode (encS (attsNode x))=(0,x):=by rw[attsNode_eq];exact schNode.rd_put h
theorem rdNode_ok{s:List UInt8}{x:ONode}(h:rdE stepNode zNode s=(0,x)):goodNode x/\encS (attsNode x)=s:=by rw[attsNode_eq];exact schNode.rd_ok h
theorem mayField_iff{x:OField}:mayField x=true↔(gdI 2147483647 x.id/\gdI 2147483647 x.node/\gdI 2147483647 x.off/\gdI 2147483647 x.wid):=by
 unfold mayField
 simp only[List.all_cons,List.all_nil,Bool.and_true,Bool.and_eq_true,okI_iff]
theorem goodField_of{x:OField}(hm:mayField x=true)(hr:rgField x):goodField x:=by
 obtain⟨h_id,h_node,h_off,h_wid⟩:=mayField_iff.1 hm
 exact⟨h_id,(by unfold rgField at hr;unfold gdN;omega),h_node,h_off,h_wid⟩
theorem goodField_may{x:OField}(h:goodField x):mayField x=true:=mayField_iff.2 ⟨h.id,h.node,h.off,h.wid⟩
theorem putField_back{x:OField}(h:goodField x):rdE stepField zField (encS (attsField x))=(0,x):=by rw[attsField_eq];exact schField.rd_put h
theorem rdField_ok{s:List UInt8}{x:OField}(h:rdE stepField zField s=(0,x)):goodField x/\encS (attsField x)=s:=by rw[attsField_eq];exact schField.rd_ok h
theorem mayTable_iff{x:OTable}:mayTable x=true↔(gdI 2147483647 x.id/\gdI 2147483647 x.cap/\gdI 2147483647 x.miss)/\x.keys.length<=4/\∀y∈x.keys,gdI 2147483647 y:=by
 unfold mayTable
 simp only[List.all_cons,List.all_nil,Bool.and_true,Bool.and_eq_true,okI_iff,List.all_eq_true]
 rw[show(decide ((x.keys.length:Int)<=4)=true↔x.keys.length<=4)from len_iff (m:=4)]
theorem goodTable_of{x:OTable}(hm:mayTable x=true)(hr:rgTable x):goodTable x:=by
 obtain⟨⟨h_id,h_cap,h_miss⟩,hl,ha⟩:=mayTable_iff.1 hm
 exact⟨h_id,(by unfold rgTable at hr;unfold gdN;omega),⟨hl,ha⟩,h_cap,h_miss⟩
theorem goodTable_may{x:OTable}(h:goodTable x):mayTable x=true:=mayTable_iff.2 ⟨⟨h.id,h.cap,h.miss⟩,h.keys.1,fun y hy=>h.keys.2 y hy⟩
theorem putTable_back{x:OTable}(h:goodTable x):rdE stepTable zTable (encS (attsTable x))=(0,x):=by rw[attsTable_eq];exact schTable.rd_put h
theorem rdTable_ok{s:List UInt8}{x:OTable}(h:rdE stepTable zTable s=(0,x)):goodTable x/\encS (attsTable x)=s:=by rw[attsTable_eq];exact schTable.rd_ok h
theorem mayEntry_iff{x:OEntry}:mayEntry x=true↔(gdI 2147483647 x.tab/\gdI 2147483647 x.len/\gdI 2147483647 x.prio/\gdI 2147483647 x.blk)/\0<=x.idle/\0<=x.hard/\x.key.data.toList.length<=32/\x.oth.data.toList.length<=32/\x.args.length<=4:=by
 unfold mayEntry
 simp only[List.all_cons,List.all_nil,Bool.and_true,Bool.and_eq_true,okI_iff,decide_eq_true_eq]
 constructor
 ·rintro ⟨h,a,b,c,d,e⟩
  exact⟨h,a,b,by omega,by omega,by omega⟩
 ·rintro ⟨h,a,b,c,d,e⟩
  exact⟨h,a,b,by omega,by omega,by omega⟩
theorem goodEntry_of{x:OEntry}(hm:mayEntry x=true)(hr:rgEntry x):goodEntry x:=by
 obtain⟨⟨h_tab,h_len,h_prio,h_blk⟩,hi,hh,hk,ho,hl⟩:=mayEntry_iff.1 hm
 exact⟨h_tab,hk,ho,h_len,h_prio,h_blk,⟨hl,fun y hy=>(by have:=hr.1 y hy;unfold goodNat gdN;omega)⟩,⟨hi,hr.2.2.1⟩,⟨hh,hr.2.2.2⟩,(by have:=hr.2.1;unfold gdN;omega),trivial⟩
theorem goodEntry_may{x:OEntry}(h:goodEntry x):mayEntry x=true:=mayEntry_iff.2 ⟨⟨h.tab,h.len,h.prio,h.blk⟩,h.idle.1,h.hard.1,h.key,h.oth,h.args.1⟩
theorem putEntry_back{x:OEntry}(h:goodEntry x):rdE stepEntry zEntry (encS (attsEntry x))=(0,x):=by rw[attsEntry_eq];exact schEntry.rd_put h
theorem rdEntry_ok{s:List UInt8}{x:OEntry}(h:rdE stepEntry zEntry s=(0,x)):goodEntry x/\encS (attsEntry x)=s:=by rw[attsEntry_eq];exact schEntry.rd_ok h
theorem mayBlock_iff{x:OBlock}:mayBlock x=true↔(gdI 2147483647 x.id)/\x.code.length<=32/\∀y∈x.code,gdI 2147483647 y.to/\gdI 2147483647 y.n:=by
 unfold mayBlock
 simp only[List.all_cons,List.all_nil,Bool.and_true,Bool.and_eq_true,okI_iff,any_iff,pInstr_iff]
 rw[show(decide ((x.code.length:Int)<=32)=true↔x.code.length<=32)from len_iff (m:=32)]
theorem goodBlock_of{x:OBlock}(hm:mayBlock x=true)(hr:rgBlock x):goodBlock x:=by
 obtain⟨h_id,hl,ha⟩:=mayBlock_iff.1 hm
 exact⟨h_id,⟨hl,fun y hy=>goodInstr_of (ha y hy) (hr y hy)⟩⟩
theorem goodBlock_may{x:OBlock}(h:goodBlock x):mayBlock x=true:=mayBlock_iff.2 ⟨h.id,h.code.1,fun y hy=>⟨(h.code.2 y hy).to,(h.code.2 y hy).n⟩⟩
theorem putBlock_back{x:OBlock}(h:goodBlock x):rdE stepBlock zBlock (encS (attsBlock x))=(0,x):=by rw[attsBlock_eq];exact schBlock.rd_put h
theorem rdBlock_ok{s:List UInt8}{x:OBlock}(h:rdE stepBlock zBlock s=(0,x)):goodBlock x/\encS (attsBlock x)=s:=by rw[attsBlock_eq];exact schBlock.rd_ok h
theorem mayGroup_iff{x:OGroup}:mayGroup x=true↔(gdI 2147483647 x.id/\gdI 2147483647 x.fld)/\x.bks.length<=16/\∀y∈x.bks,gdI 2147483647 y.b:=by
 unfold mayGroup
 simp only[List.all_cons,List.all_nil,Bool.and_true,Bool.and_eq_true,okI_iff,any_iff,pBucket_iff]
 rw[show(decide ((x.bks.length:Int)<=16)=true↔x.bks.length<=16)from len_iff (m:=16)]
theorem goodGroup_of{x:OGroup}(hm:mayGroup x=true)(hr:rgGroup x):goodGroup x:=by
 obtain⟨⟨h_id,h_fld⟩,hl,ha⟩:=mayGroup_iff.1 hm
 exact⟨h_id,(by have:=hr.1;unfold gdN;omega),h_fld,⟨hl,fun y hy=>goodBucket_of (ha y hy) (hr.2 y hy)⟩⟩
theorem goodGroup_may{x:OGroup}(h:goodGroup x):mayGroup x=true:=mayGroup_iff.2 ⟨⟨h.id,h.fld⟩,h.bks.1,fun y hy=>(h.bks.2 y hy).b⟩
theorem putGroup_back{x:OGroup}(h:goodGroup x):rdE stepGroup zGroup (encS (attsGroup x))=(0,x):=by rw[attsGroup_eq];exact schGroup.rd_put h
theorem rdGroup_ok{s:List UInt8}{x:OGroup}(h:rdE stepGroup zGroup s=(0,x)):goodGroup x/\encS (attsGroup x)=s:=by rw[attsGroup_eq];exact schGroup.rd_ok h
theorem mayMeter_iff{x:OMeter}:mayMeter x=true↔(gdI 2147483647 x.id)/\0<=x.rate/\0<=x.burst:=by
 unfold mayMeter
 simp only[List.all_cons,List.all_nil,Bool.and_true,Bool.and_eq_true,okI_iff,decide_eq_true_eq]
theorem goodMeter_of{x:OMeter}(hm:mayMeter x=true)(hr:rgMeter x):goodMeter x:=by
 obtain⟨h_id,hra,hbu⟩:=mayMeter_iff.1 hm
 exact⟨h_id,⟨hra,hr.1⟩,⟨hbu,hr.2⟩⟩
theorem goodMeter_may{x:OMeter}(h:goodMeter x):mayMeter x=true:=mayMeter_iff.2 ⟨h.id,h.rate.1,h.burst.1⟩
theorem putMeter_back{x:OMeter}(h:goodMeter x):rdE stepMeter zMeter (encS (attsMeter x))=(0,x):=by rw[attsMeter_eq];exact schMeter.rd_put h
theorem rdMeter_ok{s:List UInt8}{x:OMeter}(h:rdE stepMeter zMeter s=(0,x)):goodMeter x/\encS (attsMeter x)=s:=by rw[attsMeter_eq];exact schMeter.rd_ok h
theorem mayRegs_iff{x:ORegs}:mayRegs x=true↔(gdI 2147483647 x.id/\gdI 2147483647 x.size):=by
 unfold mayRegs
 simp only[List.all_cons,List.all_nil,Bool.and_true,Bool.and_eq_true,okI_iff]
theorem goodRegs_of{x:ORegs}(hm:mayRegs x=true)(hr:rgRegs x):goodRegs x:=by
 obtain⟨h_id,h_size⟩:=mayRegs_iff.1 hm
 exact⟨h_id,h_size⟩
theorem goodRegs_may{x:ORegs}(h:goodRegs x):mayRegs x=true:=mayRegs_iff.2 ⟨h.id,h.size⟩
theorem putRegs_back{x:ORegs}(h:goodRegs x):rdE stepRegs zRegs (encS (attsRegs x))=(0,x):=by rw[attsRegs_eq];exact schRegs.rd_put h
theorem rdRegs_ok{s:List UInt8}{x:ORegs}(h:rdE stepRegs zRegs s=(0,x)):goodRegs x/\encS (attsRegs x)=s:=by rw[attsRegs_eq];exact schRegs.rd_ok h
def rgMsg(x:OMsg):Prop:=rgNode x.n/\rgField x.f/\rgTable x.t/\rgEntry x.e/\rgBlock x.b/\rgGroup x.g/\rgMeter x.m/\rgRegs x.r
end Go.Tlv
