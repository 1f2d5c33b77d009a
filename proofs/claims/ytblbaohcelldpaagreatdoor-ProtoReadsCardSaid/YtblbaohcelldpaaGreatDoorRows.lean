/-
  NARROWER THAN 'FOR EVERY INPUT', by the rows' own cells (each row's printed sentence says how): ProtoNames: laid · ProtoReads: laid · ProtoElse: laid · ProtoCut: laid · ProtoXid: laid · ProtoWrites: laid · ProtoBack: laid · ProtoUnlike: laid.
  DERIVED. THE GIVEN ROWS OF THIS SEAT. 8 by the template 'for every input the law returns true; each argument reads behind the call as it read before'; 0 by the template 'total and deterministic' (their statements: YtblbaohcelldpaaGreatDoorTotals.lean).
  GIVEN WITH THE SEED: the statements are not yours to turn. If you find one false, say at which input.
  Laid BY PROGRAM, IN A SANDBOX (cutbox-rows.mjs): the forced cells as the released guide's own fill.sh prints them over the translation 119d8a27aa7cf394… (all of the seat's roots in one cut). By AI agents, Wed Nov 11 2026. No macro, syntax, notation, axiom, sorry.
-/
import Derived.Test.YtblbaohcelldpaaGreatDoorChecked
import GoSem.Claim
import GoSem.ClaimJoined
import GoSem.ClaimMapViews
import Derived.JoinedTies
import Derived.KernelRfl
namespace Go.Proofs.YtblbaohcelldpaaGreatDoor
/- THE CELL 'sum', in the pinned program and in every row, IS THE sha256 OF THE DUMP (.gsa) THAT YtblbaohcelldpaaGreatDoorProg.lean LOADS. Nothing in Lean hashes anything: it is a label: what it is worth is what the hold of that sum in a sandbox is worth. -/
noncomputable def Tryz.pinned : Pinned := { name := "ytblbaohcelldpaagreatdoor", sum := "119d8a27aa7cf394573996b2825701b0da6a8f2ce55ebc1c183612cb5f4c1c22", checked := Tryz.checked }
namespace Rows
def none {H : Type} : Left H := { results := [], args := [] }

/- WHAT THE LISTED PACKAGE-LEVEL VARIABLES READ AS WHEN THE CALL BEGINS. Each datum BY PROGRAM (the guide's laid-datum.mjs) off the statement by which the dump's own 'gosem.cut.vars' lays the variable. In a bare row this is a premise. The card (YtblbaohcelldpaaGreatDoorCards.lean) ties it to the program's text. -/
def laid_turnout_proto_has {H : Type} : DataW H := .agg [.lit (.int .u32 0), .lit (.int .u32 0), .lit (.int .u32 64), .lit (.int .u32 256), .lit (.int .u32 256), .lit (.int .u32 0), .lit (.int .u32 68), .lit (.int .u32 0), .lit (.int .u32 0), .lit (.int .u32 12), .lit (.int .u32 8), .lit (.int .u32 1024), .lit (.int .u32 2), .lit (.int .u32 2048), .lit (.int .u32 2), .lit (.int .u32 4096), .lit (.int .u32 2), .lit (.int .u32 8192), .lit (.int .u32 8192), .lit (.int .u32 16384), .lit (.int .u32 2), .lit (.int .u32 32768), .lit (.int .u32 2), .lit (.int .u32 65536), .lit (.int .u32 2), .lit (.int .u32 131072), .lit (.int .u32 2), .lit (.int .u32 2), .lit (.int .u32 2), .lit (.int .u32 2), .lit (.int .u32 194), .lit (.int .u32 70), .lit (.int .u32 518), .lit (.int .u32 518), .lit (.int .u32 2), .lit (.int .u32 66), .lit (.int .u32 0), .lit (.int .u32 512), .lit (.int .u32 16), .lit (.int .u32 84), .lit (.int .u32 272), .lit (.int .u32 304), .lit (.int .u32 8224), .lit (.int .u32 0), .lit (.int .u32 64), .lit (.int .u32 2), .lit (.int .u32 66)]

/-- 'turnoutlaw09.ProtoNames': WHATEVER THE INPUT: true; the input reads as it did. -/
def protoNamesSpec : ChangeSpec := { name := "protoNames", fn := fun _ => fun
  | [] => { results := [.lit (.bool true)], args := [] }
  | _ => none }
def protoNamesRow : OpenClaim := { program := "ytblbaohcelldpaagreatdoor", sum := "119d8a27aa7cf394573996b2825701b0da6a8f2ce55ebc1c183612cb5f4c1c22", func := "turnout/turnoutlaw09.ProtoNames", spec := "protoNames", unfollowed := true, recurses := true, named := ["turnout/proto.has"], apart := false, laid := [("turnout/proto.has", laid_turnout_proto_has)] }
def ProtoNamesSaid : Prop := protoNamesRow.holds Tryz.pinned (OpenSpec.ofChange protoNamesSpec)

/-- ITS FALSE NEIGHBOUR: 'it returns false'. Refute it at one input. -/
def protoNamesWrong : ChangeSpec := { name := "protoNames", fn := fun _ => fun
  | [] => { results := [.lit (.bool false)], args := [] }
  | _ => none }
def ProtoNamesWrongFalsely : Prop := protoNamesRow.holds Tryz.pinned (OpenSpec.ofChange protoNamesWrong)

/-- 'turnoutlaw09.ProtoReads': WHATEVER THE INPUT: true; the input reads as it did. -/
def protoReadsSpec : ChangeSpec := { name := "protoReads", fn := fun _ => fun
  | [d] => { results := [.lit (.bool true)], args := [d] }
  | _ => none }
def protoReadsRow : OpenClaim := { program := "ytblbaohcelldpaagreatdoor", sum := "119d8a27aa7cf394573996b2825701b0da6a8f2ce55ebc1c183612cb5f4c1c22", func := "turnout/turnoutlaw09.ProtoReads", spec := "protoReads", unfollowed := true, recurses := true, named := ["turnout/proto.has"], apart := false, laid := [("turnout/proto.has", laid_turnout_proto_has)] }
def ProtoReadsSaid : Prop := protoReadsRow.holds Tryz.pinned (OpenSpec.ofChange protoReadsSpec)

/-- ITS FALSE NEIGHBOUR: 'it returns false'. Refute it at one input. -/
def protoReadsWrong : ChangeSpec := { name := "protoReads", fn := fun _ => fun
  | [d] => { results := [.lit (.bool false)], args := [d] }
  | _ => none }
def ProtoReadsWrongFalsely : Prop := protoReadsRow.holds Tryz.pinned (OpenSpec.ofChange protoReadsWrong)

/-- 'turnoutlaw09.ProtoElse': WHATEVER THE INPUT: true; the input reads as it did. -/
def protoElseSpec : ChangeSpec := { name := "protoElse", fn := fun _ => fun
  | [d1, d2] => { results := [.lit (.bool true)], args := [d1, d2] }
  | _ => none }
def protoElseRow : OpenClaim := { program := "ytblbaohcelldpaagreatdoor", sum := "119d8a27aa7cf394573996b2825701b0da6a8f2ce55ebc1c183612cb5f4c1c22", func := "turnout/turnoutlaw09.ProtoElse", spec := "protoElse", unfollowed := true, recurses := true, named := ["turnout/proto.has"], apart := false, laid := [("turnout/proto.has", laid_turnout_proto_has)] }
def ProtoElseSaid : Prop := protoElseRow.holds Tryz.pinned (OpenSpec.ofChange protoElseSpec)

/-- ITS FALSE NEIGHBOUR: 'it returns false'. Refute it at one input. -/
def protoElseWrong : ChangeSpec := { name := "protoElse", fn := fun _ => fun
  | [d1, d2] => { results := [.lit (.bool false)], args := [d1, d2] }
  | _ => none }
def ProtoElseWrongFalsely : Prop := protoElseRow.holds Tryz.pinned (OpenSpec.ofChange protoElseWrong)

/-- 'turnoutlaw09.ProtoCut': WHATEVER THE INPUT: true; the input reads as it did. -/
def protoCutSpec : ChangeSpec := { name := "protoCut", fn := fun _ => fun
  | [d1, d2, d3, d4] => { results := [.lit (.bool true)], args := [d1, d2, d3, d4] }
  | _ => none }
def protoCutRow : OpenClaim := { program := "ytblbaohcelldpaagreatdoor", sum := "119d8a27aa7cf394573996b2825701b0da6a8f2ce55ebc1c183612cb5f4c1c22", func := "turnout/turnoutlaw09.ProtoCut", spec := "protoCut", unfollowed := true, recurses := true, named := ["turnout/proto.has"], apart := false, laid := [("turnout/proto.has", laid_turnout_proto_has)] }
def ProtoCutSaid : Prop := protoCutRow.holds Tryz.pinned (OpenSpec.ofChange protoCutSpec)

/-- ITS FALSE NEIGHBOUR: 'it returns false'. Refute it at one input. -/
def protoCutWrong : ChangeSpec := { name := "protoCut", fn := fun _ => fun
  | [d1, d2, d3, d4] => { results := [.lit (.bool false)], args := [d1, d2, d3, d4] }
  | _ => none }
def ProtoCutWrongFalsely : Prop := protoCutRow.holds Tryz.pinned (OpenSpec.ofChange protoCutWrong)

/-- 'turnoutlaw09.ProtoXid': WHATEVER THE INPUT: true; the input reads as it did. -/
def protoXidSpec : ChangeSpec := { name := "protoXid", fn := fun _ => fun
  | [d1, d2] => { results := [.lit (.bool true)], args := [d1, d2] }
  | _ => none }
def protoXidRow : OpenClaim := { program := "ytblbaohcelldpaagreatdoor", sum := "119d8a27aa7cf394573996b2825701b0da6a8f2ce55ebc1c183612cb5f4c1c22", func := "turnout/turnoutlaw09.ProtoXid", spec := "protoXid", unfollowed := true, recurses := true, named := ["turnout/proto.has"], apart := false, laid := [("turnout/proto.has", laid_turnout_proto_has)] }
def ProtoXidSaid : Prop := protoXidRow.holds Tryz.pinned (OpenSpec.ofChange protoXidSpec)

/-- ITS FALSE NEIGHBOUR: 'it returns false'. Refute it at one input. -/
def protoXidWrong : ChangeSpec := { name := "protoXid", fn := fun _ => fun
  | [d1, d2] => { results := [.lit (.bool false)], args := [d1, d2] }
  | _ => none }
def ProtoXidWrongFalsely : Prop := protoXidRow.holds Tryz.pinned (OpenSpec.ofChange protoXidWrong)

/-- 'turnoutlaw09.ProtoWrites': WHATEVER THE INPUT: true; the input reads as it did. -/
def protoWritesSpec : ChangeSpec := { name := "protoWrites", fn := fun _ => fun
  | [d1, d2, d3] => { results := [.lit (.bool true)], args := [d1, d2, d3] }
  | _ => none }
def protoWritesRow : OpenClaim := { program := "ytblbaohcelldpaagreatdoor", sum := "119d8a27aa7cf394573996b2825701b0da6a8f2ce55ebc1c183612cb5f4c1c22", func := "turnout/turnoutlaw09.ProtoWrites", spec := "protoWrites", unfollowed := true, recurses := true, named := ["turnout/proto.has"], apart := false, laid := [("turnout/proto.has", laid_turnout_proto_has)] }
def ProtoWritesSaid : Prop := protoWritesRow.holds Tryz.pinned (OpenSpec.ofChange protoWritesSpec)

/-- ITS FALSE NEIGHBOUR: 'it returns false'. Refute it at one input. -/
def protoWritesWrong : ChangeSpec := { name := "protoWrites", fn := fun _ => fun
  | [d1, d2, d3] => { results := [.lit (.bool false)], args := [d1, d2, d3] }
  | _ => none }
def ProtoWritesWrongFalsely : Prop := protoWritesRow.holds Tryz.pinned (OpenSpec.ofChange protoWritesWrong)

/-- 'turnoutlaw09.ProtoBack': WHATEVER THE INPUT: true; the input reads as it did. -/
def protoBackSpec : ChangeSpec := { name := "protoBack", fn := fun _ => fun
  | [d1, d2] => { results := [.lit (.bool true)], args := [d1, d2] }
  | _ => none }
def protoBackRow : OpenClaim := { program := "ytblbaohcelldpaagreatdoor", sum := "119d8a27aa7cf394573996b2825701b0da6a8f2ce55ebc1c183612cb5f4c1c22", func := "turnout/turnoutlaw09.ProtoBack", spec := "protoBack", unfollowed := true, recurses := true, named := ["turnout/proto.has"], apart := false, laid := [("turnout/proto.has", laid_turnout_proto_has)] }
def ProtoBackSaid : Prop := protoBackRow.holds Tryz.pinned (OpenSpec.ofChange protoBackSpec)

/-- ITS FALSE NEIGHBOUR: 'it returns false'. Refute it at one input. -/
def protoBackWrong : ChangeSpec := { name := "protoBack", fn := fun _ => fun
  | [d1, d2] => { results := [.lit (.bool false)], args := [d1, d2] }
  | _ => none }
def ProtoBackWrongFalsely : Prop := protoBackRow.holds Tryz.pinned (OpenSpec.ofChange protoBackWrong)

/-- 'turnoutlaw09.ProtoUnlike': WHATEVER THE INPUT: true; the input reads as it did. -/
def protoUnlikeSpec : ChangeSpec := { name := "protoUnlike", fn := fun _ => fun
  | [d1, d2] => { results := [.lit (.bool true)], args := [d1, d2] }
  | _ => none }
def protoUnlikeRow : OpenClaim := { program := "ytblbaohcelldpaagreatdoor", sum := "119d8a27aa7cf394573996b2825701b0da6a8f2ce55ebc1c183612cb5f4c1c22", func := "turnout/turnoutlaw09.ProtoUnlike", spec := "protoUnlike", unfollowed := true, recurses := true, named := ["turnout/proto.has"], apart := false, laid := [("turnout/proto.has", laid_turnout_proto_has)] }
def ProtoUnlikeSaid : Prop := protoUnlikeRow.holds Tryz.pinned (OpenSpec.ofChange protoUnlikeSpec)

/-- ITS FALSE NEIGHBOUR: 'it returns false'. Refute it at one input. -/
def protoUnlikeWrong : ChangeSpec := { name := "protoUnlike", fn := fun _ => fun
  | [d1, d2] => { results := [.lit (.bool false)], args := [d1, d2] }
  | _ => none }
def ProtoUnlikeWrongFalsely : Prop := protoUnlikeRow.holds Tryz.pinned (OpenSpec.ofChange protoUnlikeWrong)

/- THE SECOND FORM. 'bulk': how many values and letters a reading holds, each counted each time it is reached (what is shared counts as often as it is met; a slice's spare places count too). A statement '..UptoSaid' is the law's where the arguments, and the package variables that the reading takes, are together of bulk at most 1048576: NARROWER than '..Said'. Prove '..Said' where nothing that the law and all that it calls make is longer than what came in: it says more and counts as full. Else prove '..UptoSaid'. A law counts once. -/
mutual
def uptoBulk {H : Type} : DataW H → Nat
  | .lit (.string bytes) => bytes.length + 1
  | .lit _ => 1
  | .nil => 1
  | .ptr d => uptoBulk d + 1
  | .slice elems spare => uptoBulkAll elems + uptoBulkAll spare + 1
  | .agg parts => uptoBulkAll parts + 1
  | .iface _ d => uptoBulk d + 1
  | .map entries => uptoBulkEntries entries + 1
  | .held _ => 1
def uptoBulkAll {H : Type} : List (DataW H) → Nat
  | [] => 0
  | d :: r => uptoBulk d + uptoBulkAll r
def uptoBulkEntries {H : Type} : List (Lit × DataW H) → Nat
  | [] => 0
  | x :: r => uptoBulkEntry x + uptoBulkEntries r
def uptoBulkEntry {H : Type} : Lit × DataW H → Nat
  | (.string bytes, d) => bytes.length + uptoBulk d + 1
  | (_, d) => uptoBulk d + 1
 end
def uptoSmall : (H : Type) → List (DataW H) → Bool := fun _ ds => decide (uptoBulkAll ds ≤ 1048576)
def OpenSpec.upto (s : _root_.Go.ChangeSpec) : _root_.Go.OpenSpec := { _root_.Go.OpenSpec.ofChange s with cond := some uptoSmall }

/-- 'turnoutlaw09.ProtoNames', WHERE WHAT IT READS IS OF BULK AT MOST 1048576: true; the input reads as it did. -/
def protoNamesUptoRow : OpenClaim := { program := "ytblbaohcelldpaagreatdoor", sum := "119d8a27aa7cf394573996b2825701b0da6a8f2ce55ebc1c183612cb5f4c1c22", func := "turnout/turnoutlaw09.ProtoNames", spec := "protoNames", unfollowed := true, recurses := true, named := ["turnout/proto.has"], apart := false, laid := [("turnout/proto.has", laid_turnout_proto_has)], narrowed := true }
def ProtoNamesUptoSaid : Prop := protoNamesUptoRow.holds Tryz.pinned (OpenSpec.upto protoNamesSpec)

/-- 'turnoutlaw09.ProtoReads', WHERE WHAT IT READS IS OF BULK AT MOST 1048576: true; the input reads as it did. -/
def protoReadsUptoRow : OpenClaim := { program := "ytblbaohcelldpaagreatdoor", sum := "119d8a27aa7cf394573996b2825701b0da6a8f2ce55ebc1c183612cb5f4c1c22", func := "turnout/turnoutlaw09.ProtoReads", spec := "protoReads", unfollowed := true, recurses := true, named := ["turnout/proto.has"], apart := false, laid := [("turnout/proto.has", laid_turnout_proto_has)], narrowed := true }
def ProtoReadsUptoSaid : Prop := protoReadsUptoRow.holds Tryz.pinned (OpenSpec.upto protoReadsSpec)

/-- 'turnoutlaw09.ProtoElse', WHERE WHAT IT READS IS OF BULK AT MOST 1048576: true; the input reads as it did. -/
def protoElseUptoRow : OpenClaim := { program := "ytblbaohcelldpaagreatdoor", sum := "119d8a27aa7cf394573996b2825701b0da6a8f2ce55ebc1c183612cb5f4c1c22", func := "turnout/turnoutlaw09.ProtoElse", spec := "protoElse", unfollowed := true, recurses := true, named := ["turnout/proto.has"], apart := false, laid := [("turnout/proto.has", laid_turnout_proto_has)], narrowed := true }
def ProtoElseUptoSaid : Prop := protoElseUptoRow.holds Tryz.pinned (OpenSpec.upto protoElseSpec)

/-- 'turnoutlaw09.ProtoCut', WHERE WHAT IT READS IS OF BULK AT MOST 1048576: true; the input reads as it did. -/
def protoCutUptoRow : OpenClaim := { program := "ytblbaohcelldpaagreatdoor", sum := "119d8a27aa7cf394573996b2825701b0da6a8f2ce55ebc1c183612cb5f4c1c22", func := "turnout/turnoutlaw09.ProtoCut", spec := "protoCut", unfollowed := true, recurses := true, named := ["turnout/proto.has"], apart := false, laid := [("turnout/proto.has", laid_turnout_proto_has)], narrowed := true }
def ProtoCutUptoSaid : Prop := protoCutUptoRow.holds Tryz.pinned (OpenSpec.upto protoCutSpec)

/-- 'turnoutlaw09.ProtoXid', WHERE WHAT IT READS IS OF BULK AT MOST 1048576: true; the input reads as it did. -/
def protoXidUptoRow : OpenClaim := { program := "ytblbaohcelldpaagreatdoor", sum := "119d8a27aa7cf394573996b2825701b0da6a8f2ce55ebc1c183612cb5f4c1c22", func := "turnout/turnoutlaw09.ProtoXid", spec := "protoXid", unfollowed := true, recurses := true, named := ["turnout/proto.has"], apart := false, laid := [("turnout/proto.has", laid_turnout_proto_has)], narrowed := true }
def ProtoXidUptoSaid : Prop := protoXidUptoRow.holds Tryz.pinned (OpenSpec.upto protoXidSpec)

/-- 'turnoutlaw09.ProtoWrites', WHERE WHAT IT READS IS OF BULK AT MOST 1048576: true; the input reads as it did. -/
def protoWritesUptoRow : OpenClaim := { program := "ytblbaohcelldpaagreatdoor", sum := "119d8a27aa7cf394573996b2825701b0da6a8f2ce55ebc1c183612cb5f4c1c22", func := "turnout/turnoutlaw09.ProtoWrites", spec := "protoWrites", unfollowed := true, recurses := true, named := ["turnout/proto.has"], apart := false, laid := [("turnout/proto.has", laid_turnout_proto_has)], narrowed := true }
def ProtoWritesUptoSaid : Prop := protoWritesUptoRow.holds Tryz.pinned (OpenSpec.upto protoWritesSpec)

/-- 'turnoutlaw09.ProtoBack', WHERE WHAT IT READS IS OF BULK AT MOST 1048576: true; the input reads as it did. -/
def protoBackUptoRow : OpenClaim := { program := "ytblbaohcelldpaagreatdoor", sum := "119d8a27aa7cf394573996b2825701b0da6a8f2ce55ebc1c183612cb5f4c1c22", func := "turnout/turnoutlaw09.ProtoBack", spec := "protoBack", unfollowed := true, recurses := true, named := ["turnout/proto.has"], apart := false, laid := [("turnout/proto.has", laid_turnout_proto_has)], narrowed := true }
def ProtoBackUptoSaid : Prop := protoBackUptoRow.holds Tryz.pinned (OpenSpec.upto protoBackSpec)

/-- 'turnoutlaw09.ProtoUnlike', WHERE WHAT IT READS IS OF BULK AT MOST 1048576: true; the input reads as it did. -/
def protoUnlikeUptoRow : OpenClaim := { program := "ytblbaohcelldpaagreatdoor", sum := "119d8a27aa7cf394573996b2825701b0da6a8f2ce55ebc1c183612cb5f4c1c22", func := "turnout/turnoutlaw09.ProtoUnlike", spec := "protoUnlike", unfollowed := true, recurses := true, named := ["turnout/proto.has"], apart := false, laid := [("turnout/proto.has", laid_turnout_proto_has)], narrowed := true }
def ProtoUnlikeUptoSaid : Prop := protoUnlikeUptoRow.holds Tryz.pinned (OpenSpec.upto protoUnlikeSpec)

end Rows
end Go.Proofs.YtblbaohcelldpaaGreatDoor
