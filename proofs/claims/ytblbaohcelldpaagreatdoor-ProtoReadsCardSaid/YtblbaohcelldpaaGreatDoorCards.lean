/-
  DERIVED. GIVEN WITH THE SEED: THE CARDS: each row of YtblbaohcelldpaaGreatDoorRows.lean that lists a variable, with what it lists TIED to the program's text (the seventh form; the later family's looks); each row that meets fmt, with fmt's text TOLD by the authors' own Lean function (tested against real Go, not proved from fmt's source: count such statements apart). THE CARD IS WHAT COUNTS. Prove the row's statement (the work); the ties are given (YtblbaohcelldpaaGreatDoorTie.lean); close each card by the builder's one call (the guide's Derived/Test/ToyasCard.lean, 'card_holds'). Laid BY PROGRAM, IN A SANDBOX (cutbox-door.mjs). By AI agents, Wed Nov 11 2026. No macro, syntax, notation, axiom, sorry.
-/
import Derived.Test.YtblbaohcelldpaaGreatDoorRows
import GoSem.ClaimSeven
namespace Go.Proofs.YtblbaohcelldpaaGreatDoor
namespace Rows

/-- THE TIED CARD OF 'turnoutlaw09.ProtoNames'. -/
def protoNamesCard : Claim7 := { stood := { row := protoNamesRow, standIns := [], harness := (true, "63031e9e2f8e1559d0a925d4ca1cc52d889f78a691705bf1a67832fc13277117"), looks := true }, kinds := [], alts := [], laidByText := true, laidKinds := [.data], laidTests := true, laidLooks := .later }
def ProtoNamesCardSaid : Prop := Claim7.holds Tryz.pinned (.plain (OpenSpec.ofChange protoNamesSpec)) protoNamesCard

/-- THE TIED CARD OF 'turnoutlaw09.ProtoReads'. -/
def protoReadsCard : Claim7 := { stood := { row := protoReadsRow, standIns := [], harness := (true, "63031e9e2f8e1559d0a925d4ca1cc52d889f78a691705bf1a67832fc13277117"), looks := true }, kinds := [], alts := [], laidByText := true, laidKinds := [.data], laidTests := true, laidLooks := .later }
def ProtoReadsCardSaid : Prop := Claim7.holds Tryz.pinned (.plain (OpenSpec.ofChange protoReadsSpec)) protoReadsCard

/-- THE TIED CARD OF 'turnoutlaw09.ProtoElse'. -/
def protoElseCard : Claim7 := { stood := { row := protoElseRow, standIns := [], harness := (true, "63031e9e2f8e1559d0a925d4ca1cc52d889f78a691705bf1a67832fc13277117"), looks := true }, kinds := [], alts := [], laidByText := true, laidKinds := [.data], laidTests := true, laidLooks := .later }
def ProtoElseCardSaid : Prop := Claim7.holds Tryz.pinned (.plain (OpenSpec.ofChange protoElseSpec)) protoElseCard

/-- THE TIED CARD OF 'turnoutlaw09.ProtoCut'. -/
def protoCutCard : Claim7 := { stood := { row := protoCutRow, standIns := [], harness := (true, "63031e9e2f8e1559d0a925d4ca1cc52d889f78a691705bf1a67832fc13277117"), looks := true }, kinds := [], alts := [], laidByText := true, laidKinds := [.data], laidTests := true, laidLooks := .later }
def ProtoCutCardSaid : Prop := Claim7.holds Tryz.pinned (.plain (OpenSpec.ofChange protoCutSpec)) protoCutCard

/-- THE TIED CARD OF 'turnoutlaw09.ProtoXid'. -/
def protoXidCard : Claim7 := { stood := { row := protoXidRow, standIns := [], harness := (true, "63031e9e2f8e1559d0a925d4ca1cc52d889f78a691705bf1a67832fc13277117"), looks := true }, kinds := [], alts := [], laidByText := true, laidKinds := [.data], laidTests := true, laidLooks := .later }
def ProtoXidCardSaid : Prop := Claim7.holds Tryz.pinned (.plain (OpenSpec.ofChange protoXidSpec)) protoXidCard

/-- THE TIED CARD OF 'turnoutlaw09.ProtoWrites'. -/
def protoWritesCard : Claim7 := { stood := { row := protoWritesRow, standIns := [], harness := (true, "63031e9e2f8e1559d0a925d4ca1cc52d889f78a691705bf1a67832fc13277117"), looks := true }, kinds := [], alts := [], laidByText := true, laidKinds := [.data], laidTests := true, laidLooks := .later }
def ProtoWritesCardSaid : Prop := Claim7.holds Tryz.pinned (.plain (OpenSpec.ofChange protoWritesSpec)) protoWritesCard

/-- THE TIED CARD OF 'turnoutlaw09.ProtoBack'. -/
def protoBackCard : Claim7 := { stood := { row := protoBackRow, standIns := [], harness := (true, "63031e9e2f8e1559d0a925d4ca1cc52d889f78a691705bf1a67832fc13277117"), looks := true }, kinds := [], alts := [], laidByText := true, laidKinds := [.data], laidTests := true, laidLooks := .later }
def ProtoBackCardSaid : Prop := Claim7.holds Tryz.pinned (.plain (OpenSpec.ofChange protoBackSpec)) protoBackCard

/-- THE TIED CARD OF 'turnoutlaw09.ProtoUnlike'. -/
def protoUnlikeCard : Claim7 := { stood := { row := protoUnlikeRow, standIns := [], harness := (true, "63031e9e2f8e1559d0a925d4ca1cc52d889f78a691705bf1a67832fc13277117"), looks := true }, kinds := [], alts := [], laidByText := true, laidKinds := [.data], laidTests := true, laidLooks := .later }
def ProtoUnlikeCardSaid : Prop := Claim7.holds Tryz.pinned (.plain (OpenSpec.ofChange protoUnlikeSpec)) protoUnlikeCard

/-- THE SECOND FORM's CARD OF 'turnoutlaw09.ProtoNames'. -/
def protoNamesUptoCard : Claim7 := { stood := { row := protoNamesUptoRow, standIns := [], harness := (true, "63031e9e2f8e1559d0a925d4ca1cc52d889f78a691705bf1a67832fc13277117"), looks := true }, kinds := [], alts := [], laidByText := true, laidKinds := [.data], laidTests := true, laidLooks := .later }
def ProtoNamesUptoCardSaid : Prop := Claim7.holds Tryz.pinned (.plain (OpenSpec.upto protoNamesSpec)) protoNamesUptoCard

/-- THE SECOND FORM's CARD OF 'turnoutlaw09.ProtoReads'. -/
def protoReadsUptoCard : Claim7 := { stood := { row := protoReadsUptoRow, standIns := [], harness := (true, "63031e9e2f8e1559d0a925d4ca1cc52d889f78a691705bf1a67832fc13277117"), looks := true }, kinds := [], alts := [], laidByText := true, laidKinds := [.data], laidTests := true, laidLooks := .later }
def ProtoReadsUptoCardSaid : Prop := Claim7.holds Tryz.pinned (.plain (OpenSpec.upto protoReadsSpec)) protoReadsUptoCard

/-- THE SECOND FORM's CARD OF 'turnoutlaw09.ProtoElse'. -/
def protoElseUptoCard : Claim7 := { stood := { row := protoElseUptoRow, standIns := [], harness := (true, "63031e9e2f8e1559d0a925d4ca1cc52d889f78a691705bf1a67832fc13277117"), looks := true }, kinds := [], alts := [], laidByText := true, laidKinds := [.data], laidTests := true, laidLooks := .later }
def ProtoElseUptoCardSaid : Prop := Claim7.holds Tryz.pinned (.plain (OpenSpec.upto protoElseSpec)) protoElseUptoCard

/-- THE SECOND FORM's CARD OF 'turnoutlaw09.ProtoCut'. -/
def protoCutUptoCard : Claim7 := { stood := { row := protoCutUptoRow, standIns := [], harness := (true, "63031e9e2f8e1559d0a925d4ca1cc52d889f78a691705bf1a67832fc13277117"), looks := true }, kinds := [], alts := [], laidByText := true, laidKinds := [.data], laidTests := true, laidLooks := .later }
def ProtoCutUptoCardSaid : Prop := Claim7.holds Tryz.pinned (.plain (OpenSpec.upto protoCutSpec)) protoCutUptoCard

/-- THE SECOND FORM's CARD OF 'turnoutlaw09.ProtoXid'. -/
def protoXidUptoCard : Claim7 := { stood := { row := protoXidUptoRow, standIns := [], harness := (true, "63031e9e2f8e1559d0a925d4ca1cc52d889f78a691705bf1a67832fc13277117"), looks := true }, kinds := [], alts := [], laidByText := true, laidKinds := [.data], laidTests := true, laidLooks := .later }
def ProtoXidUptoCardSaid : Prop := Claim7.holds Tryz.pinned (.plain (OpenSpec.upto protoXidSpec)) protoXidUptoCard

/-- THE SECOND FORM's CARD OF 'turnoutlaw09.ProtoWrites'. -/
def protoWritesUptoCard : Claim7 := { stood := { row := protoWritesUptoRow, standIns := [], harness := (true, "63031e9e2f8e1559d0a925d4ca1cc52d889f78a691705bf1a67832fc13277117"), looks := true }, kinds := [], alts := [], laidByText := true, laidKinds := [.data], laidTests := true, laidLooks := .later }
def ProtoWritesUptoCardSaid : Prop := Claim7.holds Tryz.pinned (.plain (OpenSpec.upto protoWritesSpec)) protoWritesUptoCard

/-- THE SECOND FORM's CARD OF 'turnoutlaw09.ProtoBack'. -/
def protoBackUptoCard : Claim7 := { stood := { row := protoBackUptoRow, standIns := [], harness := (true, "63031e9e2f8e1559d0a925d4ca1cc52d889f78a691705bf1a67832fc13277117"), looks := true }, kinds := [], alts := [], laidByText := true, laidKinds := [.data], laidTests := true, laidLooks := .later }
def ProtoBackUptoCardSaid : Prop := Claim7.holds Tryz.pinned (.plain (OpenSpec.upto protoBackSpec)) protoBackUptoCard

/-- THE SECOND FORM's CARD OF 'turnoutlaw09.ProtoUnlike'. -/
def protoUnlikeUptoCard : Claim7 := { stood := { row := protoUnlikeUptoRow, standIns := [], harness := (true, "63031e9e2f8e1559d0a925d4ca1cc52d889f78a691705bf1a67832fc13277117"), looks := true }, kinds := [], alts := [], laidByText := true, laidKinds := [.data], laidTests := true, laidLooks := .later }
def ProtoUnlikeUptoCardSaid : Prop := Claim7.holds Tryz.pinned (.plain (OpenSpec.upto protoUnlikeSpec)) protoUnlikeUptoCard
end Rows
end Go.Proofs.YtblbaohcelldpaaGreatDoor
