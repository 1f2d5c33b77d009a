/-
  DERIVED. GIVEN WITH THE SEED: THE CARDS: each row of YtfhkbepjppcjmaaGreatDoorRows.lean that lists a variable, with what it lists TIED to the program's text (the seventh form; the later family's looks); each row that meets fmt, with fmt's text TOLD by the authors' own Lean function (tested against real Go, not proved from fmt's source: count such statements apart). THE CARD IS WHAT COUNTS. Prove the row's statement (the work); the ties are given (YtfhkbepjppcjmaaGreatDoorTie.lean); close each card by the builder's one call (the guide's Derived/Test/ToyasCard.lean, 'card_holds'). Laid BY PROGRAM, IN A SANDBOX (cutbox-door.mjs). By AI agents, Wed Nov 11 2026. No macro, syntax, notation, axiom, sorry.
-/
import Derived.Test.YtfhkbepjppcjmaaGreatDoorRows
import GoSem.ClaimSeven
namespace Go.Proofs.YtfhkbepjppcjmaaGreatDoor
namespace Rows

/-- THE TIED CARD OF 'turnoutlaw26.ConfigNames'. -/
def configNamesCard : Claim7 := { stood := { row := configNamesRow, standIns := [], harness := (true, "1e264bf86d0ad1939f1ccf7ce6c3198c7bae8989a3f369401e2424ba5c52e4a7"), looks := true }, kinds := [], alts := [], laidByText := true, laidKinds := [.handle], laidTests := true, laidLooks := .later }
def ConfigNamesCardSaid : Prop := Claim7.holds Tryz.pinned (.plain (OpenSpec.ofChange configNamesSpec)) configNamesCard

/-- THE TIED CARD OF 'turnoutlaw27.TxnNames'. -/
def txnNamesCard : Claim7 := { stood := { row := txnNamesRow, standIns := [], harness := (true, "1e264bf86d0ad1939f1ccf7ce6c3198c7bae8989a3f369401e2424ba5c52e4a7"), looks := true }, kinds := [], alts := [], laidByText := true, laidKinds := [.handle], laidTests := true, laidLooks := .later }
def TxnNamesCardSaid : Prop := Claim7.holds Tryz.pinned (.plain (OpenSpec.ofChange txnNamesSpec)) txnNamesCard

/-- THE SECOND FORM's CARD OF 'turnoutlaw26.ConfigNames'. -/
def configNamesUptoCard : Claim7 := { stood := { row := configNamesUptoRow, standIns := [], harness := (true, "1e264bf86d0ad1939f1ccf7ce6c3198c7bae8989a3f369401e2424ba5c52e4a7"), looks := true }, kinds := [], alts := [], laidByText := true, laidKinds := [.handle], laidTests := true, laidLooks := .later }
def ConfigNamesUptoCardSaid : Prop := Claim7.holds Tryz.pinned (.plain (OpenSpec.upto configNamesSpec)) configNamesUptoCard

/-- THE SECOND FORM's CARD OF 'turnoutlaw27.TxnNames'. -/
def txnNamesUptoCard : Claim7 := { stood := { row := txnNamesUptoRow, standIns := [], harness := (true, "1e264bf86d0ad1939f1ccf7ce6c3198c7bae8989a3f369401e2424ba5c52e4a7"), looks := true }, kinds := [], alts := [], laidByText := true, laidKinds := [.handle], laidTests := true, laidLooks := .later }
def TxnNamesUptoCardSaid : Prop := Claim7.holds Tryz.pinned (.plain (OpenSpec.upto txnNamesSpec)) txnNamesUptoCard
end Rows
end Go.Proofs.YtfhkbepjppcjmaaGreatDoor
