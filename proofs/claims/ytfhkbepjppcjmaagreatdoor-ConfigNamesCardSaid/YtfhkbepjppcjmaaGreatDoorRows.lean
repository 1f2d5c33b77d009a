/-
  NARROWER THAN 'FOR EVERY INPUT', by the rows' own cells (each row's printed sentence says how): ConfigNames: laid · TxnNames: laid.
  DERIVED. THE GIVEN ROWS OF THIS SEAT. 2 by the template 'for every input the law returns true; each argument reads behind the call as it read before'; 0 by the template 'total and deterministic' (their statements: YtfhkbepjppcjmaaGreatDoorTotals.lean).
  GIVEN WITH THE SEED: the statements are not yours to turn. If you find one false, say at which input.
  Laid BY PROGRAM, IN A SANDBOX (cutbox-rows.mjs): the forced cells as the released guide's own fill.sh prints them over the translation e0404209cfeb08f3… (all of the seat's roots in one cut). By AI agents, Wed Nov 11 2026. No macro, syntax, notation, axiom, sorry.
-/
import Derived.Test.YtfhkbepjppcjmaaGreatDoorChecked
import GoSem.Claim
import GoSem.ClaimJoined
import GoSem.ClaimMapViews
import Derived.JoinedTies
import Derived.KernelRfl
namespace Go.Proofs.YtfhkbepjppcjmaaGreatDoor
/- THE CELL 'sum', in the pinned program and in every row, IS THE sha256 OF THE DUMP (.gsa) THAT YtfhkbepjppcjmaaGreatDoorProg.lean LOADS. Nothing in Lean hashes anything: it is a label: what it is worth is what the hold of that sum in a sandbox is worth. -/
noncomputable def Tryz.pinned : Pinned := { name := "ytfhkbepjppcjmaagreatdoor", sum := "e0404209cfeb08f3290ed4b62307ad110ec019d44d8f54bbe387c23a9dd63387", checked := Tryz.checked }
namespace Rows
def none {H : Type} : Left H := { results := [], args := [] }

/- WHAT THE LISTED PACKAGE-LEVEL VARIABLES READ AS WHEN THE CALL BEGINS. Each datum BY PROGRAM (the guide's laid-datum.mjs) off the statement by which the dump's own 'gosem.cut.vars' lays the variable. In a bare row this is a premise. The card (YtfhkbepjppcjmaaGreatDoorCards.lean) ties it to the program's text. -/
def laid_errors_errorType {H : Type} : DataW H := .iface "internal/reflectlite.rtype" (.agg [.ptr (.lit (.string [101, 114, 114, 111, 114]))])

/-- 'turnoutlaw26.ConfigNames': WHATEVER THE INPUT: true; the input reads as it did. -/
def configNamesSpec : ChangeSpec := { name := "configNames", fn := fun _ => fun
  | [] => { results := [.lit (.bool true)], args := [] }
  | _ => none }
def configNamesRow : OpenClaim := { program := "ytfhkbepjppcjmaagreatdoor", sum := "e0404209cfeb08f3290ed4b62307ad110ec019d44d8f54bbe387c23a9dd63387", func := "turnout/turnoutlaw26.ConfigNames", spec := "configNames", inPlace := ["slices.overlaps[turnout/api.Node]", "slices.overlaps[turnout/api.Field]", "slices.overlaps[turnout/api.Table]", "slices.overlaps[turnout/api.Entry]", "slices.overlaps[turnout/api.Block]", "math.Float64frombits", "math.Float64bits", "slices.overlaps[turnout/api.Group]", "slices.overlaps[turnout/api.Meter]", "slices.overlaps[turnout/api.Regs]", "slices.overlaps[int]", "internal/reflectlite.ValueOf", "(internal/reflectlite.Value).Type", "(internal/reflectlite.Value).IsNil", "internal/reflectlite.TypeOf", "(internal/reflectlite.Value).Elem", "(internal/reflectlite.Value).Set"], unfollowed := true, recurses := true, named := ["errors.errorType"], plainKeys := false, apart := false, laid := [("errors.errorType", laid_errors_errorType)] }
def ConfigNamesSaid : Prop := configNamesRow.holds Tryz.pinned (OpenSpec.ofChange configNamesSpec)

/-- ITS FALSE NEIGHBOUR: 'it returns false'. Refute it at one input. -/
def configNamesWrong : ChangeSpec := { name := "configNames", fn := fun _ => fun
  | [] => { results := [.lit (.bool false)], args := [] }
  | _ => none }
def ConfigNamesWrongFalsely : Prop := configNamesRow.holds Tryz.pinned (OpenSpec.ofChange configNamesWrong)

/-- 'turnoutlaw27.TxnNames': WHATEVER THE INPUT: true; the input reads as it did. -/
def txnNamesSpec : ChangeSpec := { name := "txnNames", fn := fun _ => fun
  | [] => { results := [.lit (.bool true)], args := [] }
  | _ => none }
def txnNamesRow : OpenClaim := { program := "ytfhkbepjppcjmaagreatdoor", sum := "e0404209cfeb08f3290ed4b62307ad110ec019d44d8f54bbe387c23a9dd63387", func := "turnout/turnoutlaw27.TxnNames", spec := "txnNames", inPlace := ["slices.overlaps[turnout/api.Node]", "slices.overlaps[turnout/api.Field]", "slices.overlaps[turnout/api.Table]", "slices.overlaps[turnout/api.Entry]", "slices.overlaps[turnout/api.Block]", "math.Float64frombits", "math.Float64bits", "slices.overlaps[turnout/api.Group]", "slices.overlaps[turnout/api.Meter]", "slices.overlaps[turnout/api.Regs]", "slices.overlaps[int]", "internal/reflectlite.ValueOf", "(internal/reflectlite.Value).Type", "(internal/reflectlite.Value).IsNil", "internal/reflectlite.TypeOf", "(internal/reflectlite.Value).Elem", "(internal/reflectlite.Value).Set"], unfollowed := true, recurses := true, named := ["errors.errorType"], plainKeys := false, apart := false, laid := [("errors.errorType", laid_errors_errorType)] }
def TxnNamesSaid : Prop := txnNamesRow.holds Tryz.pinned (OpenSpec.ofChange txnNamesSpec)

/-- ITS FALSE NEIGHBOUR: 'it returns false'. Refute it at one input. -/
def txnNamesWrong : ChangeSpec := { name := "txnNames", fn := fun _ => fun
  | [] => { results := [.lit (.bool false)], args := [] }
  | _ => none }
def TxnNamesWrongFalsely : Prop := txnNamesRow.holds Tryz.pinned (OpenSpec.ofChange txnNamesWrong)

/- THE SECOND FORM. 'bulk': how many values and letters a reading holds, each counted each time it is reached (what is shared counts as often as it is met; a slice's spare places count too). A statement '..UptoSaid' is the law's where the arguments, and the package variables that the reading takes, are together of bulk at most 1048576: NARROWER than '..Said'. Prove '..Said' where nothing that the law and all that it calls make is longer than what came in: it says more and counts as full. Else prove '..UptoSaid'. A law counts once. -/
mutual
def uptoBulk {H : Type} : DataW H → Nat
  | .lit (.string bytes) => bytes.length + 1
  | .lit _ => 1
  | .nil => 1
  | .ptr d => uptoBulk d + 1
  | .slice elems spare => uptoBulkAll elems + uptoBulkAll spare + 1
  | .agg parts => uptoBulkAll parts + 1
  | .iface _ d => uptoBulk d + 1
  | .map entries => uptoBulkEntries entries + 1
  | .held _ => 1
def uptoBulkAll {H : Type} : List (DataW H) → Nat
  | [] => 0
  | d :: r => uptoBulk d + uptoBulkAll r
def uptoBulkEntries {H : Type} : List (Lit × DataW H) → Nat
  | [] => 0
  | x :: r => uptoBulkEntry x + uptoBulkEntries r
def uptoBulkEntry {H : Type} : Lit × DataW H → Nat
  | (.string bytes, d) => bytes.length + uptoBulk d + 1
  | (_, d) => uptoBulk d + 1
 end
def uptoSmall : (H : Type) → List (DataW H) → Bool := fun _ ds => decide (uptoBulkAll ds ≤ 1048576)
def OpenSpec.upto (s : _root_.Go.ChangeSpec) : _root_.Go.OpenSpec := { _root_.Go.OpenSpec.ofChange s with cond := some uptoSmall }

/-- 'turnoutlaw26.ConfigNames', WHERE WHAT IT READS IS OF BULK AT MOST 1048576: true; the input reads as it did. -/
def configNamesUptoRow : OpenClaim := { program := "ytfhkbepjppcjmaagreatdoor", sum := "e0404209cfeb08f3290ed4b62307ad110ec019d44d8f54bbe387c23a9dd63387", func := "turnout/turnoutlaw26.ConfigNames", spec := "configNames", inPlace := ["slices.overlaps[turnout/api.Node]", "slices.overlaps[turnout/api.Field]", "slices.overlaps[turnout/api.Table]", "slices.overlaps[turnout/api.Entry]", "slices.overlaps[turnout/api.Block]", "math.Float64frombits", "math.Float64bits", "slices.overlaps[turnout/api.Group]", "slices.overlaps[turnout/api.Meter]", "slices.overlaps[turnout/api.Regs]", "slices.overlaps[int]", "internal/reflectlite.ValueOf", "(internal/reflectlite.Value).Type", "(internal/reflectlite.Value).IsNil", "internal/reflectlite.TypeOf", "(internal/reflectlite.Value).Elem", "(internal/reflectlite.Value).Set"], unfollowed := true, recurses := true, named := ["errors.errorType"], plainKeys := false, apart := false, laid := [("errors.errorType", laid_errors_errorType)], narrowed := true }
def ConfigNamesUptoSaid : Prop := configNamesUptoRow.holds Tryz.pinned (OpenSpec.upto configNamesSpec)

/-- 'turnoutlaw27.TxnNames', WHERE WHAT IT READS IS OF BULK AT MOST 1048576: true; the input reads as it did. -/
def txnNamesUptoRow : OpenClaim := { program := "ytfhkbepjppcjmaagreatdoor", sum := "e0404209cfeb08f3290ed4b62307ad110ec019d44d8f54bbe387c23a9dd63387", func := "turnout/turnoutlaw27.TxnNames", spec := "txnNames", inPlace := ["slices.overlaps[turnout/api.Node]", "slices.overlaps[turnout/api.Field]", "slices.overlaps[turnout/api.Table]", "slices.overlaps[turnout/api.Entry]", "slices.overlaps[turnout/api.Block]", "math.Float64frombits", "math.Float64bits", "slices.overlaps[turnout/api.Group]", "slices.overlaps[turnout/api.Meter]", "slices.overlaps[turnout/api.Regs]", "slices.overlaps[int]", "internal/reflectlite.ValueOf", "(internal/reflectlite.Value).Type", "(internal/reflectlite.Value).IsNil", "internal/reflectlite.TypeOf", "(internal/reflectlite.Value).Elem", "(internal/reflectlite.Value).Set"], unfollowed := true, recurses := true, named := ["errors.errorType"], plainKeys := false, apart := false, laid := [("errors.errorType", laid_errors_errorType)], narrowed := true }
def TxnNamesUptoSaid : Prop := txnNamesUptoRow.holds Tryz.pinned (OpenSpec.upto txnNamesSpec)

end Rows
end Go.Proofs.YtfhkbepjppcjmaaGreatDoor
