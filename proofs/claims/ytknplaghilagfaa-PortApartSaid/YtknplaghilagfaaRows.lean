/-
  No cell of these rows narrows 'for every input' (looked for: loops, veiled, ifaces, maps, wideKeys, modest, calm, conditions, laid).
  DERIVED. THE GIVEN ROWS OF THIS SEAT. 5 by the template 'for every input the law returns true; each argument reads behind the call as it read before'; 0 by the template 'total and deterministic' (their statements: YtknplaghilagfaaTotals.lean).
  GIVEN WITH THE SEED: the statements are not yours to turn. If you find one false, say at which input.
  Laid BY PROGRAM, IN A SANDBOX (cutbox-rows.mjs): the forced cells as the released guide's own fill.sh prints them over the translation ad31299b11c550c8… (all of the seat's roots in one cut). By AI agents, Wed Nov 11 2026. No macro, syntax, notation, axiom, sorry.
-/
import Derived.Test.YtknplaghilagfaaChecked
import GoSem.Claim
import GoSem.ClaimJoined
import GoSem.ClaimMapViews
import Derived.JoinedTies
import Derived.KernelRfl
namespace Go.Proofs.Ytknplaghilagfaa
/- THE CELL 'sum', in the pinned program and in every row, IS THE sha256 OF THE DUMP (.gsa) THAT YtknplaghilagfaaProg.lean LOADS. Nothing in Lean hashes anything: it is a label: what it is worth is what the hold of that sum in a sandbox is worth. -/
noncomputable def Try.pinned : Pinned := { name := "ytknplaghilagfaa", sum := "ad31299b11c550c8858ef70c6bf845881ebdecd8c564f238f9df82eb58907420", checked := Try.checked }
namespace Rows
def none {H : Type} : Left H := { results := [], args := [] }

/-- 'turnoutlaw25.PortRow': WHATEVER THE INPUT: true; the input reads as it did. -/
def portRowSpec : ChangeSpec := { name := "portRow", fn := fun _ => fun
  | [d] => { results := [.lit (.bool true)], args := [d] }
  | _ => none }
def portRowRow : OpenClaim := { program := "ytknplaghilagfaa", sum := "ad31299b11c550c8858ef70c6bf845881ebdecd8c564f238f9df82eb58907420", func := "turnout/turnoutlaw25.PortRow", spec := "portRow", apart := false }
def PortRowSaid : Prop := portRowRow.holds Try.pinned (OpenSpec.ofChange portRowSpec)

/-- ITS FALSE NEIGHBOUR: 'it returns false'. Refute it at one input. -/
def portRowWrong : ChangeSpec := { name := "portRow", fn := fun _ => fun
  | [d] => { results := [.lit (.bool false)], args := [d] }
  | _ => none }
def PortRowWrongFalsely : Prop := portRowRow.holds Try.pinned (OpenSpec.ofChange portRowWrong)

/-- 'turnoutlaw25.PortEach': WHATEVER THE INPUT: true; the input reads as it did. -/
def portEachSpec : ChangeSpec := { name := "portEach", fn := fun _ => fun
  | [d1, d2] => { results := [.lit (.bool true)], args := [d1, d2] }
  | _ => none }
def portEachRow : OpenClaim := { program := "ytknplaghilagfaa", sum := "ad31299b11c550c8858ef70c6bf845881ebdecd8c564f238f9df82eb58907420", func := "turnout/turnoutlaw25.PortEach", spec := "portEach", apart := false }
def PortEachSaid : Prop := portEachRow.holds Try.pinned (OpenSpec.ofChange portEachSpec)

/-- ITS FALSE NEIGHBOUR: 'it returns false'. Refute it at one input. -/
def portEachWrong : ChangeSpec := { name := "portEach", fn := fun _ => fun
  | [d1, d2] => { results := [.lit (.bool false)], args := [d1, d2] }
  | _ => none }
def PortEachWrongFalsely : Prop := portEachRow.holds Try.pinned (OpenSpec.ofChange portEachWrong)

/-- 'turnoutlaw25.PortDown': WHATEVER THE INPUT: true; the input reads as it did. -/
def portDownSpec : ChangeSpec := { name := "portDown", fn := fun _ => fun
  | [d1, d2, d3] => { results := [.lit (.bool true)], args := [d1, d2, d3] }
  | _ => none }
def portDownRow : OpenClaim := { program := "ytknplaghilagfaa", sum := "ad31299b11c550c8858ef70c6bf845881ebdecd8c564f238f9df82eb58907420", func := "turnout/turnoutlaw25.PortDown", spec := "portDown", apart := false }
def PortDownSaid : Prop := portDownRow.holds Try.pinned (OpenSpec.ofChange portDownSpec)

/-- ITS FALSE NEIGHBOUR: 'it returns false'. Refute it at one input. -/
def portDownWrong : ChangeSpec := { name := "portDown", fn := fun _ => fun
  | [d1, d2, d3] => { results := [.lit (.bool false)], args := [d1, d2, d3] }
  | _ => none }
def PortDownWrongFalsely : Prop := portDownRow.holds Try.pinned (OpenSpec.ofChange portDownWrong)

/-- 'turnoutlaw25.PortNames': WHATEVER THE INPUT: true; the input reads as it did. -/
def portNamesSpec : ChangeSpec := { name := "portNames", fn := fun _ => fun
  | [] => { results := [.lit (.bool true)], args := [] }
  | _ => none }
def portNamesRow : OpenClaim := { program := "ytknplaghilagfaa", sum := "ad31299b11c550c8858ef70c6bf845881ebdecd8c564f238f9df82eb58907420", func := "turnout/turnoutlaw25.PortNames", spec := "portNames", apart := false }
def PortNamesSaid : Prop := portNamesRow.holds Try.pinned (OpenSpec.ofChange portNamesSpec)

/-- ITS FALSE NEIGHBOUR: 'it returns false'. Refute it at one input. -/
def portNamesWrong : ChangeSpec := { name := "portNames", fn := fun _ => fun
  | [] => { results := [.lit (.bool false)], args := [] }
  | _ => none }
def PortNamesWrongFalsely : Prop := portNamesRow.holds Try.pinned (OpenSpec.ofChange portNamesWrong)

/-- 'turnoutlaw25.PortApart': WHATEVER THE INPUT: true; the input reads as it did. -/
def portApartSpec : ChangeSpec := { name := "portApart", fn := fun _ => fun
  | [d1, d2] => { results := [.lit (.bool true)], args := [d1, d2] }
  | _ => none }
def portApartRow : OpenClaim := { program := "ytknplaghilagfaa", sum := "ad31299b11c550c8858ef70c6bf845881ebdecd8c564f238f9df82eb58907420", func := "turnout/turnoutlaw25.PortApart", spec := "portApart", apart := false }
def PortApartSaid : Prop := portApartRow.holds Try.pinned (OpenSpec.ofChange portApartSpec)

/-- ITS FALSE NEIGHBOUR: 'it returns false'. Refute it at one input. -/
def portApartWrong : ChangeSpec := { name := "portApart", fn := fun _ => fun
  | [d1, d2] => { results := [.lit (.bool false)], args := [d1, d2] }
  | _ => none }
def PortApartWrongFalsely : Prop := portApartRow.holds Try.pinned (OpenSpec.ofChange portApartWrong)

/- THE SECOND FORM. 'bulk': how many values and letters a reading holds, each counted each time it is reached (what is shared counts as often as it is met; a slice's spare places count too). A statement '..UptoSaid' is the law's where the arguments, and the package variables that the reading takes, are together of bulk at most 1048576: NARROWER than '..Said'. Prove '..Said' where nothing that the law and all that it calls make is longer than what came in: it says more and counts as full. Else prove '..UptoSaid'. A law counts once. -/
mutual
def uptoBulk {H : Type} : DataW H → Nat
  | .lit (.string bytes) => bytes.length + 1
  | .lit _ => 1
  | .nil => 1
  | .ptr d => uptoBulk d + 1
  | .slice elems spare => uptoBulkAll elems + uptoBulkAll spare + 1
  | .agg parts => uptoBulkAll parts + 1
  | .iface _ d => uptoBulk d + 1
  | .map entries => uptoBulkEntries entries + 1
  | .held _ => 1
def uptoBulkAll {H : Type} : List (DataW H) → Nat
  | [] => 0
  | d :: r => uptoBulk d + uptoBulkAll r
def uptoBulkEntries {H : Type} : List (Lit × DataW H) → Nat
  | [] => 0
  | x :: r => uptoBulkEntry x + uptoBulkEntries r
def uptoBulkEntry {H : Type} : Lit × DataW H → Nat
  | (.string bytes, d) => bytes.length + uptoBulk d + 1
  | (_, d) => uptoBulk d + 1
 end
def uptoSmall : (H : Type) → List (DataW H) → Bool := fun _ ds => decide (uptoBulkAll ds ≤ 1048576)
def OpenSpec.upto (s : _root_.Go.ChangeSpec) : _root_.Go.OpenSpec := { _root_.Go.OpenSpec.ofChange s with cond := some uptoSmall }

/-- 'turnoutlaw25.PortRow', WHERE WHAT IT READS IS OF BULK AT MOST 1048576: true; the input reads as it did. -/
def portRowUptoRow : OpenClaim := { program := "ytknplaghilagfaa", sum := "ad31299b11c550c8858ef70c6bf845881ebdecd8c564f238f9df82eb58907420", func := "turnout/turnoutlaw25.PortRow", spec := "portRow", apart := false, narrowed := true }
def PortRowUptoSaid : Prop := portRowUptoRow.holds Try.pinned (OpenSpec.upto portRowSpec)

/-- 'turnoutlaw25.PortEach', WHERE WHAT IT READS IS OF BULK AT MOST 1048576: true; the input reads as it did. -/
def portEachUptoRow : OpenClaim := { program := "ytknplaghilagfaa", sum := "ad31299b11c550c8858ef70c6bf845881ebdecd8c564f238f9df82eb58907420", func := "turnout/turnoutlaw25.PortEach", spec := "portEach", apart := false, narrowed := true }
def PortEachUptoSaid : Prop := portEachUptoRow.holds Try.pinned (OpenSpec.upto portEachSpec)

/-- 'turnoutlaw25.PortDown', WHERE WHAT IT READS IS OF BULK AT MOST 1048576: true; the input reads as it did. -/
def portDownUptoRow : OpenClaim := { program := "ytknplaghilagfaa", sum := "ad31299b11c550c8858ef70c6bf845881ebdecd8c564f238f9df82eb58907420", func := "turnout/turnoutlaw25.PortDown", spec := "portDown", apart := false, narrowed := true }
def PortDownUptoSaid : Prop := portDownUptoRow.holds Try.pinned (OpenSpec.upto portDownSpec)

/-- 'turnoutlaw25.PortNames', WHERE WHAT IT READS IS OF BULK AT MOST 1048576: true; the input reads as it did. -/
def portNamesUptoRow : OpenClaim := { program := "ytknplaghilagfaa", sum := "ad31299b11c550c8858ef70c6bf845881ebdecd8c564f238f9df82eb58907420", func := "turnout/turnoutlaw25.PortNames", spec := "portNames", apart := false, narrowed := true }
def PortNamesUptoSaid : Prop := portNamesUptoRow.holds Try.pinned (OpenSpec.upto portNamesSpec)

/-- 'turnoutlaw25.PortApart', WHERE WHAT IT READS IS OF BULK AT MOST 1048576: true; the input reads as it did. -/
def portApartUptoRow : OpenClaim := { program := "ytknplaghilagfaa", sum := "ad31299b11c550c8858ef70c6bf845881ebdecd8c564f238f9df82eb58907420", func := "turnout/turnoutlaw25.PortApart", spec := "portApart", apart := false, narrowed := true }
def PortApartUptoSaid : Prop := portApartUptoRow.holds Try.pinned (OpenSpec.upto portApartSpec)

end Rows
end Go.Proofs.Ytknplaghilagfaa
