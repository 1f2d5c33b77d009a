/-
  No cell of these rows narrows 'for every input' (looked for: loops, veiled, ifaces, maps, wideKeys, modest, calm, conditions, laid).
  DERIVED. THE GIVEN ROWS OF THIS SEAT. 5 by the template 'for every input the law returns true; each argument reads behind the call as it read before'; 0 by the template 'total and deterministic' (their statements: YtblbaohcelldpaaGreatTotals.lean).
  GIVEN WITH THE SEED: the statements are not yours to turn. If you find one false, say at which input.
  Laid BY PROGRAM, IN A SANDBOX (cutbox-rows.mjs): the forced cells as the released guide's own fill.sh prints them over the translation 0fa69a7f44726a98… (all of the seat's roots in one cut). By AI agents, Wed Nov 11 2026. No macro, syntax, notation, axiom, sorry.
-/
import Derived.Test.YtblbaohcelldpaaGreatChecked
import GoSem.Claim
import GoSem.ClaimJoined
import GoSem.ClaimMapViews
import Derived.JoinedTies
import Derived.KernelRfl
namespace Go.Proofs.YtblbaohcelldpaaGreat
/- THE CELL 'sum', in the pinned program and in every row, IS THE sha256 OF THE DUMP (.gsa) THAT YtblbaohcelldpaaGreatProg.lean LOADS. Nothing in Lean hashes anything: it is a label: what it is worth is what the hold of that sum in a sandbox is worth. -/
noncomputable def Tryz.pinned : Pinned := { name := "ytblbaohcelldpaagreat", sum := "0fa69a7f44726a98b2e1d1beb4a9594ed09368e0ee0fd6396628789e56d767b8", checked := Tryz.checked }
namespace Rows
def none {H : Type} : Left H := { results := [], args := [] }

/-- 'turnoutlaw08.ObjPuts': WHATEVER THE INPUT: true; the input reads as it did. -/
def objPutsSpec : ChangeSpec := { name := "objPuts", fn := fun _ => fun
  | [d] => { results := [.lit (.bool true)], args := [d] }
  | _ => none }
def objPutsRow : OpenClaim := { program := "ytblbaohcelldpaagreat", sum := "0fa69a7f44726a98b2e1d1beb4a9594ed09368e0ee0fd6396628789e56d767b8", func := "turnout/turnoutlaw08.ObjPuts", spec := "objPuts", unfollowed := true, recurses := true, apart := false }
def ObjPutsSaid : Prop := objPutsRow.holds Tryz.pinned (OpenSpec.ofChange objPutsSpec)

/-- ITS FALSE NEIGHBOUR: 'it returns false'. Refute it at one input. -/
def objPutsWrong : ChangeSpec := { name := "objPuts", fn := fun _ => fun
  | [d] => { results := [.lit (.bool false)], args := [d] }
  | _ => none }
def ObjPutsWrongFalsely : Prop := objPutsRow.holds Tryz.pinned (OpenSpec.ofChange objPutsWrong)

/-- 'turnoutlaw08.ObjNames': WHATEVER THE INPUT: true; the input reads as it did. -/
def objNamesSpec : ChangeSpec := { name := "objNames", fn := fun _ => fun
  | [] => { results := [.lit (.bool true)], args := [] }
  | _ => none }
def objNamesRow : OpenClaim := { program := "ytblbaohcelldpaagreat", sum := "0fa69a7f44726a98b2e1d1beb4a9594ed09368e0ee0fd6396628789e56d767b8", func := "turnout/turnoutlaw08.ObjNames", spec := "objNames", unfollowed := true, recurses := true, apart := false }
def ObjNamesSaid : Prop := objNamesRow.holds Tryz.pinned (OpenSpec.ofChange objNamesSpec)

/-- ITS FALSE NEIGHBOUR: 'it returns false'. Refute it at one input. -/
def objNamesWrong : ChangeSpec := { name := "objNames", fn := fun _ => fun
  | [] => { results := [.lit (.bool false)], args := [] }
  | _ => none }
def ObjNamesWrongFalsely : Prop := objNamesRow.holds Tryz.pinned (OpenSpec.ofChange objNamesWrong)

/-- 'turnoutlaw08.ObjOne': WHATEVER THE INPUT: true; the input reads as it did. -/
def objOneSpec : ChangeSpec := { name := "objOne", fn := fun _ => fun
  | [d1, d2] => { results := [.lit (.bool true)], args := [d1, d2] }
  | _ => none }
def objOneRow : OpenClaim := { program := "ytblbaohcelldpaagreat", sum := "0fa69a7f44726a98b2e1d1beb4a9594ed09368e0ee0fd6396628789e56d767b8", func := "turnout/turnoutlaw08.ObjOne", spec := "objOne", unfollowed := true, recurses := true, apart := false }
def ObjOneSaid : Prop := objOneRow.holds Tryz.pinned (OpenSpec.ofChange objOneSpec)

/-- ITS FALSE NEIGHBOUR: 'it returns false'. Refute it at one input. -/
def objOneWrong : ChangeSpec := { name := "objOne", fn := fun _ => fun
  | [d1, d2] => { results := [.lit (.bool false)], args := [d1, d2] }
  | _ => none }
def ObjOneWrongFalsely : Prop := objOneRow.holds Tryz.pinned (OpenSpec.ofChange objOneWrong)

/-- 'turnoutlaw08.ObjNothing': WHATEVER THE INPUT: true; the input reads as it did. -/
def objNothingSpec : ChangeSpec := { name := "objNothing", fn := fun _ => fun
  | [d] => { results := [.lit (.bool true)], args := [d] }
  | _ => none }
def objNothingRow : OpenClaim := { program := "ytblbaohcelldpaagreat", sum := "0fa69a7f44726a98b2e1d1beb4a9594ed09368e0ee0fd6396628789e56d767b8", func := "turnout/turnoutlaw08.ObjNothing", spec := "objNothing", unfollowed := true, recurses := true, apart := false }
def ObjNothingSaid : Prop := objNothingRow.holds Tryz.pinned (OpenSpec.ofChange objNothingSpec)

/-- ITS FALSE NEIGHBOUR: 'it returns false'. Refute it at one input. -/
def objNothingWrong : ChangeSpec := { name := "objNothing", fn := fun _ => fun
  | [d] => { results := [.lit (.bool false)], args := [d] }
  | _ => none }
def ObjNothingWrongFalsely : Prop := objNothingRow.holds Tryz.pinned (OpenSpec.ofChange objNothingWrong)

/-- 'turnoutlaw08.ObjUnlike': WHATEVER THE INPUT: true; the input reads as it did. -/
def objUnlikeSpec : ChangeSpec := { name := "objUnlike", fn := fun _ => fun
  | [d1, d2, d3, d4] => { results := [.lit (.bool true)], args := [d1, d2, d3, d4] }
  | _ => none }
def objUnlikeRow : OpenClaim := { program := "ytblbaohcelldpaagreat", sum := "0fa69a7f44726a98b2e1d1beb4a9594ed09368e0ee0fd6396628789e56d767b8", func := "turnout/turnoutlaw08.ObjUnlike", spec := "objUnlike", unfollowed := true, recurses := true, apart := false }
def ObjUnlikeSaid : Prop := objUnlikeRow.holds Tryz.pinned (OpenSpec.ofChange objUnlikeSpec)

/-- ITS FALSE NEIGHBOUR: 'it returns false'. Refute it at one input. -/
def objUnlikeWrong : ChangeSpec := { name := "objUnlike", fn := fun _ => fun
  | [d1, d2, d3, d4] => { results := [.lit (.bool false)], args := [d1, d2, d3, d4] }
  | _ => none }
def ObjUnlikeWrongFalsely : Prop := objUnlikeRow.holds Tryz.pinned (OpenSpec.ofChange objUnlikeWrong)

/- THE SECOND FORM. 'bulk': how many values and letters a reading holds, each counted each time it is reached (what is shared counts as often as it is met; a slice's spare places count too). A statement '..UptoSaid' is the law's where the arguments, and the package variables that the reading takes, are together of bulk at most 1048576: NARROWER than '..Said'. Prove '..Said' where nothing that the law and all that it calls make is longer than what came in: it says more and counts as full. Else prove '..UptoSaid'. A law counts once. -/
mutual
def uptoBulk {H : Type} : DataW H → Nat
  | .lit (.string bytes) => bytes.length + 1
  | .lit _ => 1
  | .nil => 1
  | .ptr d => uptoBulk d + 1
  | .slice elems spare => uptoBulkAll elems + uptoBulkAll spare + 1
  | .agg parts => uptoBulkAll parts + 1
  | .iface _ d => uptoBulk d + 1
  | .map entries => uptoBulkEntries entries + 1
  | .held _ => 1
def uptoBulkAll {H : Type} : List (DataW H) → Nat
  | [] => 0
  | d :: r => uptoBulk d + uptoBulkAll r
def uptoBulkEntries {H : Type} : List (Lit × DataW H) → Nat
  | [] => 0
  | x :: r => uptoBulkEntry x + uptoBulkEntries r
def uptoBulkEntry {H : Type} : Lit × DataW H → Nat
  | (.string bytes, d) => bytes.length + uptoBulk d + 1
  | (_, d) => uptoBulk d + 1
 end
def uptoSmall : (H : Type) → List (DataW H) → Bool := fun _ ds => decide (uptoBulkAll ds ≤ 1048576)
def OpenSpec.upto (s : _root_.Go.ChangeSpec) : _root_.Go.OpenSpec := { _root_.Go.OpenSpec.ofChange s with cond := some uptoSmall }

/-- 'turnoutlaw08.ObjPuts', WHERE WHAT IT READS IS OF BULK AT MOST 1048576: true; the input reads as it did. -/
def objPutsUptoRow : OpenClaim := { program := "ytblbaohcelldpaagreat", sum := "0fa69a7f44726a98b2e1d1beb4a9594ed09368e0ee0fd6396628789e56d767b8", func := "turnout/turnoutlaw08.ObjPuts", spec := "objPuts", unfollowed := true, recurses := true, apart := false, narrowed := true }
def ObjPutsUptoSaid : Prop := objPutsUptoRow.holds Tryz.pinned (OpenSpec.upto objPutsSpec)

/-- 'turnoutlaw08.ObjNames', WHERE WHAT IT READS IS OF BULK AT MOST 1048576: true; the input reads as it did. -/
def objNamesUptoRow : OpenClaim := { program := "ytblbaohcelldpaagreat", sum := "0fa69a7f44726a98b2e1d1beb4a9594ed09368e0ee0fd6396628789e56d767b8", func := "turnout/turnoutlaw08.ObjNames", spec := "objNames", unfollowed := true, recurses := true, apart := false, narrowed := true }
def ObjNamesUptoSaid : Prop := objNamesUptoRow.holds Tryz.pinned (OpenSpec.upto objNamesSpec)

/-- 'turnoutlaw08.ObjOne', WHERE WHAT IT READS IS OF BULK AT MOST 1048576: true; the input reads as it did. -/
def objOneUptoRow : OpenClaim := { program := "ytblbaohcelldpaagreat", sum := "0fa69a7f44726a98b2e1d1beb4a9594ed09368e0ee0fd6396628789e56d767b8", func := "turnout/turnoutlaw08.ObjOne", spec := "objOne", unfollowed := true, recurses := true, apart := false, narrowed := true }
def ObjOneUptoSaid : Prop := objOneUptoRow.holds Tryz.pinned (OpenSpec.upto objOneSpec)

/-- 'turnoutlaw08.ObjNothing', WHERE WHAT IT READS IS OF BULK AT MOST 1048576: true; the input reads as it did. -/
def objNothingUptoRow : OpenClaim := { program := "ytblbaohcelldpaagreat", sum := "0fa69a7f44726a98b2e1d1beb4a9594ed09368e0ee0fd6396628789e56d767b8", func := "turnout/turnoutlaw08.ObjNothing", spec := "objNothing", unfollowed := true, recurses := true, apart := false, narrowed := true }
def ObjNothingUptoSaid : Prop := objNothingUptoRow.holds Tryz.pinned (OpenSpec.upto objNothingSpec)

/-- 'turnoutlaw08.ObjUnlike', WHERE WHAT IT READS IS OF BULK AT MOST 1048576: true; the input reads as it did. -/
def objUnlikeUptoRow : OpenClaim := { program := "ytblbaohcelldpaagreat", sum := "0fa69a7f44726a98b2e1d1beb4a9594ed09368e0ee0fd6396628789e56d767b8", func := "turnout/turnoutlaw08.ObjUnlike", spec := "objUnlike", unfollowed := true, recurses := true, apart := false, narrowed := true }
def ObjUnlikeUptoSaid : Prop := objUnlikeUptoRow.holds Tryz.pinned (OpenSpec.upto objUnlikeSpec)

end Rows
end Go.Proofs.YtblbaohcelldpaaGreat
