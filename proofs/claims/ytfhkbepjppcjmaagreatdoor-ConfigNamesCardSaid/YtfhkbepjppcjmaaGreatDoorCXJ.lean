/- The closed facts that the row of ConfigNames asks of the program, each alone. -/
import Derived.Test.YtfhkbepjppcjmaaGreatDoorRows
import Derived.JoinedOf
import Derived.WalkKit
import Derived.SevenTiedAt
namespace Go.Proofs.YtfhkbepjppcjmaaGreatDoor.configNames
open Go
set_option maxRecDepth 100000
noncomputable section
abbrev jP : Program := Tryz.pinned.checked.prog
abbrev jc : OpenClaim := Rows.configNamesRow
abbrev js : ChangeSpec := Rows.configNamesSpec
theorem j0 : ((jc.wf (OpenSpec.ofChange js)) : Bool) = true := by kernel_rfl
theorem j1 : ((laidOutB jP) : Bool) = true := by kernel_rfl
theorem j2 : ((mapsRowed jP) : Bool) = true := by kernel_rfl
theorem j3 : ((Tryz.f3.params.all (jP.readableRec ·)) : Bool) = true := by kernel_rfl
theorem j4 : ((namedTie jP jc.named js.vars) : Bool) = true := by kernel_rfl
theorem j5 : ((jc.stops == []) : Bool) = true := by kernel_rfl
theorem j6 : ((jP.stops == []) : Bool) = true := by kernel_rfl
theorem j7 : ((jc.knobs == []) : Bool) = true := by kernel_rfl
theorem j8 : ((jP.stopKnobs == []) : Bool) = true := by kernel_rfl
theorem j9 : ((jc.inPlace == jP.inPlace 3) : Bool) = true := by kernel_rfl
theorem j10 : ((jc.unfollowed == jP.unfollowed 3) : Bool) = true := by kernel_rfl
theorem j11 : ((jc.recurses == jP.recurses 3) : Bool) = true := by kernel_rfl
theorem j12 : ((jc.named == jP.varsNamed 3) : Bool) = true := by kernel_rfl
theorem j13 : ((jc.maps == (Tryz.f3.params.toList ++ js.plain.varTypes jP).any (jP.mapsRec ·)) : Bool) = true := by kernel_rfl
theorem j14 : ((jc.ifaces == (Tryz.f3.params.toList ++ js.plain.varTypes jP).any (jP.ifacesRec ·)) : Bool) = true := by kernel_rfl
theorem j15 : ((jc.mapsOut == jP.mapsAmong Tryz.f3.resultTypes.toList) : Bool) = true := by kernel_rfl
theorem j16 : ((jc.loops == (Tryz.f3.params.toList ++ js.plain.varTypes jP).any (jP.loopsFrom ·)) : Bool) = true := by kernel_rfl
theorem j17 : ((jc.wideKeys == (Tryz.f3.params.toList ++ js.plain.varTypes jP ++ Tryz.f3.resultTypes.toList).any (jP.wideKeysFrom ·)) : Bool) = true := by kernel_rfl
theorem j18 : ((js.vars.all (jP.varReadable ·)) : Bool) = true := by kernel_rfl
theorem j19 : ((Tryz.f3.resultTypes.all (fun t => jP.readableRec t && decide (t < jP.types.size))) : Bool) = true := by kernel_rfl
theorem j20 : ((jc.ifacesOut == Tryz.f3.resultTypes.toList.any (jP.ifacesRec ·)) : Bool) = true := by kernel_rfl
theorem j21 : ((jc.loopsOut == Tryz.f3.resultTypes.toList.any (jP.loopsFrom ·)) : Bool) = true := by kernel_rfl
theorem j22 : ((jc.plainKeys == jP.plainKeys) : Bool) = true := by kernel_rfl
theorem j23 : ((jc.shortTexts.isNone) : Bool) = true := by kernel_rfl
theorem j24 : ((jP.stopsHeard) : Bool) = true := by kernel_rfl
theorem j25 : ((jP.mayEnter) : Bool) = true := by kernel_rfl
theorem j26 : ((jc.lifted == jP.liftsFinal) : Bool) = true := by kernel_rfl
theorem j27 : ((jP.make == some jc.make) : Bool) = true := by kernel_rfl
theorem j28 : ((jc.kinds == (if jc.domain.isEmpty then [] else Tryz.f3.params.toList.map fun t => match jP.underlying t with | some (.int k) => some k | _ => none)) : Bool) = true := by kernel_rfl
theorem j29 : ((jc.pinned == jc.pinnedBy) : Bool) = true := by kernel_rfl
theorem j30 : ((jc.veiled == (Tryz.f3.params.toList ++ js.plain.varTypes jP ++ Tryz.f3.resultTypes.toList).any (jP.veiledRec ·)) : Bool) = true := by kernel_rfl
theorem j31 : ((jc.veiledFits jP Tryz.f3.params.toList (Tryz.f3.params.toList ++ js.plain.varTypes jP ++ Tryz.f3.resultTypes.toList)) : Bool) = true := by kernel_rfl
theorem and2 {a b : Bool} (h : a = true) (h2 : b = true) : (a && b) = true := by rw [h, h2]; rfl
theorem joined : joinedFacts Tryz.pinned.checked.prog 3 Tryz.f3 Rows.configNamesSpec Rows.configNamesRow = true := (and2 (and2 (and2 (and2 (and2 (and2 (and2 (and2 (and2 (and2 (and2 (and2 (and2 (and2 (and2 (and2 (and2 (and2 (and2 (and2 (and2 (and2 (and2 (and2 (and2 (and2 (and2 (and2 (and2 (and2 (and2 j0 j1) j2) j3) j4) j5) j6) j7) j8) j9) j10) j11) j12) j13) j14) j15) j16) j17) j18) j19) j20) j21) j22) j23) j24) j25) j26) j27) j28) j29) j30) j31)
theorem jw : Rows.configNamesRow.wfByText (OpenSpec.ofChange Rows.configNamesSpec) = true := by kernel_rfl
theorem jm : Tryz.pinned.checked.prog.mainIs = some (true, "1e264bf86d0ad1939f1ccf7ce6c3198c7bae8989a3f369401e2424ba5c52e4a7".toList) := by kernel_rfl
theorem jl : true = Tryz.pinned.checked.prog.looks [] := by kernel_rfl
theorem jg : false = Rows.configNamesRow.goesBy Tryz.pinned.checked.prog := by kernel_rfl
end
end Go.Proofs.YtfhkbepjppcjmaaGreatDoor.configNames
