/-
  What the row of LsmCounts says of the program.
-/
import Derived.Test.YtiooodckiddpmaaGreatDoorRows
import Derived.Test.YtiooodckiddpmaaGreatDoorCards
import Derived.Test.YtiooodckiddpmaaGreatDoorTie
import Derived.Lay
import Derived.SevenTiedAt
import Derived.Deep.DeepHandedRow
namespace Go.Proofs.YtiooodckiddpmaaGreatDoor.lawLsmCounts
open Go.ChangeShapes
set_option linter.unusedVariables false

theorem j13 : ((Rows.lsmCountsRow.maps == (Tryz.f3.params.toList ++ Rows.lsmCountsSpec.plain.varTypes Tryz.checked.prog).any (Tryz.checked.prog.mapsRec ·))) = true := by kernel_rfl
theorem j14 : ((Rows.lsmCountsRow.ifaces == (Tryz.f3.params.toList ++ Rows.lsmCountsSpec.plain.varTypes Tryz.checked.prog).any (Tryz.checked.prog.ifacesRec ·))) = true := by kernel_rfl
theorem j15 : ((Rows.lsmCountsRow.mapsOut == Tryz.checked.prog.mapsAmong Tryz.f3.resultTypes.toList)) = true := by kernel_rfl
theorem j16 : ((Rows.lsmCountsRow.loops == (Tryz.f3.params.toList ++ Rows.lsmCountsSpec.plain.varTypes Tryz.checked.prog).any (Tryz.checked.prog.loopsFrom ·))) = true := by kernel_rfl
theorem j17 : ((Rows.lsmCountsRow.wideKeys == (Tryz.f3.params.toList ++ Rows.lsmCountsSpec.plain.varTypes Tryz.checked.prog ++ Tryz.f3.resultTypes.toList).any (Tryz.checked.prog.wideKeysFrom ·))) = true := by kernel_rfl
theorem j18 : (Rows.lsmCountsSpec.vars.all (Tryz.checked.prog.varReadable ·)) = true := by kernel_rfl
theorem j19 : (Tryz.f3.resultTypes.all (fun t => Tryz.checked.prog.readableRec t && decide (t < Tryz.checked.prog.types.size))) = true := by kernel_rfl
theorem j20 : ((Rows.lsmCountsRow.ifacesOut == Tryz.f3.resultTypes.toList.any (Tryz.checked.prog.ifacesRec ·))) = true := by kernel_rfl
theorem j21 : ((Rows.lsmCountsRow.loopsOut == Tryz.f3.resultTypes.toList.any (Tryz.checked.prog.loopsFrom ·))) = true := by kernel_rfl
theorem j22 : ((Rows.lsmCountsRow.plainKeys == Tryz.checked.prog.plainKeys)) = true := by kernel_rfl
theorem j23 : (Rows.lsmCountsRow.shortTexts.isNone) = true := by kernel_rfl
theorem j24 : (Tryz.checked.prog.stopsHeard) = true := by kernel_rfl
theorem j25 : (Tryz.checked.prog.mayEnter) = true := by kernel_rfl
theorem j26 : ((Rows.lsmCountsRow.lifted == Tryz.checked.prog.liftsFinal)) = true := by kernel_rfl
theorem j27 : ((Tryz.checked.prog.make == some Rows.lsmCountsRow.make)) = true := by kernel_rfl
theorem j28 : ((Rows.lsmCountsRow.kinds == (if Rows.lsmCountsRow.domain.isEmpty then [] else Tryz.f3.params.toList.map fun t => match Tryz.checked.prog.underlying t with | some (.int k) => some k | _ => none))) = true := by kernel_rfl
theorem j29 : ((Rows.lsmCountsRow.pinned == Rows.lsmCountsRow.pinnedBy)) = true := by kernel_rfl
theorem j30 : ((Rows.lsmCountsRow.veiled == (Tryz.f3.params.toList ++ Rows.lsmCountsSpec.plain.varTypes Tryz.checked.prog ++ Tryz.f3.resultTypes.toList).any (Tryz.checked.prog.veiledRec ·))) = true := by kernel_rfl
theorem j31 : (Rows.lsmCountsRow.veiledFits Tryz.checked.prog Tryz.f3.params.toList (Tryz.f3.params.toList ++ Rows.lsmCountsSpec.plain.varTypes Tryz.checked.prog ++ Tryz.f3.resultTypes.toList)) = true := by kernel_rfl

end Go.Proofs.YtiooodckiddpmaaGreatDoor.lawLsmCounts
