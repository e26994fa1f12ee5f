/-
  What the row of LsmSplits says of the program.
-/
import Derived.Test.YtiooodckiddpmaaGreatDoorRows
import Derived.Test.YtiooodckiddpmaaGreatDoorCards
import Derived.Test.YtiooodckiddpmaaGreatDoorTie
import Derived.Lay
import Derived.SevenTiedAt
import Derived.Deep.DeepHandedRow
namespace Go.Proofs.YtiooodckiddpmaaGreatDoor.lawLsmSplits
open Go.ChangeShapes
set_option linter.unusedVariables false

theorem j13 : ((Rows.lsmSplitsRow.maps == (Tryz.f8.params.toList ++ Rows.lsmSplitsSpec.plain.varTypes Tryz.checked.prog).any (Tryz.checked.prog.mapsRec ·))) = true := by kernel_rfl
theorem j14 : ((Rows.lsmSplitsRow.ifaces == (Tryz.f8.params.toList ++ Rows.lsmSplitsSpec.plain.varTypes Tryz.checked.prog).any (Tryz.checked.prog.ifacesRec ·))) = true := by kernel_rfl
theorem j15 : ((Rows.lsmSplitsRow.mapsOut == Tryz.checked.prog.mapsAmong Tryz.f8.resultTypes.toList)) = true := by kernel_rfl
theorem j16 : ((Rows.lsmSplitsRow.loops == (Tryz.f8.params.toList ++ Rows.lsmSplitsSpec.plain.varTypes Tryz.checked.prog).any (Tryz.checked.prog.loopsFrom ·))) = true := by kernel_rfl
theorem j17 : ((Rows.lsmSplitsRow.wideKeys == (Tryz.f8.params.toList ++ Rows.lsmSplitsSpec.plain.varTypes Tryz.checked.prog ++ Tryz.f8.resultTypes.toList).any (Tryz.checked.prog.wideKeysFrom ·))) = true := by kernel_rfl
theorem j18 : (Rows.lsmSplitsSpec.vars.all (Tryz.checked.prog.varReadable ·)) = true := by kernel_rfl
theorem j19 : (Tryz.f8.resultTypes.all (fun t => Tryz.checked.prog.readableRec t && decide (t < Tryz.checked.prog.types.size))) = true := by kernel_rfl
theorem j20 : ((Rows.lsmSplitsRow.ifacesOut == Tryz.f8.resultTypes.toList.any (Tryz.checked.prog.ifacesRec ·))) = true := by kernel_rfl
theorem j21 : ((Rows.lsmSplitsRow.loopsOut == Tryz.f8.resultTypes.toList.any (Tryz.checked.prog.loopsFrom ·))) = true := by kernel_rfl
theorem j22 : ((Rows.lsmSplitsRow.plainKeys == Tryz.checked.prog.plainKeys)) = true := by kernel_rfl
theorem j23 : (Rows.lsmSplitsRow.shortTexts.isNone) = true := by kernel_rfl
theorem j24 : (Tryz.checked.prog.stopsHeard) = true := by kernel_rfl
theorem j25 : (Tryz.checked.prog.mayEnter) = true := by kernel_rfl
theorem j26 : ((Rows.lsmSplitsRow.lifted == Tryz.checked.prog.liftsFinal)) = true := by kernel_rfl
theorem j27 : ((Tryz.checked.prog.make == some Rows.lsmSplitsRow.make)) = true := by kernel_rfl
theorem j28 : ((Rows.lsmSplitsRow.kinds == (if Rows.lsmSplitsRow.domain.isEmpty then [] else Tryz.f8.params.toList.map fun t => match Tryz.checked.prog.underlying t with | some (.int k) => some k | _ => none))) = true := by kernel_rfl
theorem j29 : ((Rows.lsmSplitsRow.pinned == Rows.lsmSplitsRow.pinnedBy)) = true := by kernel_rfl
theorem j30 : ((Rows.lsmSplitsRow.veiled == (Tryz.f8.params.toList ++ Rows.lsmSplitsSpec.plain.varTypes Tryz.checked.prog ++ Tryz.f8.resultTypes.toList).any (Tryz.checked.prog.veiledRec ·))) = true := by kernel_rfl
theorem j31 : (Rows.lsmSplitsRow.veiledFits Tryz.checked.prog Tryz.f8.params.toList (Tryz.f8.params.toList ++ Rows.lsmSplitsSpec.plain.varTypes Tryz.checked.prog ++ Tryz.f8.resultTypes.toList)) = true := by kernel_rfl

end Go.Proofs.YtiooodckiddpmaaGreatDoor.lawLsmSplits
