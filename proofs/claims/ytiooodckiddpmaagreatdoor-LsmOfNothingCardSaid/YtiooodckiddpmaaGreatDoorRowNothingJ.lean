/-
  What the row of LsmOfNothing says of the program.
-/
import Derived.Test.YtiooodckiddpmaaGreatDoorRows
import Derived.Test.YtiooodckiddpmaaGreatDoorCards
import Derived.Test.YtiooodckiddpmaaGreatDoorTie
import Derived.Lay
import Derived.SevenTiedAt
import Derived.Deep.DeepHandedRow
namespace Go.Proofs.YtiooodckiddpmaaGreatDoor.lawLsmOfNothing
open Go.ChangeShapes
set_option linter.unusedVariables false

theorem j13 : ((Rows.lsmOfNothingRow.maps == (Tryz.f10.params.toList ++ Rows.lsmOfNothingSpec.plain.varTypes Tryz.checked.prog).any (Tryz.checked.prog.mapsRec ·))) = true := by kernel_rfl
theorem j14 : ((Rows.lsmOfNothingRow.ifaces == (Tryz.f10.params.toList ++ Rows.lsmOfNothingSpec.plain.varTypes Tryz.checked.prog).any (Tryz.checked.prog.ifacesRec ·))) = true := by kernel_rfl
theorem j15 : ((Rows.lsmOfNothingRow.mapsOut == Tryz.checked.prog.mapsAmong Tryz.f10.resultTypes.toList)) = true := by kernel_rfl
theorem j16 : ((Rows.lsmOfNothingRow.loops == (Tryz.f10.params.toList ++ Rows.lsmOfNothingSpec.plain.varTypes Tryz.checked.prog).any (Tryz.checked.prog.loopsFrom ·))) = true := by kernel_rfl
theorem j17 : ((Rows.lsmOfNothingRow.wideKeys == (Tryz.f10.params.toList ++ Rows.lsmOfNothingSpec.plain.varTypes Tryz.checked.prog ++ Tryz.f10.resultTypes.toList).any (Tryz.checked.prog.wideKeysFrom ·))) = true := by kernel_rfl
theorem j18 : (Rows.lsmOfNothingSpec.vars.all (Tryz.checked.prog.varReadable ·)) = true := by kernel_rfl
theorem j19 : (Tryz.f10.resultTypes.all (fun t => Tryz.checked.prog.readableRec t && decide (t < Tryz.checked.prog.types.size))) = true := by kernel_rfl
theorem j20 : ((Rows.lsmOfNothingRow.ifacesOut == Tryz.f10.resultTypes.toList.any (Tryz.checked.prog.ifacesRec ·))) = true := by kernel_rfl
theorem j21 : ((Rows.lsmOfNothingRow.loopsOut == Tryz.f10.resultTypes.toList.any (Tryz.checked.prog.loopsFrom ·))) = true := by kernel_rfl
theorem j22 : ((Rows.lsmOfNothingRow.plainKeys == Tryz.checked.prog.plainKeys)) = true := by kernel_rfl
theorem j23 : (Rows.lsmOfNothingRow.shortTexts.isNone) = true := by kernel_rfl
theorem j24 : (Tryz.checked.prog.stopsHeard) = true := by kernel_rfl
theorem j25 : (Tryz.checked.prog.mayEnter) = true := by kernel_rfl
theorem j26 : ((Rows.lsmOfNothingRow.lifted == Tryz.checked.prog.liftsFinal)) = true := by kernel_rfl
theorem j27 : ((Tryz.checked.prog.make == some Rows.lsmOfNothingRow.make)) = true := by kernel_rfl
theorem j28 : ((Rows.lsmOfNothingRow.kinds == (if Rows.lsmOfNothingRow.domain.isEmpty then [] else Tryz.f10.params.toList.map fun t => match Tryz.checked.prog.underlying t with | some (.int k) => some k | _ => none))) = true := by kernel_rfl
theorem j29 : ((Rows.lsmOfNothingRow.pinned == Rows.lsmOfNothingRow.pinnedBy)) = true := by kernel_rfl
theorem j30 : ((Rows.lsmOfNothingRow.veiled == (Tryz.f10.params.toList ++ Rows.lsmOfNothingSpec.plain.varTypes Tryz.checked.prog ++ Tryz.f10.resultTypes.toList).any (Tryz.checked.prog.veiledRec ·))) = true := by kernel_rfl
theorem j31 : (Rows.lsmOfNothingRow.veiledFits Tryz.checked.prog Tryz.f10.params.toList (Tryz.f10.params.toList ++ Rows.lsmOfNothingSpec.plain.varTypes Tryz.checked.prog ++ Tryz.f10.resultTypes.toList)) = true := by kernel_rfl

end Go.Proofs.YtiooodckiddpmaaGreatDoor.lawLsmOfNothing
