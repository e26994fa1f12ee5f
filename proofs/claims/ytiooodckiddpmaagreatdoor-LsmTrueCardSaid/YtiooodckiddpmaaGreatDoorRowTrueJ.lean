/-
  What the row of LsmTrue says of the program.
-/
import Derived.Test.YtiooodckiddpmaaGreatDoorRows
import Derived.Test.YtiooodckiddpmaaGreatDoorCards
import Derived.Test.YtiooodckiddpmaaGreatDoorTie
import Derived.Lay
import Derived.SevenTiedAt
import Derived.Deep.DeepHandedRow
namespace Go.Proofs.YtiooodckiddpmaaGreatDoor.lawLsmTrue
open Go.ChangeShapes
set_option linter.unusedVariables false

theorem j13 : ((Rows.lsmTrueRow.maps == (Tryz.f4.params.toList ++ Rows.lsmTrueSpec.plain.varTypes Tryz.checked.prog).any (Tryz.checked.prog.mapsRec ·))) = true := by kernel_rfl
theorem j14 : ((Rows.lsmTrueRow.ifaces == (Tryz.f4.params.toList ++ Rows.lsmTrueSpec.plain.varTypes Tryz.checked.prog).any (Tryz.checked.prog.ifacesRec ·))) = true := by kernel_rfl
theorem j15 : ((Rows.lsmTrueRow.mapsOut == Tryz.checked.prog.mapsAmong Tryz.f4.resultTypes.toList)) = true := by kernel_rfl
theorem j16 : ((Rows.lsmTrueRow.loops == (Tryz.f4.params.toList ++ Rows.lsmTrueSpec.plain.varTypes Tryz.checked.prog).any (Tryz.checked.prog.loopsFrom ·))) = true := by kernel_rfl
theorem j17 : ((Rows.lsmTrueRow.wideKeys == (Tryz.f4.params.toList ++ Rows.lsmTrueSpec.plain.varTypes Tryz.checked.prog ++ Tryz.f4.resultTypes.toList).any (Tryz.checked.prog.wideKeysFrom ·))) = true := by kernel_rfl
theorem j18 : (Rows.lsmTrueSpec.vars.all (Tryz.checked.prog.varReadable ·)) = true := by kernel_rfl
theorem j19 : (Tryz.f4.resultTypes.all (fun t => Tryz.checked.prog.readableRec t && decide (t < Tryz.checked.prog.types.size))) = true := by kernel_rfl
theorem j20 : ((Rows.lsmTrueRow.ifacesOut == Tryz.f4.resultTypes.toList.any (Tryz.checked.prog.ifacesRec ·))) = true := by kernel_rfl
theorem j21 : ((Rows.lsmTrueRow.loopsOut == Tryz.f4.resultTypes.toList.any (Tryz.checked.prog.loopsFrom ·))) = true := by kernel_rfl
theorem j22 : ((Rows.lsmTrueRow.plainKeys == Tryz.checked.prog.plainKeys)) = true := by kernel_rfl
theorem j23 : (Rows.lsmTrueRow.shortTexts.isNone) = true := by kernel_rfl
theorem j24 : (Tryz.checked.prog.stopsHeard) = true := by kernel_rfl
theorem j25 : (Tryz.checked.prog.mayEnter) = true := by kernel_rfl
theorem j26 : ((Rows.lsmTrueRow.lifted == Tryz.checked.prog.liftsFinal)) = true := by kernel_rfl
theorem j27 : ((Tryz.checked.prog.make == some Rows.lsmTrueRow.make)) = true := by kernel_rfl
theorem j28 : ((Rows.lsmTrueRow.kinds == (if Rows.lsmTrueRow.domain.isEmpty then [] else Tryz.f4.params.toList.map fun t => match Tryz.checked.prog.underlying t with | some (.int k) => some k | _ => none))) = true := by kernel_rfl
theorem j29 : ((Rows.lsmTrueRow.pinned == Rows.lsmTrueRow.pinnedBy)) = true := by kernel_rfl
theorem j30 : ((Rows.lsmTrueRow.veiled == (Tryz.f4.params.toList ++ Rows.lsmTrueSpec.plain.varTypes Tryz.checked.prog ++ Tryz.f4.resultTypes.toList).any (Tryz.checked.prog.veiledRec ·))) = true := by kernel_rfl
theorem j31 : (Rows.lsmTrueRow.veiledFits Tryz.checked.prog Tryz.f4.params.toList (Tryz.f4.params.toList ++ Rows.lsmTrueSpec.plain.varTypes Tryz.checked.prog ++ Tryz.f4.resultTypes.toList)) = true := by kernel_rfl

end Go.Proofs.YtiooodckiddpmaaGreatDoor.lawLsmTrue
