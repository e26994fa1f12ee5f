/-
  What the row of SearchOfNothing says of the program.
-/
import Derived.Test.YteninjhmmjkckaaGreatDoorRows
import Derived.Test.YteninjhmmjkckaaGreatDoorCards
import Derived.Test.YteninjhmmjkckaaGreatDoorTie
import Derived.Lay
import Derived.SevenTiedAt
import Derived.Deep.DeepHandedRow
namespace Go.Proofs.YteninjhmmjkckaaGreatDoor.lawSearchOfNothing
open Go.ChangeShapes
set_option linter.unusedVariables false

theorem j13 : ((Rows.searchOfNothingRow.maps == (Tryz.f3.params.toList ++ Rows.searchOfNothingSpec.plain.varTypes Tryz.checked.prog).any (Tryz.checked.prog.mapsRec ·))) = true := by kernel_rfl
theorem j14 : ((Rows.searchOfNothingRow.ifaces == (Tryz.f3.params.toList ++ Rows.searchOfNothingSpec.plain.varTypes Tryz.checked.prog).any (Tryz.checked.prog.ifacesRec ·))) = true := by kernel_rfl
theorem j15 : ((Rows.searchOfNothingRow.mapsOut == Tryz.checked.prog.mapsAmong Tryz.f3.resultTypes.toList)) = true := by kernel_rfl
theorem j16 : ((Rows.searchOfNothingRow.loops == (Tryz.f3.params.toList ++ Rows.searchOfNothingSpec.plain.varTypes Tryz.checked.prog).any (Tryz.checked.prog.loopsFrom ·))) = true := by kernel_rfl
theorem j17 : ((Rows.searchOfNothingRow.wideKeys == (Tryz.f3.params.toList ++ Rows.searchOfNothingSpec.plain.varTypes Tryz.checked.prog ++ Tryz.f3.resultTypes.toList).any (Tryz.checked.prog.wideKeysFrom ·))) = true := by kernel_rfl
theorem j18 : (Rows.searchOfNothingSpec.vars.all (Tryz.checked.prog.varReadable ·)) = true := by kernel_rfl
theorem j19 : (Tryz.f3.resultTypes.all (fun t => Tryz.checked.prog.readableRec t && decide (t < Tryz.checked.prog.types.size))) = true := by kernel_rfl
theorem j20 : ((Rows.searchOfNothingRow.ifacesOut == Tryz.f3.resultTypes.toList.any (Tryz.checked.prog.ifacesRec ·))) = true := by kernel_rfl
theorem j21 : ((Rows.searchOfNothingRow.loopsOut == Tryz.f3.resultTypes.toList.any (Tryz.checked.prog.loopsFrom ·))) = true := by kernel_rfl
theorem j22 : ((Rows.searchOfNothingRow.plainKeys == Tryz.checked.prog.plainKeys)) = true := by kernel_rfl
theorem j23 : (Rows.searchOfNothingRow.shortTexts.isNone) = true := by kernel_rfl
theorem j24 : (Tryz.checked.prog.stopsHeard) = true := by kernel_rfl
theorem j25 : (Tryz.checked.prog.mayEnter) = true := by kernel_rfl
theorem j26 : ((Rows.searchOfNothingRow.lifted == Tryz.checked.prog.liftsFinal)) = true := by kernel_rfl
theorem j27 : ((Tryz.checked.prog.make == some Rows.searchOfNothingRow.make)) = true := by kernel_rfl
theorem j28 : ((Rows.searchOfNothingRow.kinds == (if Rows.searchOfNothingRow.domain.isEmpty then [] else Tryz.f3.params.toList.map fun t => match Tryz.checked.prog.underlying t with | some (.int k) => some k | _ => none))) = true := by kernel_rfl
theorem j29 : ((Rows.searchOfNothingRow.pinned == Rows.searchOfNothingRow.pinnedBy)) = true := by kernel_rfl
theorem j30 : ((Rows.searchOfNothingRow.veiled == (Tryz.f3.params.toList ++ Rows.searchOfNothingSpec.plain.varTypes Tryz.checked.prog ++ Tryz.f3.resultTypes.toList).any (Tryz.checked.prog.veiledRec ·))) = true := by kernel_rfl
theorem j31 : (Rows.searchOfNothingRow.veiledFits Tryz.checked.prog Tryz.f3.params.toList (Tryz.f3.params.toList ++ Rows.searchOfNothingSpec.plain.varTypes Tryz.checked.prog ++ Tryz.f3.resultTypes.toList)) = true := by kernel_rfl

end Go.Proofs.YteninjhmmjkckaaGreatDoor.lawSearchOfNothing
