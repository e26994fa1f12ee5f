/-
  What the row of LsmOfNothing says of the program.
-/
import Derived.Test.YtiooodckiddpmaaGreatDoorRows
import Derived.Test.YtiooodckiddpmaaGreatDoorCards
import Derived.Test.YtiooodckiddpmaaGreatDoorTie
import Derived.Lay
import Derived.SevenTiedAt
import Derived.Deep.DeepHandedRow
namespace Go.Proofs.YtiooodckiddpmaaGreatDoor.lawLsmOfNothing
open Go.ChangeShapes
set_option linter.unusedVariables false

theorem andI {a b : Bool} (ha : a = true) (hb : b = true) : (a && b) = true := by rw [ha, hb]; rfl
theorem j0 : (Rows.lsmOfNothingRow.wf (OpenSpec.ofChange Rows.lsmOfNothingSpec)) = true := by kernel_rfl
theorem j1 : (laidOutB Tryz.checked.prog) = true := by kernel_rfl
theorem j2 : (mapsRowed Tryz.checked.prog) = true := by kernel_rfl
theorem j3 : (Tryz.f10.params.all (Tryz.checked.prog.readableRec ·)) = true := by kernel_rfl
theorem j4 : (namedTie Tryz.checked.prog Rows.lsmOfNothingRow.named Rows.lsmOfNothingSpec.vars) = true := by kernel_rfl
theorem j5 : ((Rows.lsmOfNothingRow.stops == [])) = true := by kernel_rfl
theorem j6 : ((Tryz.checked.prog.stops == [])) = true := by kernel_rfl
theorem j7 : ((Rows.lsmOfNothingRow.knobs == [])) = true := by kernel_rfl
theorem j8 : ((Tryz.checked.prog.stopKnobs == [])) = true := by kernel_rfl
theorem j9 : ((Rows.lsmOfNothingRow.inPlace == Tryz.checked.prog.inPlace 10)) = true := by kernel_rfl
theorem j10 : ((Rows.lsmOfNothingRow.unfollowed == Tryz.checked.prog.unfollowed 10)) = true := by kernel_rfl
theorem j11 : ((Rows.lsmOfNothingRow.recurses == Tryz.checked.prog.recurses 10)) = true := by kernel_rfl
theorem j12 : ((Rows.lsmOfNothingRow.named == Tryz.checked.prog.varsNamed 10)) = true := by kernel_rfl

end Go.Proofs.YtiooodckiddpmaaGreatDoor.lawLsmOfNothing
