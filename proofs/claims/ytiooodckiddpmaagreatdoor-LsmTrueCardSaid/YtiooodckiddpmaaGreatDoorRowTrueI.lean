/-
  What the row of LsmTrue says of the program.
-/
import Derived.Test.YtiooodckiddpmaaGreatDoorRows
import Derived.Test.YtiooodckiddpmaaGreatDoorCards
import Derived.Test.YtiooodckiddpmaaGreatDoorTie
import Derived.Lay
import Derived.SevenTiedAt
import Derived.Deep.DeepHandedRow
namespace Go.Proofs.YtiooodckiddpmaaGreatDoor.lawLsmTrue
open Go.ChangeShapes
set_option linter.unusedVariables false

theorem andI {a b : Bool} (ha : a = true) (hb : b = true) : (a && b) = true := by rw [ha, hb]; rfl
theorem j0 : (Rows.lsmTrueRow.wf (OpenSpec.ofChange Rows.lsmTrueSpec)) = true := by kernel_rfl
theorem j1 : (laidOutB Tryz.checked.prog) = true := by kernel_rfl
theorem j2 : (mapsRowed Tryz.checked.prog) = true := by kernel_rfl
theorem j3 : (Tryz.f4.params.all (Tryz.checked.prog.readableRec ·)) = true := by kernel_rfl
theorem j4 : (namedTie Tryz.checked.prog Rows.lsmTrueRow.named Rows.lsmTrueSpec.vars) = true := by kernel_rfl
theorem j5 : ((Rows.lsmTrueRow.stops == [])) = true := by kernel_rfl
theorem j6 : ((Tryz.checked.prog.stops == [])) = true := by kernel_rfl
theorem j7 : ((Rows.lsmTrueRow.knobs == [])) = true := by kernel_rfl
theorem j8 : ((Tryz.checked.prog.stopKnobs == [])) = true := by kernel_rfl
theorem j9 : ((Rows.lsmTrueRow.inPlace == Tryz.checked.prog.inPlace 4)) = true := by kernel_rfl
theorem j10 : ((Rows.lsmTrueRow.unfollowed == Tryz.checked.prog.unfollowed 4)) = true := by kernel_rfl
theorem j11 : ((Rows.lsmTrueRow.recurses == Tryz.checked.prog.recurses 4)) = true := by kernel_rfl
theorem j12 : ((Rows.lsmTrueRow.named == Tryz.checked.prog.varsNamed 4)) = true := by kernel_rfl

end Go.Proofs.YtiooodckiddpmaaGreatDoor.lawLsmTrue
