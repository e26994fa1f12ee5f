/-
  What the row of LsmCounts says of the program.
-/
import Derived.Test.YtiooodckiddpmaaGreatDoorRows
import Derived.Test.YtiooodckiddpmaaGreatDoorCards
import Derived.Test.YtiooodckiddpmaaGreatDoorTie
import Derived.Lay
import Derived.SevenTiedAt
import Derived.Deep.DeepHandedRow
namespace Go.Proofs.YtiooodckiddpmaaGreatDoor.lawLsmCounts
open Go.ChangeShapes
set_option linter.unusedVariables false

theorem andI {a b : Bool} (ha : a = true) (hb : b = true) : (a && b) = true := by rw [ha, hb]; rfl
theorem j0 : (Rows.lsmCountsRow.wf (OpenSpec.ofChange Rows.lsmCountsSpec)) = true := by kernel_rfl
theorem j1 : (laidOutB Tryz.checked.prog) = true := by kernel_rfl
theorem j2 : (mapsRowed Tryz.checked.prog) = true := by kernel_rfl
theorem j3 : (Tryz.f3.params.all (Tryz.checked.prog.readableRec ·)) = true := by kernel_rfl
theorem j4 : (namedTie Tryz.checked.prog Rows.lsmCountsRow.named Rows.lsmCountsSpec.vars) = true := by kernel_rfl
theorem j5 : ((Rows.lsmCountsRow.stops == [])) = true := by kernel_rfl
theorem j6 : ((Tryz.checked.prog.stops == [])) = true := by kernel_rfl
theorem j7 : ((Rows.lsmCountsRow.knobs == [])) = true := by kernel_rfl
theorem j8 : ((Tryz.checked.prog.stopKnobs == [])) = true := by kernel_rfl
theorem j9 : ((Rows.lsmCountsRow.inPlace == Tryz.checked.prog.inPlace 3)) = true := by kernel_rfl
theorem j10 : ((Rows.lsmCountsRow.unfollowed == Tryz.checked.prog.unfollowed 3)) = true := by kernel_rfl
theorem j11 : ((Rows.lsmCountsRow.recurses == Tryz.checked.prog.recurses 3)) = true := by kernel_rfl
theorem j12 : ((Rows.lsmCountsRow.named == Tryz.checked.prog.varsNamed 3)) = true := by kernel_rfl

end Go.Proofs.YtiooodckiddpmaaGreatDoor.lawLsmCounts
