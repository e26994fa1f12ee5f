/-
  What the row of LsmSplits says of the program.
-/
import Derived.Test.YtiooodckiddpmaaGreatDoorRows
import Derived.Test.YtiooodckiddpmaaGreatDoorCards
import Derived.Test.YtiooodckiddpmaaGreatDoorTie
import Derived.Lay
import Derived.SevenTiedAt
import Derived.Deep.DeepHandedRow
namespace Go.Proofs.YtiooodckiddpmaaGreatDoor.lawLsmSplits
open Go.ChangeShapes
set_option linter.unusedVariables false

theorem andI {a b : Bool} (ha : a = true) (hb : b = true) : (a && b) = true := by rw [ha, hb]; rfl
theorem j0 : (Rows.lsmSplitsRow.wf (OpenSpec.ofChange Rows.lsmSplitsSpec)) = true := by kernel_rfl
theorem j1 : (laidOutB Tryz.checked.prog) = true := by kernel_rfl
theorem j2 : (mapsRowed Tryz.checked.prog) = true := by kernel_rfl
theorem j3 : (Tryz.f8.params.all (Tryz.checked.prog.readableRec ·)) = true := by kernel_rfl
theorem j4 : (namedTie Tryz.checked.prog Rows.lsmSplitsRow.named Rows.lsmSplitsSpec.vars) = true := by kernel_rfl
theorem j5 : ((Rows.lsmSplitsRow.stops == [])) = true := by kernel_rfl
theorem j6 : ((Tryz.checked.prog.stops == [])) = true := by kernel_rfl
theorem j7 : ((Rows.lsmSplitsRow.knobs == [])) = true := by kernel_rfl
theorem j8 : ((Tryz.checked.prog.stopKnobs == [])) = true := by kernel_rfl
theorem j9 : ((Rows.lsmSplitsRow.inPlace == Tryz.checked.prog.inPlace 8)) = true := by kernel_rfl
theorem j10 : ((Rows.lsmSplitsRow.unfollowed == Tryz.checked.prog.unfollowed 8)) = true := by kernel_rfl
theorem j11 : ((Rows.lsmSplitsRow.recurses == Tryz.checked.prog.recurses 8)) = true := by kernel_rfl
theorem j12 : ((Rows.lsmSplitsRow.named == Tryz.checked.prog.varsNamed 8)) = true := by kernel_rfl

end Go.Proofs.YtiooodckiddpmaaGreatDoor.lawLsmSplits
