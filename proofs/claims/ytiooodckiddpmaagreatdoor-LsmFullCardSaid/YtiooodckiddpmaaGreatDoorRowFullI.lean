/-
  What the row of LsmFull says of the program.
-/
import Derived.Test.YtiooodckiddpmaaGreatDoorRows
import Derived.Test.YtiooodckiddpmaaGreatDoorCards
import Derived.Test.YtiooodckiddpmaaGreatDoorTie
import Derived.Lay
import Derived.SevenTiedAt
import Derived.Deep.DeepHandedRow
namespace Go.Proofs.YtiooodckiddpmaaGreatDoor.lawLsmFull
open Go.ChangeShapes
set_option linter.unusedVariables false

theorem andI {a b : Bool} (ha : a = true) (hb : b = true) : (a && b) = true := by rw [ha, hb]; rfl
theorem j0 : (Rows.lsmFullRow.wf (OpenSpec.ofChange Rows.lsmFullSpec)) = true := by kernel_rfl
theorem j1 : (laidOutB Tryz.checked.prog) = true := by kernel_rfl
theorem j2 : (mapsRowed Tryz.checked.prog) = true := by kernel_rfl
theorem j3 : (Tryz.f5.params.all (Tryz.checked.prog.readableRec ·)) = true := by kernel_rfl
theorem j4 : (namedTie Tryz.checked.prog Rows.lsmFullRow.named Rows.lsmFullSpec.vars) = true := by kernel_rfl
theorem j5 : ((Rows.lsmFullRow.stops == [])) = true := by kernel_rfl
theorem j6 : ((Tryz.checked.prog.stops == [])) = true := by kernel_rfl
theorem j7 : ((Rows.lsmFullRow.knobs == [])) = true := by kernel_rfl
theorem j8 : ((Tryz.checked.prog.stopKnobs == [])) = true := by kernel_rfl
theorem j9 : ((Rows.lsmFullRow.inPlace == Tryz.checked.prog.inPlace 5)) = true := by kernel_rfl
theorem j10 : ((Rows.lsmFullRow.unfollowed == Tryz.checked.prog.unfollowed 5)) = true := by kernel_rfl
theorem j11 : ((Rows.lsmFullRow.recurses == Tryz.checked.prog.recurses 5)) = true := by kernel_rfl
theorem j12 : ((Rows.lsmFullRow.named == Tryz.checked.prog.varsNamed 5)) = true := by kernel_rfl

end Go.Proofs.YtiooodckiddpmaaGreatDoor.lawLsmFull
