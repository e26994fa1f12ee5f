/-
  What the row of LsmGone says of the program.
-/
import Derived.Test.YtiooodckiddpmaaGreatDoorRows
import Derived.Test.YtiooodckiddpmaaGreatDoorCards
import Derived.Test.YtiooodckiddpmaaGreatDoorTie
import Derived.Lay
import Derived.SevenTiedAt
import Derived.Deep.DeepHandedRow
namespace Go.Proofs.YtiooodckiddpmaaGreatDoor.lawLsmGone
open Go.ChangeShapes
set_option linter.unusedVariables false

theorem andI {a b : Bool} (ha : a = true) (hb : b = true) : (a && b) = true := by rw [ha, hb]; rfl
theorem j0 : (Rows.lsmGoneRow.wf (OpenSpec.ofChange Rows.lsmGoneSpec)) = true := by kernel_rfl
theorem j1 : (laidOutB Tryz.checked.prog) = true := by kernel_rfl
theorem j2 : (mapsRowed Tryz.checked.prog) = true := by kernel_rfl
theorem j3 : (Tryz.f9.params.all (Tryz.checked.prog.readableRec ·)) = true := by kernel_rfl
theorem j4 : (namedTie Tryz.checked.prog Rows.lsmGoneRow.named Rows.lsmGoneSpec.vars) = true := by kernel_rfl
theorem j5 : ((Rows.lsmGoneRow.stops == [])) = true := by kernel_rfl
theorem j6 : ((Tryz.checked.prog.stops == [])) = true := by kernel_rfl
theorem j7 : ((Rows.lsmGoneRow.knobs == [])) = true := by kernel_rfl
theorem j8 : ((Tryz.checked.prog.stopKnobs == [])) = true := by kernel_rfl
theorem j9 : ((Rows.lsmGoneRow.inPlace == Tryz.checked.prog.inPlace 9)) = true := by kernel_rfl
theorem j10 : ((Rows.lsmGoneRow.unfollowed == Tryz.checked.prog.unfollowed 9)) = true := by kernel_rfl
theorem j11 : ((Rows.lsmGoneRow.recurses == Tryz.checked.prog.recurses 9)) = true := by kernel_rfl
theorem j12 : ((Rows.lsmGoneRow.named == Tryz.checked.prog.varsNamed 9)) = true := by kernel_rfl

end Go.Proofs.YtiooodckiddpmaaGreatDoor.lawLsmGone
