/-
  What the row of LsmStray says of the program.
-/
import Derived.Test.YtiooodckiddpmaaGreatDoorRows
import Derived.Test.YtiooodckiddpmaaGreatDoorCards
import Derived.Test.YtiooodckiddpmaaGreatDoorTie
import Derived.Lay
import Derived.SevenTiedAt
import Derived.Deep.DeepHandedRow
namespace Go.Proofs.YtiooodckiddpmaaGreatDoor.lawLsmStray
open Go.ChangeShapes
set_option linter.unusedVariables false

theorem andI {a b : Bool} (ha : a = true) (hb : b = true) : (a && b) = true := by rw [ha, hb]; rfl
theorem j0 : (Rows.lsmStrayRow.wf (OpenSpec.ofChange Rows.lsmStraySpec)) = true := by kernel_rfl
theorem j1 : (laidOutB Tryz.checked.prog) = true := by kernel_rfl
theorem j2 : (mapsRowed Tryz.checked.prog) = true := by kernel_rfl
theorem j3 : (Tryz.f6.params.all (Tryz.checked.prog.readableRec ·)) = true := by kernel_rfl
theorem j4 : (namedTie Tryz.checked.prog Rows.lsmStrayRow.named Rows.lsmStraySpec.vars) = true := by kernel_rfl
theorem j5 : ((Rows.lsmStrayRow.stops == [])) = true := by kernel_rfl
theorem j6 : ((Tryz.checked.prog.stops == [])) = true := by kernel_rfl
theorem j7 : ((Rows.lsmStrayRow.knobs == [])) = true := by kernel_rfl
theorem j8 : ((Tryz.checked.prog.stopKnobs == [])) = true := by kernel_rfl
theorem j9 : ((Rows.lsmStrayRow.inPlace == Tryz.checked.prog.inPlace 6)) = true := by kernel_rfl
theorem j10 : ((Rows.lsmStrayRow.unfollowed == Tryz.checked.prog.unfollowed 6)) = true := by kernel_rfl
theorem j11 : ((Rows.lsmStrayRow.recurses == Tryz.checked.prog.recurses 6)) = true := by kernel_rfl
theorem j12 : ((Rows.lsmStrayRow.named == Tryz.checked.prog.varsNamed 6)) = true := by kernel_rfl

end Go.Proofs.YtiooodckiddpmaaGreatDoor.lawLsmStray
