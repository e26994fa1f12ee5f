/-
  What the row of EvalHas says of the program.
-/
import Derived.Test.YtcjjjmhhpejdoaaGreatDoorRows
import Derived.Test.YtcjjjmhhpejdoaaGreatDoorCards
import Derived.Test.YtcjjjmhhpejdoaaGreatDoorTie
import Derived.Lay
import Derived.SevenTiedAt
import Derived.Deep.DeepHandedRow
namespace Go.Proofs.YtcjjjmhhpejdoaaGreatDoor.lawEvalHas
open Go.ChangeShapes
set_option linter.unusedVariables false

theorem joined : joinedFacts Tryz.checked.prog 17 Tryz.f17 Rows.evalHasSpec Rows.evalHasUptoRow = true := by kernel_rfl

end Go.Proofs.YtcjjjmhhpejdoaaGreatDoor.lawEvalHas
