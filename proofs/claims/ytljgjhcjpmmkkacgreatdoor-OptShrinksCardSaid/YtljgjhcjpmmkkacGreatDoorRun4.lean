/- The law OptShrinks at the evaluator: four of the sixteen cases.
   Conditions: none. -/
import Derived.Test.YtljgjhcjpmmkkacGreatDoorRun0
import Derived.WalkKit
namespace Go.Proofs.YtljgjhcjpmmkkacGreatDoor.Run
theorem run_3 : run 3 = true := by kernel_rfl
theorem run_4 : run 4 = true := by kernel_rfl
theorem run_11 : run 11 = true := by kernel_rfl
theorem run_12 : run 12 = true := by kernel_rfl
end Go.Proofs.YtljgjhcjpmmkkacGreatDoor.Run
