/- The law OptShrinks at the evaluator: four of the sixteen cases.
   Conditions: none. -/
import Derived.Test.YtljgjhcjpmmkkacGreatDoorRun0
import Derived.WalkKit
namespace Go.Proofs.YtljgjhcjpmmkkacGreatDoor.Run
theorem run_1 : run 1 = true := by kernel_rfl
theorem run_6 : run 6 = true := by kernel_rfl
theorem run_9 : run 9 = true := by kernel_rfl
theorem run_14 : run 14 = true := by kernel_rfl
end Go.Proofs.YtljgjhcjpmmkkacGreatDoor.Run
