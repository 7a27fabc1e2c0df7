/- The law OptShrinks at the evaluator: four of the sixteen cases.
   Conditions: none. -/
import Derived.Test.YtljgjhcjpmmkkacGreatDoorRun0
import Derived.WalkKit
namespace Go.Proofs.YtljgjhcjpmmkkacGreatDoor.Run
theorem run_2 : run 2 = true := by kernel_rfl
theorem run_5 : run 5 = true := by kernel_rfl
theorem run_10 : run 10 = true := by kernel_rfl
theorem run_13 : run 13 = true := by kernel_rfl
end Go.Proofs.YtljgjhcjpmmkkacGreatDoor.Run
