/- The law OptShrinks at the evaluator: four of the sixteen cases.
   Conditions: none. -/
import Derived.Test.YtljgjhcjpmmkkacGreatDoorRun0
import Derived.WalkKit
namespace Go.Proofs.YtljgjhcjpmmkkacGreatDoor.Run
theorem run_0 : run 0 = true := by kernel_rfl
theorem run_7 : run 7 = true := by kernel_rfl
theorem run_8 : run 8 = true := by kernel_rfl
theorem run_15 : run 15 = true := by kernel_rfl
end Go.Proofs.YtljgjhcjpmmkkacGreatDoor.Run
