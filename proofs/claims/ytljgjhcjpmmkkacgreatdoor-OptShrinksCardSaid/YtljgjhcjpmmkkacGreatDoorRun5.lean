/- The law OptShrinks of layer 10: true, whatever the number is.
   Conditions: none. -/
import Derived.Test.YtljgjhcjpmmkkacGreatDoorRun1
import Derived.Test.YtljgjhcjpmmkkacGreatDoorRun2
import Derived.Test.YtljgjhcjpmmkkacGreatDoorRun3
import Derived.Test.YtljgjhcjpmmkkacGreatDoorRun4
set_option linter.unusedVariables false
namespace Go.Proofs.YtljgjhcjpmmkkacGreatDoor.Run
open Go.Proofs.YtljgjhcjpmmkkacGreatDoor.AX Go.RowKit
theorem run_all : ∀ r : Nat, r < 16 → run r = true
  | 0, _ => run_0
  | 1, _ => run_1
  | 2, _ => run_2
  | 3, _ => run_3
  | 4, _ => run_4
  | 5, _ => run_5
  | 6, _ => run_6
  | 7, _ => run_7
  | 8, _ => run_8
  | 9, _ => run_9
  | 10, _ => run_10
  | 11, _ => run_11
  | 12, _ => run_12
  | 13, _ => run_13
  | 14, _ => run_14
  | 15, _ => run_15
  | n + 16, h => by omega
theorem walk (k : Int) (w : World) (hk : (Lit.int .i64 k).wf = true) : Calls Tryz.prog 3 #[.int .i64 k] w fun e w' => e = .returned (.bool true) ∧ Below w.heap.size w w' := by
  letI : Env := ⟨fun _ => .int .i64 k⟩
  obtain ⟨r, hr, hm⟩ := mask15 k
  obtain ⟨t, n, hc⟩ := told_true (run_all r hr)
  refine (ax_calls tab_ok 1000000 hc [.int .i64 k] ?_ w).mono (fun e w' ⟨ρ', cv, h1, h2, h3⟩ => ⟨?_, h3⟩)
  · exact ⟨_, _, rfl, ⟨rfl, rfl, k, rfl, hm⟩, rfl⟩
  · rw [h1, rel_bool h2]
end Go.Proofs.YtljgjhcjpmmkkacGreatDoor.Run
