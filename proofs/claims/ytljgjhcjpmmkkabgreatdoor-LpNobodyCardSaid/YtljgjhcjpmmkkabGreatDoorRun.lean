/- The law LpNobody of layer 15 as the evaluator computes it: true at k = 0, at k = 1, above and below, whatever the event is.
   Conditions: none. -/
import Derived.Test.YtljgjhcjpmmkkabGreatDoorAx3
import Derived.Test.YtljgjhcjpmmkkabGreatDoorProg
import Derived.WalkKit
set_option linter.unusedVariables false
namespace Go.Proofs.YtljgjhcjpmmkkabGreatDoor.Run
open Go.Proofs.YtljgjhcjpmmkkabGreatDoor.AX
noncomputable def tab (f : Nat) : Option AFn := fnOf Tryz.prog [9, 23, 111] f
theorem tab_ok [Env] : TabOK Tryz.prog [9, 23, 111] tab := by
  intro f af h
  have h0 := h
  unfold tab fnOf at h
  split at h
  · cases h
  · split at h
    · cases h
    · split at h
      · cases h
      · split at h
        · cases h
        · cases h
          exact h0
noncomputable def told (r : V1) : Bool := match r with
  | .ok (.bool x) _ _ => x
  | _ => false
noncomputable def event : AV := .agg [.opq 0 .any, .opq 1 .any, .opq 2 .any, .opq 3 .any, .opq 4 .any, .opq 5 .any]
noncomputable def run (k : AV) : Bool := told (callA tab (runA tab 1000000) 3 [event, k] .e 0)
theorem run_0 : run (.int .i64 0) = true := by kernel_rfl
theorem run_1 : run (.int .i64 1) = true := by kernel_rfl
theorem run_up : run (.opq 6 (.rng 2 9223372036854775807)) = true := by kernel_rfl
theorem run_down : run (.opq 6 (.rng (-9223372036854775808) (-1))) = true := by kernel_rfl
open Go.RowKit
theorem told_true {r : V1} (h : told r = true) : ∃ t n, r = .ok (.bool true) t n := by
  cases r with
  | no l => cases h
  | ok v t n =>
    cases v <;> (try (cases h; done))
    rename_i b
    have : b = true := h
    subst this
    exact ⟨t, n, rfl⟩
/-- The event and the number, as values that nobody knows. -/
def vals (a b c d e f k : Value) : Nat → Value
  | 0 => a
  | 1 => b
  | 2 => c
  | 3 => d
  | 4 => e
  | 5 => f
  | _ => k
theorem walk (x0 x1 : Int) (x2 : ByteArray) (x3 x4 : Int) (x5 : Bool) (k : Int) (w : World) (hk : (Lit.int .i64 k).wf = true) :
    Calls Tryz.prog 3 #[.agg #[.int .i64 x0, .int .i64 x1, .string x2, .int .i64 x3, .int .i64 x4, .bool x5], .int .i64 k] w fun e w' => e = .returned (.bool true) ∧ Below w.heap.size w w' := by
  letI : Env := ⟨vals (.int .i64 x0) (.int .i64 x1) (.string x2) (.int .i64 x3) (.int .i64 x4) (.bool x5) (.int .i64 k)⟩
  have main : ∀ kv : AV, run kv = true → kv.rel (fun _ => none) (.int .i64 k) →
      Calls Tryz.prog 3 #[.agg #[.int .i64 x0, .int .i64 x1, .string x2, .int .i64 x3, .int .i64 x4, .bool x5], .int .i64 k] w fun e w' => e = .returned (.bool true) ∧ Below w.heap.size w w' := by
    intro kv h hr
    obtain ⟨t, n, hc⟩ := told_true h
    refine (ax_calls tab_ok 1000000 hc [.agg #[.int .i64 x0, .int .i64 x1, .string x2, .int .i64 x3, .int .i64 x4, .bool x5], .int .i64 k] ?_ w).mono (fun e w' ⟨ρ', cv, h1, h2, h3⟩ => ⟨?_, h3⟩)
    · refine ⟨_, _, rfl, ?_, _, _, rfl, hr, rfl⟩
      refine ⟨_, rfl, ?_⟩
      exact ⟨_, _, rfl, ⟨rfl, rfl, trivial⟩, _, _, rfl, ⟨rfl, rfl, trivial⟩, _, _, rfl, ⟨rfl, rfl, trivial⟩, _, _, rfl, ⟨rfl, rfl, trivial⟩, _, _, rfl, ⟨rfl, rfl, trivial⟩, _, _, rfl, ⟨rfl, rfl, trivial⟩, rfl⟩
    · rw [h1, rel_bool h2]
  have hb : -9223372036854775808 ≤ k ∧ k ≤ 9223372036854775807 := by
    have h1 : IntKind.i64.min = -9223372036854775808 := by decide
    have h2 : IntKind.i64.max = 9223372036854775807 := by decide
    simp [Lit.wf, h1, h2] at hk
    omega
  by_cases h0 : k = 0
  · subst h0
    exact main _ run_0 rfl
  by_cases h1 : k = 1
  · subst h1
    exact main _ run_1 rfl
  by_cases h2 : 2 ≤ k
  · exact main _ run_up ⟨rfl, rfl, k, rfl, h2, hb.2⟩
  · exact main _ run_down ⟨rfl, rfl, k, rfl, hb.1, by omega⟩
end Go.Proofs.YtljgjhcjpmmkkabGreatDoor.Run
