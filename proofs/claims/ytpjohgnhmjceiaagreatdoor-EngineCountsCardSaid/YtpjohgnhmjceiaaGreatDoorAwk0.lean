/- The statements' awake, as the evaluator computes it: it tells true, and leaves what was there.
   Conditions: none. -/
import Derived.Test.YtpjohgnhmjceiaaGreatDoorAx4
import Derived.Test.YtpjohgnhmjceiaaGreatDoorProg
import Derived.WalkKit
set_option linter.unusedVariables false
namespace Go.Proofs.YtpjohgnhmjceiaaGreatDoor.Awk0
open Go.Proofs.YtpjohgnhmjceiaaGreatDoor.AX Go.RowKit
noncomputable def tab (f : Nat) : Option AFn := fnOf Tryz.prog [9, 66, 109, 111, 193] f
theorem tab_ok [Env] : TabOK Tryz.prog [9, 66, 109, 111, 193] tab := by
  intro f af h
  have h0 := h
  unfold tab fnOf at h
  split at h
  · cases h
  · split at h
    · cases h
    · split at h
      · cases h
      · split at h
        · cases h
        · cases h
          exact h0
noncomputable def told (r : V1) : Bool := match r with
  | .ok (.bool x) _ _ => x
  | _ => false
theorem told_true {r : V1} (h : told r = true) : ∃ t n, r = .ok (.bool true) t n := by
  cases r with
  | no l => cases h
  | ok v t n =>
    cases v <;> (try (cases h; done))
    rename_i b
    have : b = true := h
    subst this
    exact ⟨t, n, rfl⟩
noncomputable def run : Bool := told (callA tab (runF tab 1000000) 17 [] .e 0)
theorem run_true : run = true := by kernel_rfl
theorem awake_calls (w : World) : Calls Tryz.prog 17 #[] w fun e w' => e = .returned (.bool true) ∧ Below w.heap.size w w' := by
  letI : Env := ⟨fun _ => .bool true⟩
  obtain ⟨t, n, hc⟩ := told_true run_true
  rw [callF_eq] at hc
  refine (ax_calls tab_ok 1000000 hc [] ?_ w).mono (fun e w' ⟨ρ', cv, h1, h2, h3⟩ => ⟨?_, h3⟩)
  · rfl
  · rw [h1, rel_bool h2]
end Go.Proofs.YtpjohgnhmjceiaaGreatDoor.Awk0
