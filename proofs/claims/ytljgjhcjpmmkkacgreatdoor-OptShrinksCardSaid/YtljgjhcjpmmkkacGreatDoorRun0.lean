/- The law OptShrinks of layer 10 at the evaluator: its table of functions, and what sixteen cases there are.
   Conditions: none. -/
import Derived.Test.YtljgjhcjpmmkkacGreatDoorJoin
set_option linter.unusedVariables false
namespace Go.Proofs.YtljgjhcjpmmkkacGreatDoor.Run
open Go.Proofs.YtljgjhcjpmmkkacGreatDoor.AX Go.RowKit
noncomputable def tab (f : Nat) : Option AFn := bif f == 41 then some (.prim pJoin) else fnOf Tryz.prog [9] f
theorem fn_code {P : Program} {ts : List TypeId} {f : FuncId} {af : AFn} (h : fnOf P ts f = some af) : ∃ np nt body res, af = .code np nt body res := by
  unfold fnOf at h
  split at h
  · cases h
  · split at h
    · cases h
    · split at h
      · cases h
      · split at h
        · cases h
        · cases h
          exact ⟨_, _, _, _, rfl⟩
theorem two_ways {g : Nat → Option AFn} {p : List AV → Tr Blk → Option AV} {n f : Nat} {af : AFn} (h : (bif f == n then some (.prim p) else g f) = some af) : (f = n ∧ af = .prim p) ∨ g f = some af := by
  by_cases hf : f = n
  · subst hf
    simp at h
    exact .inl ⟨rfl, h.symm⟩
  · have e : (f == n) = false := by simpa using hf
    rw [e] at h
    exact .inr h
theorem tab_ok [Env] : TabOK Tryz.prog [9] tab := by
  intro f af h
  rcases two_ways h with ⟨rfl, rfl⟩ | h
  · exact ⟨pJoin_ok Tryz.strings_Join_none Tryz.strings_Join, Tryz.f41, Tryz.func41, by kernel_rfl, of_decide_eq_true (by kernel_rfl)⟩
  · obtain ⟨np, nt, body, res, rfl⟩ := fn_code h
    exact h
noncomputable def told (r : V1) : Bool := match r with
  | .ok (.bool x) _ _ => x
  | _ => false
theorem told_true {r : V1} (h : told r = true) : ∃ t n, r = .ok (.bool true) t n := by
  cases r with
  | no l => cases h
  | ok v t n =>
    cases v <;> (try (cases h; done))
    rename_i b
    have : b = true := h
    subst this
    exact ⟨t, n, rfl⟩
noncomputable def run (r : Nat) : Bool := told (callA tab (runA tab 1000000) 3 [.opq 0 (.msk 15 (.ofNat r))] .e 0)
theorem mask15 (n : Int) : ∃ r : Nat, r < 16 ∧ bitsG .and .i64 n 15 = some (Int.ofNat r) := by
  have h1 : ((BitVec.ofInt 64 n) &&& (BitVec.ofInt 64 15)).toNat < 16 := by
    rw [BitVec.toNat_and, show (BitVec.ofInt 64 15).toNat = 15 from by decide]
    exact Nat.lt_of_le_of_lt Nat.and_le_right (by decide)
  refine ⟨_, h1, ?_⟩
  show some (IntKind.i64.wrap (((BitVec.ofInt 64 n) &&& (BitVec.ofInt 64 15)).toNat : Int)) = _
  generalize ((BitVec.ofInt 64 n) &&& (BitVec.ofInt 64 15)).toNat = k at h1
  have : ∀ k : Fin 16, IntKind.i64.wrap ((k.val : Nat) : Int) = Int.ofNat k.val := by decide
  rw [this ⟨k, h1⟩]
end Go.Proofs.YtljgjhcjpmmkkacGreatDoor.Run
