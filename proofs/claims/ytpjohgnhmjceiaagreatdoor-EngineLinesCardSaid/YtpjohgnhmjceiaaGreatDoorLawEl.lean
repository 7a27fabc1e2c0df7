/- The law EngineLines of layer 12 in the evaluator's terms: true, whatever rows and numbers come in.
   Conditions: none beyond what is said of the rows. -/
import Derived.Test.YtpjohgnhmjceiaaGreatDoorWx3
import Derived.Test.YtpjohgnhmjceiaaGreatDoorAwk0
import Derived.Test.YtpjohgnhmjceiaaGreatDoorProg
import Derived.WalkKit
set_option linter.unusedVariables false
set_option linter.unusedSectionVars false
set_option maxRecDepth 100000
open Go Go.Proofs.YtpjohgnhmjceiaaGreatDoor.AX Go.Proofs
namespace Go.Proofs.YtpjohgnhmjceiaaGreatDoor.WX
/-! ### The law EngineChecks, of rows as they come in -/
theorem fn_code {P : Program} {ts : List TypeId} {f : FuncId} {af : AFn} (h : fnOf P ts f = some af) : ∃ np nt body res, af = .code np nt body res := by
  unfold fnOf at h
  split at h
  · cases h
  · split at h
    · cases h
    · split at h
      · cases h
      · split at h
        · cases h
        · cases h
          exact ⟨_, _, _, _, rfl⟩
theorem two_ways {g : Nat → Option AFn} {p : List AV → TB → Option AV} {n f : Nat} {af : AFn} (h : (bif f == n then some (.prim p) else g f) = some af) : (f = n ∧ af = .prim p) ∨ g f = some af := by
  by_cases hf : f = n
  · subst hf
    simp at h
    exact .inl ⟨rfl, h.symm⟩
  · have e : (f == n) = false := by simpa using hf
    rw [e] at h
    exact .inr h

theorem tb_ok [Env] : TabOK Tryz.prog [9, 66, 109, 111, 193] tb := by
  intro f af h
  unfold tb at h
  rcases two_ways (g := fun f => bif f == 104 then some (.prim pTrim) else bif f == 17 then some (.prim pTrue) else fnOf Tryz.prog [9, 66, 109, 111, 193] f) h with ⟨rfl, rfl⟩ | h
  · exact ⟨pRep_ok, Tryz.f62, Tryz.func62, by kernel_rfl, of_decide_eq_true (by kernel_rfl)⟩
  rcases two_ways (g := fun f => bif f == 17 then some (.prim pTrue) else fnOf Tryz.prog [9, 66, 109, 111, 193] f) h with ⟨rfl, rfl⟩ | h
  · exact ⟨pTrim_ok, Tryz.f104, Tryz.func104, by kernel_rfl, of_decide_eq_true (by kernel_rfl)⟩
  rcases two_ways (g := fun f => fnOf Tryz.prog [9, 66, 109, 111, 193] f) h with ⟨rfl, rfl⟩ | h
  · exact ⟨pTrue_ok Awk0.awake_calls, Tryz.f17, Tryz.func17, by kernel_rfl, of_decide_eq_true (by kernel_rfl)⟩
  obtain ⟨np, nt, body, res, rfl⟩ := fn_code h
  exact h
def kNum : List CK := [.int .i64]
theorem nums_of [Env] {row : List AV} : ∀ (n : Nat), n ≤ row.length → (∀ (i j : Nat) (k : CK), i < n → kNum[j]? = some k → ∃ a, row[i * kNum.length + j]? = some a ∧ ckOK k a) → ∃ zs : List Int, zs.length = n ∧ row.take n = ints zs
  | 0, _, _ => ⟨[], rfl, by simp [ints]⟩
  | n + 1, hl, h => by
    obtain ⟨zs, h1, h2⟩ := nums_of n (by omega) (fun i j k hi => h i j k (by omega))
    obtain ⟨_, ea, x, rfl⟩ := h n 0 _ (by omega) rfl
    have ea' : row[n]? = some (.int .i64 x) := by
      have e : n * kNum.length + 0 = n := by show n * 1 + 0 = n; omega
      rw [e] at ea; exact ea
    refine ⟨zs ++ [x], by simp [h1], ?_⟩
    rw [List.take_add_one, h2, ea']
    simp [ints, i64]
theorem rowI_of [Env] {t : TB} {b bd n : Nat} {av : AV} (h : RowsK t b av n kNum) (hb : b < bd) : ∃ zs : List Int, zs.length = n ∧ RowI t bd av zs := by
  rcases h with ⟨rfl, rfl⟩ | ⟨c, row, h1, h2, h3, h4, h5, h6⟩
  · exact ⟨[], rfl, .inl ⟨rfl, rfl⟩⟩
  · have h3' : row.length = c * 1 := h3
    obtain ⟨zs, e1, e2⟩ := nums_of (row := row) n (by omega) (fun i j k hi hj => h6 i j k (by omega) hj)
    subst e1
    exact ⟨zs, rfl, .inr ⟨b, 0, c, true, false, row, h1, hb, h2, ⟨by omega, h4⟩, by rw [List.drop_zero]; exact e2⟩⟩

theorem el_wf [Env] {t : TB} {lv : AV} {m : Nat} (hl : RowsK t 0 lv m kNum) (n : Int) {p : Prop} (_h : p) : WF tb 5 [lv, .int .i64 n] t 1 (fun v t' nx' => v = .bool true) := by
  obtain ⟨zs, h1, h2⟩ := rowI_of (bd := 1) hl (by omega)
  have l1 : m ≤ 9223372036854775807 := hl.le
  exact law_ok h2 (Nat.le_refl _) (by omega)

end Go.Proofs.YtpjohgnhmjceiaaGreatDoor.WX
