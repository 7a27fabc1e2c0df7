/- The law ConservRounds of layer 16 in the evaluator's terms: true, whatever rows and numbers come in.
   Conditions: none beyond what is said of the rows. -/
import Derived.Test.YtpjohgnhmjceiaaGreatDoorWxCr
import Derived.Test.YtpjohgnhmjceiaaGreatDoorAwk0
import Derived.Test.YtpjohgnhmjceiaaGreatDoorAwk1
import Derived.Test.YtpjohgnhmjceiaaGreatDoorAwk2
import Derived.Test.YtpjohgnhmjceiaaGreatDoorProg
import Derived.WalkKit
set_option linter.unusedVariables false
set_option linter.unusedSectionVars false
set_option maxRecDepth 100000
open Go Go.Proofs.YtpjohgnhmjceiaaGreatDoor.AX Go.Proofs
namespace Go.Proofs.YtpjohgnhmjceiaaGreatDoor.WX
/-! ### The law EngineChecks, of rows as they come in -/
theorem fn_code {P : Program} {ts : List TypeId} {f : FuncId} {af : AFn} (h : fnOf P ts f = some af) : ∃ np nt body res, af = .code np nt body res := by
  unfold fnOf at h
  split at h
  · cases h
  · split at h
    · cases h
    · split at h
      · cases h
      · split at h
        · cases h
        · cases h
          exact ⟨_, _, _, _, rfl⟩
theorem two_ways {g : Nat → Option AFn} {p : List AV → TB → Option AV} {n f : Nat} {af : AFn} (h : (bif f == n then some (.prim p) else g f) = some af) : (f = n ∧ af = .prim p) ∨ g f = some af := by
  by_cases hf : f = n
  · subst hf
    simp at h
    exact .inl ⟨rfl, h.symm⟩
  · have e : (f == n) = false := by simpa using hf
    rw [e] at h
    exact .inr h
def kGate : List CK := [.int .i64, .int .i64, .int .i64, .int .i64, .int .i64]
def kChg : List CK := [.int .i64, .int .i64, .str]
theorem rows5_of [Env] {t : TB} {b bd n : Nat} {av : AV} (h : RowsK t b av n kGate) (hb : b < bd) : Rows5 t bd av n 5 := by
  rcases h with h | ⟨c, row, h1, h2, h3, h4, h5, h6⟩
  · exact .inl h
  · have h3' : row.length = c * 5 := h3
    refine .inr ⟨b, 0, c, true, false, row, h1, hb, h2, by omega, fun i hi => ?_⟩
    have e : ∃ k : CK, kGate[i % 5]? = some k ∧ k = .int .i64 := by
      have : i % 5 = 0 ∨ i % 5 = 1 ∨ i % 5 = 2 ∨ i % 5 = 3 ∨ i % 5 = 4 := by omega
      rcases this with e | e | e | e | e <;> rw [e] <;> exact ⟨_, rfl, rfl⟩
    obtain ⟨k, e1, rfl⟩ := e
    obtain ⟨a, e2, m, rfl⟩ := h6 (i / 5) (i % 5) _ (by omega) e1
    refine ⟨m, ?_⟩
    have e3 : i / 5 * kGate.length + i % 5 = i := by show i / 5 * 5 + i % 5 = i; omega
    rw [e3] at e2
    rw [Nat.zero_add]; exact e2

theorem tb_ok [Env] : TabOK Tryz.prog [9, 66, 109, 111, 193] tb := by
  intro f af h
  unfold tb at h
  rcases two_ways (g := fun f => bif f == 17 then some (.prim pTrue) else bif f == 31 then some (.prim pTrue) else bif f == 39 then some (.prim pTrue) else fnOf Tryz.prog [9, 66, 109, 111, 193] f) h with ⟨rfl, rfl⟩ | h
  · exact ⟨pTrim_ok, Tryz.f104, Tryz.func104, by kernel_rfl, of_decide_eq_true (by kernel_rfl)⟩
  rcases two_ways (g := fun f => bif f == 31 then some (.prim pTrue) else bif f == 39 then some (.prim pTrue) else fnOf Tryz.prog [9, 66, 109, 111, 193] f) h with ⟨rfl, rfl⟩ | h
  · exact ⟨pTrue_ok Awk0.awake_calls, Tryz.f17, Tryz.func17, by kernel_rfl, of_decide_eq_true (by kernel_rfl)⟩
  rcases two_ways (g := fun f => bif f == 39 then some (.prim pTrue) else fnOf Tryz.prog [9, 66, 109, 111, 193] f) h with ⟨rfl, rfl⟩ | h
  · exact ⟨pTrue_ok Awk1.awake_calls, Tryz.f31, Tryz.func31, by kernel_rfl, of_decide_eq_true (by kernel_rfl)⟩
  rcases two_ways (g := fun f => fnOf Tryz.prog [9, 66, 109, 111, 193] f) h with ⟨rfl, rfl⟩ | h
  · exact ⟨pTrue_ok Awk2.awake_calls, Tryz.f39, Tryz.func39, by kernel_rfl, of_decide_eq_true (by kernel_rfl)⟩
  obtain ⟨np, nt, body, res, rfl⟩ := fn_code h
  exact h

theorem clawr_wf [Env] {t : TB} {gv : AV} {m : Nat} (hg : RowsK t 0 gv m kGate) (b : Int) {p : Prop} (_hb : p) (h : Int) {q : Prop} (_hh : q) : WF tb 10 [gv, .int .i64 b, .int .i64 h] t 1 (fun v t' nx' => v = .bool true) := by
  have l1 : m ≤ 9223372036854775807 := hg.le
  exact (clawr_ok (rows5_of (bd := 1) hg (by omega)) (Nat.le_refl _) (by omega)).mono (fun v t' nx' h => h.1)

end Go.Proofs.YtpjohgnhmjceiaaGreatDoor.WX
