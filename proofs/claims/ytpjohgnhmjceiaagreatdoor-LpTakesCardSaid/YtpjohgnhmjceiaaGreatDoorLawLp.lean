/- The law LpTakes of layer 15 in the evaluator's terms: true, whatever events and numbers come in.
   Conditions: none beyond what is said of the rows. -/
import Derived.Test.YtpjohgnhmjceiaaGreatDoorWx2
import Derived.Test.YtpjohgnhmjceiaaGreatDoorAwk0
import Derived.Test.YtpjohgnhmjceiaaGreatDoorProg
import Derived.WalkKit
set_option linter.unusedVariables false
set_option linter.unusedSectionVars false
set_option maxRecDepth 100000
open Go Go.Proofs.YtpjohgnhmjceiaaGreatDoor.AX Go.Proofs
namespace Go.Proofs.YtpjohgnhmjceiaaGreatDoor.WX
/-! ### The law EngineChecks, of rows as they come in -/
theorem fn_code {P : Program} {ts : List TypeId} {f : FuncId} {af : AFn} (h : fnOf P ts f = some af) : ∃ np nt body res, af = .code np nt body res := by
  unfold fnOf at h
  split at h
  · cases h
  · split at h
    · cases h
    · split at h
      · cases h
      · split at h
        · cases h
        · cases h
          exact ⟨_, _, _, _, rfl⟩
theorem two_ways {g : Nat → Option AFn} {p : List AV → TB → Option AV} {n f : Nat} {af : AFn} (h : (bif f == n then some (.prim p) else g f) = some af) : (f = n ∧ af = .prim p) ∨ g f = some af := by
  by_cases hf : f = n
  · subst hf
    simp at h
    exact .inl ⟨rfl, h.symm⟩
  · have e : (f == n) = false := by simpa using hf
    rw [e] at h
    exact .inr h

theorem tb_ok [Env] : TabOK Tryz.prog [9, 66, 109, 111, 193] tb := by
  intro f af h
  unfold tb at h
  rcases two_ways (g := fun f => bif f == 28 then some (.prim pTrue) else fnOf Tryz.prog [9, 66, 109, 111, 193] f) h with ⟨rfl, rfl⟩ | h
  · exact ⟨pTrim_ok, Tryz.f104, Tryz.func104, by kernel_rfl, of_decide_eq_true (by kernel_rfl)⟩
  rcases two_ways (g := fun f => fnOf Tryz.prog [9, 66, 109, 111, 193] f) h with ⟨rfl, rfl⟩ | h
  · exact ⟨pTrue_ok Awk0.awake_calls, Tryz.f28, Tryz.func28, by kernel_rfl, of_decide_eq_true (by kernel_rfl)⟩
  obtain ⟨np, nt, body, res, rfl⟩ := fn_code h
  exact h
def kEv : List CK := [.int .i64, .int .i64, .str, .int .i64, .int .i64, .bool]
theorem evs_of [Env] {row : List AV} : ∀ (n : Nat), n * 6 ≤ row.length → (∀ (i j : Nat) (k : CK), i < n → kEv[j]? = some k → ∃ a, row[i * kEv.length + j]? = some a ∧ ckOK k a) →
    ∃ es : List Ev, es.length = n ∧ row.take (n * 6) = flatE es ∧ ∀ c ∈ es, (∀ b ∈ c.val, b < 256) ∧ c.val.length < 9223372036854775808
  | 0, _, _ => ⟨[], rfl, by simp [flatE], fun c hc => by cases hc⟩
  | n + 1, hl, h => by
    obtain ⟨cs, h1, h2, h3⟩ := evs_of n (by omega) (fun i j k hi => h i j k (by omega))
    obtain ⟨_, ea, x, rfl⟩ := h n 0 _ (by omega) rfl
    obtain ⟨_, eb, y, rfl⟩ := h n 1 _ (by omega) rfl
    obtain ⟨_, ec, s, rfl, hs1, hs2⟩ := h n 2 _ (by omega) rfl
    obtain ⟨_, ed, z, rfl⟩ := h n 3 _ (by omega) rfl
    obtain ⟨_, ef, u, rfl⟩ := h n 4 _ (by omega) rfl
    obtain ⟨_, eg, v, rfl⟩ := h n 5 _ (by omega) rfl
    have ea' : row[n * 6 + 0]? = some (.int .i64 x) := ea
    have eb' : row[n * 6 + 1]? = some (.int .i64 y) := eb
    have ec' : row[n * 6 + 2]? = some (.str s) := ec
    have ed' : row[n * 6 + 3]? = some (.int .i64 z) := ed
    have ef' : row[n * 6 + 4]? = some (.int .i64 u) := ef
    have eg' : row[n * 6 + 5]? = some (.bool v) := eg
    refine ⟨cs ++ [⟨x, y, s, z, u, v⟩], by simp [h1], ?_, fun c hc => ?_⟩
    · rw [flatE_app, ← h2]
      apply List.ext_getElem?
      intro i
      have hlen : (row.take (n * 6)).length = n * 6 := by rw [List.length_take]; omega
      rw [List.getElem?_take]
      by_cases hi : i < n * 6
      · rw [if_pos (by omega), List.getElem?_append_left (by omega), List.getElem?_take, if_pos hi]
      · rw [List.getElem?_append_right (by omega), hlen]
        by_cases hi2 : i < (n + 1) * 6
        · rw [if_pos hi2]
          have : i = n * 6 + 0 ∨ i = n * 6 + 1 ∨ i = n * 6 + 2 ∨ i = n * 6 + 3 ∨ i = n * 6 + 4 ∨ i = n * 6 + 5 := by omega
          rcases this with rfl | rfl | rfl | rfl | rfl | rfl
          · rw [ea', Nat.add_sub_cancel_left]; rfl
          · rw [eb', Nat.add_sub_cancel_left]; rfl
          · rw [ec', Nat.add_sub_cancel_left]; rfl
          · rw [ed', Nat.add_sub_cancel_left]; rfl
          · rw [ef', Nat.add_sub_cancel_left]; rfl
          · rw [eg', Nat.add_sub_cancel_left]; rfl
        · rw [if_neg hi2, List.getElem?_eq_none]
          show 6 ≤ i - n * 6
          omega
    · rcases List.mem_append.1 hc with h4 | h4
      · exact h3 c h4
      · simp at h4; subst h4
        exact ⟨hs1, by have : s.length ≤ 9223372036854775807 := hs2; show s.length < _; omega⟩
theorem qr_of [Env] {t : TB} {b bd n : Nat} {av : AV} (h : RowsK t b av n kEv) (hb : b < bd) : ∃ es : List Ev, es.length = n ∧ QR t bd av es ∧ ∀ c ∈ es, (∀ b ∈ c.val, b < 256) ∧ c.val.length < 9223372036854775808 := by
  rcases h with ⟨rfl, rfl⟩ | ⟨c, row, h1, h2, h3, h4, h5, h6⟩
  · exact ⟨[], rfl, .inl ⟨rfl, rfl⟩, fun c hc => by cases hc⟩
  · have h3' : row.length = c * 6 := h3
    obtain ⟨es, e1, e2, e3⟩ := evs_of (row := row) n (by omega) (fun i j k hi hj => h6 i j k (by omega) hj)
    subst e1
    exact ⟨es, rfl, .inr ⟨b, c, true, false, row, h1, hb, h2, h3', h4, e2⟩, e3⟩

theorem lp_wf [Env] {t : TB} {lv : AV} {m : Nat} (hl : RowsK t 0 lv m kEv) (hf : t = .e ∨ ∃ k, t = TB.put (some k) .e 0) (n : Int) {p : Prop} (_h : p) : WF tb 8 [lv, .int .i64 n] t 1 (fun v t' nx' => v = .bool true) := by
  obtain ⟨es, h1, h2, h3⟩ := qr_of (bd := 1) hl (by omega)
  have l1 : m ≤ 9223372036854775807 := hl.le
  exact law_ok (pre_ok hf lv n) h2 (by omega) h3

end Go.Proofs.YtpjohgnhmjceiaaGreatDoor.WX
