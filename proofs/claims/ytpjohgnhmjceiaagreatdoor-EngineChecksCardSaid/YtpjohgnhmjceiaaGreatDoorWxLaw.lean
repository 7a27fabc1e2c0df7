/- The law EngineChecks of layer 12 in the evaluator's terms: true, whatever rows come in.
   Conditions: none beyond what is said of the rows. -/
import Derived.Test.YtpjohgnhmjceiaaGreatDoorWx4
import Derived.Test.YtpjohgnhmjceiaaGreatDoorAwk
import Derived.Test.YtpjohgnhmjceiaaGreatDoorProg
import Derived.WalkKit
set_option linter.unusedVariables false
set_option linter.unusedSectionVars false
set_option maxRecDepth 100000
open Go Go.Proofs.YtpjohgnhmjceiaaGreatDoor.AX Go.Proofs
namespace Go.Proofs.YtpjohgnhmjceiaaGreatDoor.WX
/-! ### The law EngineChecks, of rows as they come in -/
theorem fn_code {P : Program} {ts : List TypeId} {f : FuncId} {af : AFn} (h : fnOf P ts f = some af) : ∃ np nt body res, af = .code np nt body res := by
  unfold fnOf at h
  split at h
  · cases h
  · split at h
    · cases h
    · split at h
      · cases h
      · split at h
        · cases h
        · cases h
          exact ⟨_, _, _, _, rfl⟩
theorem two_ways {g : Nat → Option AFn} {p : List AV → TB → Option AV} {n f : Nat} {af : AFn} (h : (bif f == n then some (.prim p) else g f) = some af) : (f = n ∧ af = .prim p) ∨ g f = some af := by
  by_cases hf : f = n
  · subst hf
    simp at h
    exact .inl ⟨rfl, h.symm⟩
  · have e : (f == n) = false := by simpa using hf
    rw [e] at h
    exact .inr h
def kGate : List CK := [.int .i64, .int .i64, .int .i64, .int .i64, .int .i64]
def kChg : List CK := [.int .i64, .int .i64, .str]
theorem rows5_of [Env] {t : TB} {b bd n : Nat} {av : AV} (h : RowsK t b av n kGate) (hb : b < bd) : Rows5 t bd av n 5 := by
  rcases h with h | ⟨c, row, h1, h2, h3, h4, h5, h6⟩
  · exact .inl h
  · have h3' : row.length = c * 5 := h3
    refine .inr ⟨b, 0, c, true, false, row, h1, hb, h2, by omega, fun i hi => ?_⟩
    have e : ∃ k : CK, kGate[i % 5]? = some k ∧ k = .int .i64 := by
      have : i % 5 = 0 ∨ i % 5 = 1 ∨ i % 5 = 2 ∨ i % 5 = 3 ∨ i % 5 = 4 := by omega
      rcases this with e | e | e | e | e <;> rw [e] <;> exact ⟨_, rfl, rfl⟩
    obtain ⟨k, e1, rfl⟩ := e
    obtain ⟨a, e2, m, rfl⟩ := h6 (i / 5) (i % 5) _ (by omega) e1
    refine ⟨m, ?_⟩
    have e3 : i / 5 * kGate.length + i % 5 = i := by show i / 5 * 5 + i % 5 = i; omega
    rw [e3] at e2
    rw [Nat.zero_add]; exact e2
theorem chgs_of {row : List AV} : ∀ (n : Nat), n * 3 ≤ row.length → (∀ (i j : Nat) (k : CK), i < n → kChg[j]? = some k → ∃ a, row[i * kChg.length + j]? = some a ∧ ckOK k a) →
    ∃ cs : List Chg, cs.length = n ∧ row.take (n * 3) = flatC3 cs ∧ ∀ c ∈ cs, (∀ b ∈ c.val, b < 256) ∧ c.val.length < 9223372036854775808
  | 0, _, _ => ⟨[], rfl, by simp [flatC3], fun c hc => by cases hc⟩
  | n + 1, hl, h => by
    obtain ⟨cs, h1, h2, h3⟩ := chgs_of n (by omega) (fun i j k hi => h i j k (by omega))
    obtain ⟨a, ea, x, rfl⟩ := h n 0 _ (by omega) rfl
    obtain ⟨b, eb, y, rfl⟩ := h n 1 _ (by omega) rfl
    obtain ⟨c, ec, s, rfl, hs1, hs2⟩ := h n 2 _ (by omega) rfl
    have ea' : row[n * 3 + 0]? = some (.int .i64 x) := ea
    have eb' : row[n * 3 + 1]? = some (.int .i64 y) := eb
    have ec' : row[n * 3 + 2]? = some (.str s) := ec
    refine ⟨cs ++ [⟨x, y, s⟩], by simp [h1], ?_, fun c hc => ?_⟩
    · unfold flatC3 at h2 ⊢
      rw [List.flatMap_append, ← h2]
      apply List.ext_getElem?
      intro i
      have hlen : (row.take (n * 3)).length = n * 3 := by rw [List.length_take]; omega
      rw [List.getElem?_take]
      by_cases hi : i < n * 3
      · rw [if_pos (by omega), List.getElem?_append_left (by omega), List.getElem?_take, if_pos hi]
      · rw [List.getElem?_append_right (by omega), hlen]
        by_cases hi2 : i < (n + 1) * 3
        · rw [if_pos hi2]
          have : i = n * 3 + 0 ∨ i = n * 3 + 1 ∨ i = n * 3 + 2 := by omega
          rcases this with rfl | rfl | rfl
          · rw [ea', Nat.add_sub_cancel_left]; rfl
          · rw [eb', Nat.add_sub_cancel_left]; rfl
          · rw [ec', Nat.add_sub_cancel_left]; rfl
        · rw [if_neg hi2, List.getElem?_eq_none]
          show 3 ≤ i - n * 3
          omega
    · rcases List.mem_append.1 hc with h4 | h4
      · exact h3 c h4
      · simp at h4; subst h4
        exact ⟨hs1, by have : s.length ≤ 9223372036854775807 := hs2; show s.length < _; omega⟩
theorem rowC_of [Env] {t : TB} {b bd n : Nat} {av : AV} (h : RowsK t b av n kChg) (hb : b < bd) : ∃ cs : List Chg, cs.length = n ∧ RowC t bd av cs ∧ ∀ c ∈ cs, (∀ b ∈ c.val, b < 256) ∧ c.val.length < 9223372036854775808 := by
  rcases h with ⟨rfl, rfl⟩ | ⟨c, row, h1, h2, h3, h4, h5, h6⟩
  · exact ⟨[], rfl, .inl ⟨rfl, rfl⟩, fun c hc => by cases hc⟩
  · have h3' : row.length = c * 3 := h3
    obtain ⟨cs, e1, e2, e3⟩ := chgs_of (row := row) n (by omega) (fun i j k hi hj => h6 i j k (by omega) hj)
    subst e1
    exact ⟨cs, rfl, .inr ⟨b, 0, c, true, false, row, h1, hb, h2, by omega, by rw [List.drop_zero]; exact e2⟩, e3⟩

theorem tb_ok [Env] : TabOK Tryz.prog [9, 66, 109, 111, 193] tb := by
  intro f af h
  unfold tb at h
  rcases two_ways (g := fun f => bif f == 17 then some (.prim pTrue) else fnOf Tryz.prog [9, 66, 109, 111, 193] f) h with ⟨rfl, rfl⟩ | h
  · exact ⟨pTrim_ok, Tryz.f104, Tryz.func104, by kernel_rfl, of_decide_eq_true (by kernel_rfl)⟩
  rcases two_ways (g := fnOf Tryz.prog [9, 66, 109, 111, 193]) h with ⟨rfl, rfl⟩ | h
  · exact ⟨pTrue_ok Awk.awake_calls, Tryz.f17, Tryz.func17, by kernel_rfl, of_decide_eq_true (by kernel_rfl)⟩
  · obtain ⟨np, nt, body, res, rfl⟩ := fn_code h
    exact h
theorem law_wf [Env] {t : TB} {gv cv : AV} {m n : Nat} (hg : RowsK t 0 gv m kGate) (hc : RowsK t 1 cv n kChg) (b : Int) {p : Prop} (_hb : p) : WF tb 3 [gv, cv, .int .i64 b] t 2 (fun v t' nx' => v = .bool true) := by
  obtain ⟨cs, h1, h2, h3⟩ := rowC_of (bd := 2) hc (by omega)
  have l1 : m ≤ 9223372036854775807 := hg.le
  have l2 : n ≤ 9223372036854775807 := hc.le
  exact (law_ok (rows5_of (bd := 2) hg (by omega)) h2 (Nat.le_refl _) (by omega) (by omega) h3).mono (fun v t' nx' h => h.1)

end Go.Proofs.YtpjohgnhmjceiaaGreatDoor.WX
