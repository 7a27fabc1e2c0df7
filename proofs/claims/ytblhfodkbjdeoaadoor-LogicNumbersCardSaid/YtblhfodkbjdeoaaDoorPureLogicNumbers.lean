/- The pure statement of the law LogicNumbers. -/
import Derived.Test.YtblhfodkbjdeoaaDoorPureTOf
namespace Go.Proofs.YtblhfodkbjdeoaaDoor.Pure
open Go.RowKit Go.Proofs.YtblhfodkbjdeoaaDoorW.PrintWords Go.Proofs.YtblhfodkbjdeoaaDoorW.PrintLast Go.Proofs.YtblhfodkbjdeoaaDoorW.PrintMore Go.Proofs.YtblhfodkbjdeoaaDoor.Vec Go.Proofs.YtblhfodkbjdeoaaDoor.PLg Go.Proofs.YtblhfodkbjdeoaaDoor.PureL
set_option linter.unusedVariables false

theorem LogicNumbers : silkwormlaw01_LogicNumbers.Pure := by
  intro n wide wn ww
  have hn : -9223372036854775808 ≤ n ∧ n ≤ 9223372036854775807 := by simpa [Lit.wf, IntKind.min, IntKind.max, IntKind.signed, IntKind.bits] using wn
  suffices h : Ev (fun k => silkwormlaw01_LogicNumbers.f k n wide) true from h.rounds
  unfold silkwormlaw01_LogicNumbers.f
  refine Ev.bind (ev_of n wide) ?_
  have bad : (n < 0 ∨ wide < 1 ∨ 256 < wide) → Ev (fun k => silkwormlaw01_LogicNumbers.j0 k n wide (ofS n wide).1 (ofS n wide).2 true) true := by
    intro hb
    refine Ev.step (fun k => silkwormlaw01_LogicNumbers.j0.eq_2 _ _ _ _ _ k) (ev_pos rfl ?_)
    unfold ofS
    rw [if_pos hb]
    exact ev_pos nil_list (ev_pos rfl (ev_awake' rfl))
  by_cases h1 : n < 0
  · exact ev_pos h1 (bad (.inl h1))
  refine ev_neg h1 ?_
  by_cases h2 : wide < 1
  · exact ev_pos h2 (bad (.inr (.inl h2)))
  refine ev_neg h2 ?_
  by_cases h3 : wide > 256
  · rw [show decide (wide > 256) = true from decide_eq_true h3]
    exact bad (.inr (.inr h3))
  rw [show decide (wide > 256) = false from decide_eq_false h3]
  unfold ofS
  rw [if_neg (by omega)]
  obtain ⟨w, rfl⟩ := Int.eq_ofNat_of_zero_le (by omega : 0 ≤ wide)
  rw [Int.toNat_natCast]
  refine Ev.step (fun k => silkwormlaw01_LogicNumbers.j0.eq_2 _ _ _ _ _ k) (ev_neg (by decide) (Ev.bind (ev_Of n w (by omega) (by omega) (by omega)) (ev_pos rfl ?_)))
  refine Ev.step (fun k => silkwormlaw01_LogicNumbers.j1.eq_2 _ _ _ _ k) (ev_neg (by simp) ?_)
  have vec := ofL_vec (w := w) (by omega) (by omega) n
  have kn := ofL_known w n
  have vs := V_str (known_bits kn)
  refine Ev.bind (ev_numberS _ (by rw [strOfNums_size, ofL_length]; omega)) ?_
  have hN : numS (strOfNums (ofL w n)) = if n % 2 ^ w > 2147483647 then (0, 61) else (n % 2 ^ w, 0) := by
    unfold numS
    rw [if_pos vec, vs, if_pos kn, numb_ofL]
  rw [hN]
  have other : (w < 63 ∨ n ≤ 2147483647) → Ev (fun k => silkwormlaw01_LogicNumbers.j2 k n (w : Int) (if n % 2 ^ w > 2147483647 then ((0 : Int), (61 : Int)) else (n % 2 ^ w, 0)).1 (if n % 2 ^ w > 2147483647 then ((0 : Int), (61 : Int)) else (n % 2 ^ w, 0)).2 false) true := by
    intro ho
    refine Ev.step (fun k => silkwormlaw01_LogicNumbers.j2.eq_2 _ _ _ _ _ k) (ev_neg (by decide) ?_)
    by_cases hw : (w : Int) < 31
    · have hp : (2 : Int) ^ w ≤ 2 ^ 30 := by
        have : (2 : Nat) ^ w ≤ 2 ^ 30 := Nat.pow_le_pow_right (by decide) (by omega)
        exact_mod_cast this
      have h4 := Int.emod_lt_of_pos n (pow_pos' w)
      rw [if_neg (by omega)]
      refine ev_pos hw (ev_pos rfl (ev_pos (by omega) (ev_pos ?_ (ev_awake' rfl))))
      have hpp := pow_pos' w
      have e1 : YtblhfodkbjdeoaaDoorW.PrintWords.shl .i64 1 (w : Int) = 2 ^ w := by
        unfold YtblhfodkbjdeoaaDoorW.PrintWords.shl
        have : min (w : Int).toNat IntKind.i64.bits = w := by
          rw [Int.toNat_natCast]
          exact Nat.min_eq_left (by have : IntKind.i64.bits = 64 := rfl
                                    omega)
        rw [this, Int.one_mul, IntKind.wrap_i64]
        omega
      rw [e1, w64_in (by omega) (by omega), and_mask n w (by omega)]
    · exact ev_neg hw (ev_pos (by omega) (ev_awake' rfl))
  by_cases h63 : (w : Int) ≥ 63
  · refine ev_pos h63 ?_
    by_cases hbig : n > 2147483647
    · rw [show decide (n > 2147483647) = true from decide_eq_true hbig]
      refine Ev.step (fun k => silkwormlaw01_LogicNumbers.j2.eq_2 _ _ _ _ _ k) (ev_pos rfl ?_)
      have hp : (2 : Int) ^ 63 ≤ 2 ^ w := by
        have : (2 : Nat) ^ 63 ≤ 2 ^ w := Nat.pow_le_pow_right (by decide) (by omega)
        exact_mod_cast this
      have e : n % 2 ^ w = n := Int.emod_eq_of_lt (by omega) (by
        have : (2 : Int) ^ 63 = 9223372036854775808 := by decide
        omega)
      rw [e, if_pos hbig]
      exact ev_pos rfl (ev_pos rfl (ev_awake' rfl))
    · rw [show decide (n > 2147483647) = false from decide_eq_false hbig]
      exact other (.inr (by omega))
  · exact ev_neg h63 (other (.inl (by omega)))
end Go.Proofs.YtblhfodkbjdeoaaDoor.Pure
