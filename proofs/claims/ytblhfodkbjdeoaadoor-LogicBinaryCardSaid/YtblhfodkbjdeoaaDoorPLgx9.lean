-- By this session's program prinj.py, out of the translation and contracts proved by hand. Not trusted: Lean checks it.
import Derived.Test.YtblhfodkbjdeoaaDoorPLgx0
import Derived.Test.YtblhfodkbjdeoaaDoorPLgx6
import Derived.Test.YtblhfodkbjdeoaaDoorPLgx7
import Derived.Test.YtblhfodkbjdeoaaDoorPLgx8
namespace Go.Proofs.YtblhfodkbjdeoaaDoor.PLg
open Go.RowKit Go.Proofs.YtblhfodkbjdeoaaDoorW.PrintWords Go.Proofs.YtblhfodkbjdeoaaDoorW.PrintLast Go.Proofs.YtblhfodkbjdeoaaDoorW.PrintMore
attribute [local go_sem] max2_int min2_int max_two min_two max_three min_three max_four min_four   -- for this text's walks alone
attribute [local go_sem] str_leq str_gtr str_geq
set_option linter.unusedVariables false
set_option linter.unusedSimpArgs false

/-! ### silkwormref01_Binary: function 18 -/
mutual
def silkwormref01_Binary.j0 : Nat → Int → ByteArray → ByteArray → Int → Bool → Option (ByteArray × Bool)
  | 0, _, _, _, _, _ => none
  | k + 1, x0, x1, x2, x9, x10 => if x10 = true then ((silkwormref01_shift.f k x0 x1 x2).bind fun t232 => (some (t232, true))) else (if x9 = 26 then ((silkwormref01_Truth.f k x1).bind fun t233 => ((silkwormref01_Truth.f k x2).bind fun t234 => ((silkwormref01_And.f k t233 t234).bind fun t235 => ((silkwormref01_one.f t235).bind fun t236 => (some (t236, true)))))) else (if x9 = 27 then ((silkwormref01_Truth.f k x1).bind fun t237 => ((silkwormref01_Truth.f k x2).bind fun t238 => ((silkwormref01_Or.f k t237 t238).bind fun t239 => ((silkwormref01_one.f t239).bind fun t240 => (some (t240, true)))))) else ((silkwormref01_Fit.f k x1 (mx (x1.size : Int) (x2.size : Int))).bind fun t241 => ((silkwormref01_Fit.f k x2 (mx (x1.size : Int) (x2.size : Int))).bind fun t242 => (if x0 = 17 then (silkwormref01_Binary.j1 k x0 t241 t242 (mx (x1.size : Int) (x2.size : Int)) x0 (x0 == 17)) else (if x0 = 18 then (silkwormref01_Binary.j1 k x0 t241 t242 (mx (x1.size : Int) (x2.size : Int)) x0 (x0 == 18)) else (if x0 = 19 then (silkwormref01_Binary.j1 k x0 t241 t242 (mx (x1.size : Int) (x2.size : Int)) x0 (x0 == 19)) else (if x0 = 20 then (silkwormref01_Binary.j1 k x0 t241 t242 (mx (x1.size : Int) (x2.size : Int)) x0 (x0 == 20)) else (if x0 = 21 then (silkwormref01_Binary.j1 k x0 t241 t242 (mx (x1.size : Int) (x2.size : Int)) x0 (x0 == 21)) else (silkwormref01_Binary.j1 k x0 t241 t242 (mx (x1.size : Int) (x2.size : Int)) x0 (x0 == 22)))))))))))
def silkwormref01_Binary.j1 : Nat → Int → ByteArray → ByteArray → Int → Int → Bool → Option (ByteArray × Bool)
  | 0, _, _, _, _, _, _ => none
  | k + 1, x0, x1, x2, x8, x44, x45 => if x45 = true then ((silkwormref01_compared.f k x0 x1 x2).bind fun t243 => (some (t243, true))) else (if x44 = 23 then (silkwormref01_Binary.j2 k x0 x1 x2 x8 x44 (x44 == 23)) else (if x44 = 25 then (silkwormref01_Binary.j2 k x0 x1 x2 x8 x44 (x44 == 25)) else (silkwormref01_Binary.j2 k x0 x1 x2 x8 x44 (x44 == 24))))
def silkwormref01_Binary.j2 : Nat → Int → ByteArray → ByteArray → Int → Int → Bool → Option (ByteArray × Bool)
  | 0, _, _, _, _, _, _ => none
  | k + 1, x0, x1, x2, x8, x44, x56 => if x56 = true then ((silkwormref01_bits.f k x0 x1 x2).bind fun t244 => (some (t244, true))) else (if x44 = 13 then (silkwormref01_Binary.j3 k x0 x1 x2 x8 (x44 == 13)) else (silkwormref01_Binary.j3 k x0 x1 x2 x8 (x44 == 14)))
def silkwormref01_Binary.j3 : Nat → Int → ByteArray → ByteArray → Int → Bool → Option (ByteArray × Bool)
  | 0, _, _, _, _, _ => none
  | k + 1, x0, x1, x2, x8, x64 => if x64 = true then ((silkwormref01_Known.f k x1).bind fun t245 => (if t245 = true then ((silkwormref01_Known.f k x2).bind fun t246 => (silkwormref01_Binary.j4 k x0 x1 x2 x8 (!t246))) else (silkwormref01_Binary.j4 k x0 x1 x2 x8 true))) else (some ((⟨#[]⟩ : ByteArray), false))
def silkwormref01_Binary.j4 : Nat → Int → ByteArray → ByteArray → Int → Bool → Option (ByteArray × Bool)
  | 0, _, _, _, _, _ => none
  | k + 1, x0, x1, x2, x8, x74 => if x74 = true then ((silkwormref01_All.f k 120 x8).bind fun t247 => (some (t247, true))) else (if x0 = 14 then ((silkwormref01_turned.f k x2).bind fun t248 => ((silkwormref01_sum.f k x1 t248 1).bind fun t249 => (some (t249, true)))) else ((silkwormref01_sum.f k x1 x2 0).bind fun t250 => (some (t250, true))))
end
def silkwormref01_Binary.f (k : Nat) (a0 : Int) (a1 : ByteArray) (a2 : ByteArray) : Option (ByteArray × Bool) := if a0 = 15 then (silkwormref01_Binary.j0 k a0 a1 a2 a0 (a0 == 15)) else (silkwormref01_Binary.j0 k a0 a1 a2 a0 (a0 == 16))
theorem silkwormref01_Binary.mono_l : ∀ k, (∀ y0 y1 y2 y3 y4, LeO (silkwormref01_Binary.j0 k y0 y1 y2 y3 y4) (silkwormref01_Binary.j0 (k + 1) y0 y1 y2 y3 y4)) ∧ (∀ y0 y1 y2 y3 y4 y5, LeO (silkwormref01_Binary.j1 k y0 y1 y2 y3 y4 y5) (silkwormref01_Binary.j1 (k + 1) y0 y1 y2 y3 y4 y5)) ∧ (∀ y0 y1 y2 y3 y4 y5, LeO (silkwormref01_Binary.j2 k y0 y1 y2 y3 y4 y5) (silkwormref01_Binary.j2 (k + 1) y0 y1 y2 y3 y4 y5)) ∧ (∀ y0 y1 y2 y3 y4, LeO (silkwormref01_Binary.j3 k y0 y1 y2 y3 y4) (silkwormref01_Binary.j3 (k + 1) y0 y1 y2 y3 y4)) ∧ (∀ y0 y1 y2 y3 y4, LeO (silkwormref01_Binary.j4 k y0 y1 y2 y3 y4) (silkwormref01_Binary.j4 (k + 1) y0 y1 y2 y3 y4))
  | 0 => ⟨fun _ _ _ _ _ r h => by simp [silkwormref01_Binary.j0] at h, fun _ _ _ _ _ _ r h => by simp [silkwormref01_Binary.j1] at h, fun _ _ _ _ _ _ r h => by simp [silkwormref01_Binary.j2] at h, fun _ _ _ _ _ r h => by simp [silkwormref01_Binary.j3] at h, fun _ _ _ _ _ r h => by simp [silkwormref01_Binary.j4] at h⟩
  | k + 1 => by
    obtain ⟨ih0, ih1, ih2, ih3, ih4⟩ := silkwormref01_Binary.mono_l k
    refine ⟨?_, ?_, ?_, ?_, ?_⟩
    · intro y0 y1 y2 y3 y4
      unfold silkwormref01_Binary.j0
      repeat' first
      | (with_reducible exact ih0 _ _ _ _ _)
      | (with_reducible exact ih1 _ _ _ _ _ _)
      | (with_reducible exact ih2 _ _ _ _ _ _)
      | (with_reducible exact ih3 _ _ _ _ _)
      | (with_reducible exact ih4 _ _ _ _ _)
      | (with_reducible exact silkwormref01_All.mono _ _ _)
      | (with_reducible exact silkwormref01_And.mono _ _ _)
      | (with_reducible exact silkwormref01_Fit.mono _ _ _)
      | (with_reducible exact silkwormref01_Known.mono _ _)
      | (with_reducible exact silkwormref01_Or.mono _ _ _)
      | (with_reducible exact silkwormref01_Truth.mono _ _)
      | (with_reducible exact silkwormref01_bits.mono _ _ _ _)
      | (with_reducible exact silkwormref01_compared.mono _ _ _ _)
      | (with_reducible exact silkwormref01_shift.mono _ _ _ _)
      | (with_reducible exact silkwormref01_sum.mono _ _ _ _)
      | (with_reducible exact silkwormref01_turned.mono _ _)
      | (with_reducible exact LeO.refl _)
      | (with_reducible exact LeO.none _)
      | (with_reducible refine LeO.ite ?_ ?_)
      | (with_reducible refine LeO.bind ?_ (fun _ => ?_))
      | exact ih0 _ _ _ _ _
      | exact ih1 _ _ _ _ _ _
      | exact ih2 _ _ _ _ _ _
      | exact ih3 _ _ _ _ _
      | exact ih4 _ _ _ _ _
      | exact silkwormref01_All.mono _ _ _
      | exact silkwormref01_And.mono _ _ _
      | exact silkwormref01_Fit.mono _ _ _
      | exact silkwormref01_Known.mono _ _
      | exact silkwormref01_Or.mono _ _ _
      | exact silkwormref01_Truth.mono _ _
      | exact silkwormref01_bits.mono _ _ _ _
      | exact silkwormref01_compared.mono _ _ _ _
      | exact silkwormref01_shift.mono _ _ _ _
      | exact silkwormref01_sum.mono _ _ _ _
      | exact silkwormref01_turned.mono _ _
      | exact LeO.none _
      | refine LeO.ite ?_ ?_
      | refine LeO.bind ?_ (fun _ => ?_)
    · intro y0 y1 y2 y3 y4 y5
      unfold silkwormref01_Binary.j1
      repeat' first
      | (with_reducible exact ih0 _ _ _ _ _)
      | (with_reducible exact ih1 _ _ _ _ _ _)
      | (with_reducible exact ih2 _ _ _ _ _ _)
      | (with_reducible exact ih3 _ _ _ _ _)
      | (with_reducible exact ih4 _ _ _ _ _)
      | (with_reducible exact silkwormref01_All.mono _ _ _)
      | (with_reducible exact silkwormref01_And.mono _ _ _)
      | (with_reducible exact silkwormref01_Fit.mono _ _ _)
      | (with_reducible exact silkwormref01_Known.mono _ _)
      | (with_reducible exact silkwormref01_Or.mono _ _ _)
      | (with_reducible exact silkwormref01_Truth.mono _ _)
      | (with_reducible exact silkwormref01_bits.mono _ _ _ _)
      | (with_reducible exact silkwormref01_compared.mono _ _ _ _)
      | (with_reducible exact silkwormref01_shift.mono _ _ _ _)
      | (with_reducible exact silkwormref01_sum.mono _ _ _ _)
      | (with_reducible exact silkwormref01_turned.mono _ _)
      | (with_reducible exact LeO.refl _)
      | (with_reducible exact LeO.none _)
      | (with_reducible refine LeO.ite ?_ ?_)
      | (with_reducible refine LeO.bind ?_ (fun _ => ?_))
      | exact ih0 _ _ _ _ _
      | exact ih1 _ _ _ _ _ _
      | exact ih2 _ _ _ _ _ _
      | exact ih3 _ _ _ _ _
      | exact ih4 _ _ _ _ _
      | exact silkwormref01_All.mono _ _ _
      | exact silkwormref01_And.mono _ _ _
      | exact silkwormref01_Fit.mono _ _ _
      | exact silkwormref01_Known.mono _ _
      | exact silkwormref01_Or.mono _ _ _
      | exact silkwormref01_Truth.mono _ _
      | exact silkwormref01_bits.mono _ _ _ _
      | exact silkwormref01_compared.mono _ _ _ _
      | exact silkwormref01_shift.mono _ _ _ _
      | exact silkwormref01_sum.mono _ _ _ _
      | exact silkwormref01_turned.mono _ _
      | exact LeO.none _
      | refine LeO.ite ?_ ?_
      | refine LeO.bind ?_ (fun _ => ?_)
    · intro y0 y1 y2 y3 y4 y5
      unfold silkwormref01_Binary.j2
      repeat' first
      | (with_reducible exact ih0 _ _ _ _ _)
      | (with_reducible exact ih1 _ _ _ _ _ _)
      | (with_reducible exact ih2 _ _ _ _ _ _)
      | (with_reducible exact ih3 _ _ _ _ _)
      | (with_reducible exact ih4 _ _ _ _ _)
      | (with_reducible exact silkwormref01_All.mono _ _ _)
      | (with_reducible exact silkwormref01_And.mono _ _ _)
      | (with_reducible exact silkwormref01_Fit.mono _ _ _)
      | (with_reducible exact silkwormref01_Known.mono _ _)
      | (with_reducible exact silkwormref01_Or.mono _ _ _)
      | (with_reducible exact silkwormref01_Truth.mono _ _)
      | (with_reducible exact silkwormref01_bits.mono _ _ _ _)
      | (with_reducible exact silkwormref01_compared.mono _ _ _ _)
      | (with_reducible exact silkwormref01_shift.mono _ _ _ _)
      | (with_reducible exact silkwormref01_sum.mono _ _ _ _)
      | (with_reducible exact silkwormref01_turned.mono _ _)
      | (with_reducible exact LeO.refl _)
      | (with_reducible exact LeO.none _)
      | (with_reducible refine LeO.ite ?_ ?_)
      | (with_reducible refine LeO.bind ?_ (fun _ => ?_))
      | exact ih0 _ _ _ _ _
      | exact ih1 _ _ _ _ _ _
      | exact ih2 _ _ _ _ _ _
      | exact ih3 _ _ _ _ _
      | exact ih4 _ _ _ _ _
      | exact silkwormref01_All.mono _ _ _
      | exact silkwormref01_And.mono _ _ _
      | exact silkwormref01_Fit.mono _ _ _
      | exact silkwormref01_Known.mono _ _
      | exact silkwormref01_Or.mono _ _ _
      | exact silkwormref01_Truth.mono _ _
      | exact silkwormref01_bits.mono _ _ _ _
      | exact silkwormref01_compared.mono _ _ _ _
      | exact silkwormref01_shift.mono _ _ _ _
      | exact silkwormref01_sum.mono _ _ _ _
      | exact silkwormref01_turned.mono _ _
      | exact LeO.none _
      | refine LeO.ite ?_ ?_
      | refine LeO.bind ?_ (fun _ => ?_)
    · intro y0 y1 y2 y3 y4
      unfold silkwormref01_Binary.j3
      repeat' first
      | (with_reducible exact ih0 _ _ _ _ _)
      | (with_reducible exact ih1 _ _ _ _ _ _)
      | (with_reducible exact ih2 _ _ _ _ _ _)
      | (with_reducible exact ih3 _ _ _ _ _)
      | (with_reducible exact ih4 _ _ _ _ _)
      | (with_reducible exact silkwormref01_All.mono _ _ _)
      | (with_reducible exact silkwormref01_And.mono _ _ _)
      | (with_reducible exact silkwormref01_Fit.mono _ _ _)
      | (with_reducible exact silkwormref01_Known.mono _ _)
      | (with_reducible exact silkwormref01_Or.mono _ _ _)
      | (with_reducible exact silkwormref01_Truth.mono _ _)
      | (with_reducible exact silkwormref01_bits.mono _ _ _ _)
      | (with_reducible exact silkwormref01_compared.mono _ _ _ _)
      | (with_reducible exact silkwormref01_shift.mono _ _ _ _)
      | (with_reducible exact silkwormref01_sum.mono _ _ _ _)
      | (with_reducible exact silkwormref01_turned.mono _ _)
      | (with_reducible exact LeO.refl _)
      | (with_reducible exact LeO.none _)
      | (with_reducible refine LeO.ite ?_ ?_)
      | (with_reducible refine LeO.bind ?_ (fun _ => ?_))
      | exact ih0 _ _ _ _ _
      | exact ih1 _ _ _ _ _ _
      | exact ih2 _ _ _ _ _ _
      | exact ih3 _ _ _ _ _
      | exact ih4 _ _ _ _ _
      | exact silkwormref01_All.mono _ _ _
      | exact silkwormref01_And.mono _ _ _
      | exact silkwormref01_Fit.mono _ _ _
      | exact silkwormref01_Known.mono _ _
      | exact silkwormref01_Or.mono _ _ _
      | exact silkwormref01_Truth.mono _ _
      | exact silkwormref01_bits.mono _ _ _ _
      | exact silkwormref01_compared.mono _ _ _ _
      | exact silkwormref01_shift.mono _ _ _ _
      | exact silkwormref01_sum.mono _ _ _ _
      | exact silkwormref01_turned.mono _ _
      | exact LeO.none _
      | refine LeO.ite ?_ ?_
      | refine LeO.bind ?_ (fun _ => ?_)
    · intro y0 y1 y2 y3 y4
      unfold silkwormref01_Binary.j4
      repeat' first
      | (with_reducible exact ih0 _ _ _ _ _)
      | (with_reducible exact ih1 _ _ _ _ _ _)
      | (with_reducible exact ih2 _ _ _ _ _ _)
      | (with_reducible exact ih3 _ _ _ _ _)
      | (with_reducible exact ih4 _ _ _ _ _)
      | (with_reducible exact silkwormref01_All.mono _ _ _)
      | (with_reducible exact silkwormref01_And.mono _ _ _)
      | (with_reducible exact silkwormref01_Fit.mono _ _ _)
      | (with_reducible exact silkwormref01_Known.mono _ _)
      | (with_reducible exact silkwormref01_Or.mono _ _ _)
      | (with_reducible exact silkwormref01_Truth.mono _ _)
      | (with_reducible exact silkwormref01_bits.mono _ _ _ _)
      | (with_reducible exact silkwormref01_compared.mono _ _ _ _)
      | (with_reducible exact silkwormref01_shift.mono _ _ _ _)
      | (with_reducible exact silkwormref01_sum.mono _ _ _ _)
      | (with_reducible exact silkwormref01_turned.mono _ _)
      | (with_reducible exact LeO.refl _)
      | (with_reducible exact LeO.none _)
      | (with_reducible refine LeO.ite ?_ ?_)
      | (with_reducible refine LeO.bind ?_ (fun _ => ?_))
      | exact ih0 _ _ _ _ _
      | exact ih1 _ _ _ _ _ _
      | exact ih2 _ _ _ _ _ _
      | exact ih3 _ _ _ _ _
      | exact ih4 _ _ _ _ _
      | exact silkwormref01_All.mono _ _ _
      | exact silkwormref01_And.mono _ _ _
      | exact silkwormref01_Fit.mono _ _ _
      | exact silkwormref01_Known.mono _ _
      | exact silkwormref01_Or.mono _ _ _
      | exact silkwormref01_Truth.mono _ _
      | exact silkwormref01_bits.mono _ _ _ _
      | exact silkwormref01_compared.mono _ _ _ _
      | exact silkwormref01_shift.mono _ _ _ _
      | exact silkwormref01_sum.mono _ _ _ _
      | exact silkwormref01_turned.mono _ _
      | exact LeO.none _
      | refine LeO.ite ?_ ?_
      | refine LeO.bind ?_ (fun _ => ?_)
theorem silkwormref01_Binary.mono : ∀ a0 a1 a2 k, LeO (silkwormref01_Binary.f k a0 a1 a2) (silkwormref01_Binary.f (k + 1) a0 a1 a2) := by
  intro a0 a1 a2 k
  obtain ⟨ih0, ih1, ih2, ih3, ih4⟩ := silkwormref01_Binary.mono_l k
  unfold silkwormref01_Binary.f
  repeat' first
      | (with_reducible exact ih0 _ _ _ _ _)
      | (with_reducible exact ih1 _ _ _ _ _ _)
      | (with_reducible exact ih2 _ _ _ _ _ _)
      | (with_reducible exact ih3 _ _ _ _ _)
      | (with_reducible exact ih4 _ _ _ _ _)
      | (with_reducible exact silkwormref01_All.mono _ _ _)
      | (with_reducible exact silkwormref01_And.mono _ _ _)
      | (with_reducible exact silkwormref01_Fit.mono _ _ _)
      | (with_reducible exact silkwormref01_Known.mono _ _)
      | (with_reducible exact silkwormref01_Or.mono _ _ _)
      | (with_reducible exact silkwormref01_Truth.mono _ _)
      | (with_reducible exact silkwormref01_bits.mono _ _ _ _)
      | (with_reducible exact silkwormref01_compared.mono _ _ _ _)
      | (with_reducible exact silkwormref01_shift.mono _ _ _ _)
      | (with_reducible exact silkwormref01_sum.mono _ _ _ _)
      | (with_reducible exact silkwormref01_turned.mono _ _)
      | (with_reducible exact LeO.refl _)
      | (with_reducible exact LeO.none _)
      | (with_reducible refine LeO.ite ?_ ?_)
      | (with_reducible refine LeO.bind ?_ (fun _ => ?_))
      | exact ih0 _ _ _ _ _
      | exact ih1 _ _ _ _ _ _
      | exact ih2 _ _ _ _ _ _
      | exact ih3 _ _ _ _ _
      | exact ih4 _ _ _ _ _
      | exact silkwormref01_All.mono _ _ _
      | exact silkwormref01_And.mono _ _ _
      | exact silkwormref01_Fit.mono _ _ _
      | exact silkwormref01_Known.mono _ _
      | exact silkwormref01_Or.mono _ _ _
      | exact silkwormref01_Truth.mono _ _
      | exact silkwormref01_bits.mono _ _ _ _
      | exact silkwormref01_compared.mono _ _ _ _
      | exact silkwormref01_shift.mono _ _ _ _
      | exact silkwormref01_sum.mono _ _ _ _
      | exact silkwormref01_turned.mono _ _
      | exact LeO.none _
      | refine LeO.ite ?_ ?_
      | refine LeO.bind ?_ (fun _ => ?_)
set_option maxHeartbeats 8000000 in
set_option maxRecDepth 100000 in
theorem silkwormref01_Binary.calls (k : Nat) (a0 : Int) (a1 : ByteArray) (a2 : ByteArray) (r1 : ByteArray) (r2 : Bool) (w : World) (h : silkwormref01_Binary.f k a0 a1 a2 = some (r1, r2)) :
    Calls Tryd.prog 18 #[.int .i64 a0, .string a1, .string a2] w fun e w' => e = .returned (.tuple #[.string r1, .bool r2]) ∧ Below w.heap.size w w' := by
  have HB := Aside0.mk (Below.refl w.heap.size w)
  have H : (if a0 = 15 then (silkwormref01_Binary.j0 k a0 a1 a2 a0 (a0 == 15)) else (silkwormref01_Binary.j0 k a0 a1 a2 a0 (a0 == 16))) = some (r1, r2) := h
  clear h
  have HC4 := Aside0.mk H
  clear H
  go_enter Tryd.func18, Tryd.ntmps18
  go_upto_if 10 with (fail)
  go_cut [10] (fun v10 wc => ∃ (kq : Nat) (x10_3 : Bool), v10 = .bool x10_3 ∧ Aside0 (silkwormref01_Binary.j0 kq a0 a1 a2 a0 x10_3 = some (r1, r2)) ∧ Aside0 (kq ≤ k) ∧ Aside0 (Below w.heap.size w wc))
  case first =>
    have H := HC4.out
    clear HC4
    by_cases c5 : a0 = 15
    · rw [if_pos c5] at H
      have c5b0 : (a0 == 15) = true := beq_iff_eq.mpr c5
      have c5b1 : (a0 != 15) = false := bne_eq_false_iff_eq.mpr c5
      clear c5
      (first | rw [c5b0] | (simp only [i64_w, i32_w]; rw [c5b0]) | skip)
      have H' := Aside0.mk H
      clear H
      go_wp2
      go_meet
      case rel => exact ⟨_, ((a0 == 15)), (by first | rfl | (simp; done) | (simp [*]; done)), H', ⟨by first | omega | exact Nat.le_refl _⟩, ⟨by repeat (first | (with_reducible first | exact HB.out | apply below_alloc | apply pw_below_drewN | apply below_drew1) | exact HB.out)⟩⟩
    · rw [if_neg c5] at H
      have c5b0 : (a0 == 15) = false := beq_eq_false_iff_ne.mpr c5
      have c5b1 : (a0 != 15) = true := bne_iff_ne.mpr c5
      (first | rw [c5b0] | (simp only [i64_w, i32_w]; rw [c5b0]) | skip)
      have H' := Aside0.mk H
      clear H
      go_wp2
      go_meet
      case rel => exact ⟨_, ((a0 == 16)), (by first | rfl | (simp; done) | (simp [*]; done)), H', ⟨by first | omega | exact Nat.le_refl _⟩, ⟨by repeat (first | (with_reducible first | exact HB.out | apply below_alloc | apply pw_below_drewN | apply below_drew1) | exact HB.out)⟩⟩
  case rest =>
    clear HC4
    try clear c1
    try clear p2
    try clear c5
    try clear c5b0
    try clear c5b1
    obtain ⟨kq, x10_3, rfl, HA, HJ3, HB⟩ := hcut
    cases kq with
    | zero => exact absurd HA.out (by simp [silkwormref01_Binary.j0])
    | succ kj3 =>
      have H := HA.out
      clear HA
      simp only [silkwormref01_Binary.j0] at H
      by_cases c6 : x10_3 = true
      · subst c6
        have H1 : ((silkwormref01_shift.f kj3 a0 a1 a2).bind fun t232 => (some (t232, true))) = some (r1, r2) := by rw [if_pos rfl] at H; exact H
        clear H
        have H := H1
        clear H1
        replace H := Option.bind_eq_some_iff.mp H
        obtain ⟨t232, A70, H⟩ := H
        replace H : (some (t232, true)) = some (r1, r2) := H
        have A7 := Aside0.mk A70
        clear A70
        simp only [Option.some.injEq, Prod.mk.injEq] at H
        obtain ⟨rfl, rfl⟩ := H
        go_wp2_with (first | ((with_reducible refine gate_callee (f := 53) rfl ?_); refine goesL_ (some 16) rfl rfl Tryd.func53 (by kernel_rfl) rfl #[.int .i64 a0, .string a1, .string a2] rfl (by (try simp only [List.map_toArray, List.map_cons, List.map_nil]); first | done | rfl | (simp only [List.length_drop, List.length_take]; rfl)) ?_; (with_reducible refine (silkwormref01_shift.calls kj3 a0 a1 a2 t232 _ A7.out).mono ?_); rintro e w8 ⟨rfl, hb⟩; refine ⟨_, rfl, ?_⟩; have n0_ := Aside0.mk (below_step (by repeat (first | (with_reducible first | exact HB.out | apply below_alloc | apply pw_below_drewN | apply below_drew1) | exact HB.out)) hb); clear HB; have HB := n0_; clear n0_; (try clear hb); (try clear hb2); (try clear hk); (try clear hi)))
        go_ret2
        exact ⟨by first | rfl | (simp [errW_none, errW_some] <;> rfl) | (simp [*, errW_none, errW_some] <;> rfl), by repeat (first | (with_reducible first | exact HB.out | apply below_alloc | apply pw_below_drewN | apply below_drew1) | exact HB.out)⟩
      · replace c6 := Bool.eq_false_iff.mpr c6
        subst c6
        have H1 : (if a0 = 26 then ((silkwormref01_Truth.f kj3 a1).bind fun t233 => ((silkwormref01_Truth.f kj3 a2).bind fun t234 => ((silkwormref01_And.f kj3 t233 t234).bind fun t235 => ((silkwormref01_one.f t235).bind fun t236 => (some (t236, true)))))) else (if a0 = 27 then ((silkwormref01_Truth.f kj3 a1).bind fun t237 => ((silkwormref01_Truth.f kj3 a2).bind fun t238 => ((silkwormref01_Or.f kj3 t237 t238).bind fun t239 => ((silkwormref01_one.f t239).bind fun t240 => (some (t240, true)))))) else ((silkwormref01_Fit.f kj3 a1 (mx (a1.size : Int) (a2.size : Int))).bind fun t241 => ((silkwormref01_Fit.f kj3 a2 (mx (a1.size : Int) (a2.size : Int))).bind fun t242 => (if a0 = 17 then (silkwormref01_Binary.j1 kj3 a0 t241 t242 (mx (a1.size : Int) (a2.size : Int)) a0 (a0 == 17)) else (if a0 = 18 then (silkwormref01_Binary.j1 kj3 a0 t241 t242 (mx (a1.size : Int) (a2.size : Int)) a0 (a0 == 18)) else (if a0 = 19 then (silkwormref01_Binary.j1 kj3 a0 t241 t242 (mx (a1.size : Int) (a2.size : Int)) a0 (a0 == 19)) else (if a0 = 20 then (silkwormref01_Binary.j1 kj3 a0 t241 t242 (mx (a1.size : Int) (a2.size : Int)) a0 (a0 == 20)) else (if a0 = 21 then (silkwormref01_Binary.j1 kj3 a0 t241 t242 (mx (a1.size : Int) (a2.size : Int)) a0 (a0 == 21)) else (silkwormref01_Binary.j1 kj3 a0 t241 t242 (mx (a1.size : Int) (a2.size : Int)) a0 (a0 == 22))))))))))) = some (r1, r2) := by rw [if_neg (show ¬ (false = true) by decide)] at H; exact H
        clear H
        have H := H1
        clear H1
        by_cases c9 : a0 = 26
        · rw [if_pos c9] at H
          have c9b0 : (a0 == 26) = true := beq_iff_eq.mpr c9
          have c9b1 : (a0 != 26) = false := bne_eq_false_iff_eq.mpr c9
          clear c9
          replace H := Option.bind_eq_some_iff.mp H
          obtain ⟨t233, A100, H⟩ := H
          replace H : ((silkwormref01_Truth.f kj3 a2).bind fun t234 => ((silkwormref01_And.f kj3 t233 t234).bind fun t235 => ((silkwormref01_one.f t235).bind fun t236 => (some (t236, true))))) = some (r1, r2) := H
          have A10 := Aside0.mk A100
          clear A100
          replace H := Option.bind_eq_some_iff.mp H
          obtain ⟨t234, A110, H⟩ := H
          replace H : ((silkwormref01_And.f kj3 t233 t234).bind fun t235 => ((silkwormref01_one.f t235).bind fun t236 => (some (t236, true)))) = some (r1, r2) := H
          have A11 := Aside0.mk A110
          clear A110
          replace H := Option.bind_eq_some_iff.mp H
          obtain ⟨t235, A120, H⟩ := H
          replace H : ((silkwormref01_one.f t235).bind fun t236 => (some (t236, true))) = some (r1, r2) := H
          have A12 := Aside0.mk A120
          clear A120
          replace H := Option.bind_eq_some_iff.mp H
          obtain ⟨t236, A130, H⟩ := H
          replace H : (some (t236, true)) = some (r1, r2) := H
          have A13 := Aside0.mk A130
          clear A130
          simp only [Option.some.injEq, Prod.mk.injEq] at H
          obtain ⟨rfl, rfl⟩ := H
          go_wp2_with (first | ((with_reducible refine gate_callee (f := 39) rfl ?_); refine goesL_ (some 20) rfl rfl Tryd.func39 (by kernel_rfl) rfl #[.string a1] rfl (by (try simp only [List.map_toArray, List.map_cons, List.map_nil]); first | done | rfl | (simp only [List.length_drop, List.length_take]; rfl)) ?_; (with_reducible refine (silkwormref01_Truth.calls kj3 a1 t233 _ A10.out).mono ?_); rintro e w' ⟨rfl, ⟨nd, rfl⟩⟩; refine ⟨_, rfl, ?_⟩) | ((with_reducible refine gate_callee (f := 39) rfl ?_); refine goesL_ (some 22) rfl rfl Tryd.func39 (by kernel_rfl) rfl #[.string a2] rfl (by (try simp only [List.map_toArray, List.map_cons, List.map_nil]); first | done | rfl | (simp only [List.length_drop, List.length_take]; rfl)) ?_; (with_reducible refine (silkwormref01_Truth.calls kj3 a2 t234 _ A11.out).mono ?_); rintro e w' ⟨rfl, ⟨nd, rfl⟩⟩; refine ⟨_, rfl, ?_⟩) | ((with_reducible refine gate_callee (f := 55) rfl ?_); refine goesL_ (some 23) rfl rfl Tryd.func55 (by kernel_rfl) rfl #[.int .u8 t233, .int .u8 t234] rfl (by (try simp only [List.map_toArray, List.map_cons, List.map_nil]); first | done | rfl | (simp only [List.length_drop, List.length_take]; rfl)) ?_; (with_reducible refine (silkwormref01_And.calls kj3 t233 t234 t235 _ A12.out).mono ?_); rintro e w' ⟨rfl, ⟨nd, rfl⟩⟩; refine ⟨_, rfl, ?_⟩) | ((with_reducible refine gate_callee (f := 54) rfl ?_); refine goesL_ (some 24) rfl rfl Tryd.func54 (by kernel_rfl) rfl #[.int .u8 t235] rfl (by (try simp only [List.map_toArray, List.map_cons, List.map_nil]); first | done | rfl | (simp only [List.length_drop, List.length_take]; rfl)) ?_; (with_reducible refine (silkwormref01_one.calls t235 t236 _ A13.out).mono ?_); rintro e w14 ⟨rfl, hb⟩; refine ⟨_, rfl, ?_⟩; have n0_ := Aside0.mk (below_step (by repeat (first | (with_reducible first | exact HB.out | apply below_alloc | apply pw_below_drewN | apply below_drew1) | exact HB.out)) hb); clear HB; have HB := n0_; clear n0_; (try clear hb); (try clear hb2); (try clear hk); (try clear hi)))
          go_ret2
          exact ⟨by first | rfl | (simp [errW_none, errW_some] <;> rfl) | (simp [*, errW_none, errW_some] <;> rfl), by repeat (first | (with_reducible first | exact HB.out | apply below_alloc | apply pw_below_drewN | apply below_drew1) | exact HB.out)⟩
        · rw [if_neg c9] at H
          have c9b0 : (a0 == 26) = false := beq_eq_false_iff_ne.mpr c9
          have c9b1 : (a0 != 26) = true := bne_iff_ne.mpr c9
          by_cases c15 : a0 = 27
          · rw [if_pos c15] at H
            have c15b0 : (a0 == 27) = true := beq_iff_eq.mpr c15
            have c15b1 : (a0 != 27) = false := bne_eq_false_iff_eq.mpr c15
            clear c15
            replace H := Option.bind_eq_some_iff.mp H
            obtain ⟨t237, A160, H⟩ := H
            replace H : ((silkwormref01_Truth.f kj3 a2).bind fun t238 => ((silkwormref01_Or.f kj3 t237 t238).bind fun t239 => ((silkwormref01_one.f t239).bind fun t240 => (some (t240, true))))) = some (r1, r2) := H
            have A16 := Aside0.mk A160
            clear A160
            replace H := Option.bind_eq_some_iff.mp H
            obtain ⟨t238, A170, H⟩ := H
            replace H : ((silkwormref01_Or.f kj3 t237 t238).bind fun t239 => ((silkwormref01_one.f t239).bind fun t240 => (some (t240, true)))) = some (r1, r2) := H
            have A17 := Aside0.mk A170
            clear A170
            replace H := Option.bind_eq_some_iff.mp H
            obtain ⟨t239, A180, H⟩ := H
            replace H : ((silkwormref01_one.f t239).bind fun t240 => (some (t240, true))) = some (r1, r2) := H
            have A18 := Aside0.mk A180
            clear A180
            replace H := Option.bind_eq_some_iff.mp H
            obtain ⟨t240, A190, H⟩ := H
            replace H : (some (t240, true)) = some (r1, r2) := H
            have A19 := Aside0.mk A190
            clear A190
            simp only [Option.some.injEq, Prod.mk.injEq] at H
            obtain ⟨rfl, rfl⟩ := H
            go_wp2_with (first | ((with_reducible refine gate_callee (f := 39) rfl ?_); refine goesL_ (some 28) rfl rfl Tryd.func39 (by kernel_rfl) rfl #[.string a1] rfl (by (try simp only [List.map_toArray, List.map_cons, List.map_nil]); first | done | rfl | (simp only [List.length_drop, List.length_take]; rfl)) ?_; (with_reducible refine (silkwormref01_Truth.calls kj3 a1 t237 _ A16.out).mono ?_); rintro e w' ⟨rfl, ⟨nd, rfl⟩⟩; refine ⟨_, rfl, ?_⟩) | ((with_reducible refine gate_callee (f := 39) rfl ?_); refine goesL_ (some 30) rfl rfl Tryd.func39 (by kernel_rfl) rfl #[.string a2] rfl (by (try simp only [List.map_toArray, List.map_cons, List.map_nil]); first | done | rfl | (simp only [List.length_drop, List.length_take]; rfl)) ?_; (with_reducible refine (silkwormref01_Truth.calls kj3 a2 t238 _ A17.out).mono ?_); rintro e w' ⟨rfl, ⟨nd, rfl⟩⟩; refine ⟨_, rfl, ?_⟩) | ((with_reducible refine gate_callee (f := 56) rfl ?_); refine goesL_ (some 31) rfl rfl Tryd.func56 (by kernel_rfl) rfl #[.int .u8 t237, .int .u8 t238] rfl (by (try simp only [List.map_toArray, List.map_cons, List.map_nil]); first | done | rfl | (simp only [List.length_drop, List.length_take]; rfl)) ?_; (with_reducible refine (silkwormref01_Or.calls kj3 t237 t238 t239 _ A18.out).mono ?_); rintro e w' ⟨rfl, ⟨nd, rfl⟩⟩; refine ⟨_, rfl, ?_⟩) | ((with_reducible refine gate_callee (f := 54) rfl ?_); refine goesL_ (some 32) rfl rfl Tryd.func54 (by kernel_rfl) rfl #[.int .u8 t239] rfl (by (try simp only [List.map_toArray, List.map_cons, List.map_nil]); first | done | rfl | (simp only [List.length_drop, List.length_take]; rfl)) ?_; (with_reducible refine (silkwormref01_one.calls t239 t240 _ A19.out).mono ?_); rintro e w20 ⟨rfl, hb⟩; refine ⟨_, rfl, ?_⟩; have n0_ := Aside0.mk (below_step (by repeat (first | (with_reducible first | exact HB.out | apply below_alloc | apply pw_below_drewN | apply below_drew1) | exact HB.out)) hb); clear HB; have HB := n0_; clear n0_; (try clear hb); (try clear hb2); (try clear hk); (try clear hi)))
            go_ret2
            exact ⟨by first | rfl | (simp [errW_none, errW_some] <;> rfl) | (simp [*, errW_none, errW_some] <;> rfl), by repeat (first | (with_reducible first | exact HB.out | apply below_alloc | apply pw_below_drewN | apply below_drew1) | exact HB.out)⟩
          · rw [if_neg c15] at H
            have c15b0 : (a0 == 27) = false := beq_eq_false_iff_ne.mpr c15
            have c15b1 : (a0 != 27) = true := bne_iff_ne.mpr c15
            obtain ⟨ji21, hji21⟩ : ∃ j_ : Int, (mx (a1.size : Int) (a2.size : Int)) = j_ := ⟨_, rfl⟩
            replace H : ((silkwormref01_Fit.f kj3 a1 (ji21)).bind fun t241 => ((silkwormref01_Fit.f kj3 a2 (ji21)).bind fun t242 => (if a0 = 17 then (silkwormref01_Binary.j1 kj3 a0 t241 t242 ji21 a0 (a0 == 17)) else (if a0 = 18 then (silkwormref01_Binary.j1 kj3 a0 t241 t242 ji21 a0 (a0 == 18)) else (if a0 = 19 then (silkwormref01_Binary.j1 kj3 a0 t241 t242 ji21 a0 (a0 == 19)) else (if a0 = 20 then (silkwormref01_Binary.j1 kj3 a0 t241 t242 ji21 a0 (a0 == 20)) else (if a0 = 21 then (silkwormref01_Binary.j1 kj3 a0 t241 t242 ji21 a0 (a0 == 21)) else (silkwormref01_Binary.j1 kj3 a0 t241 t242 ji21 a0 (a0 == 22))))))))) = some (r1, r2) := by first | (rw [hji21] at H; exact H) | (simp only [hji21] at H ⊢; exact H)
            have hji21_ : (if (a1.size : Int) < (a2.size : Int) then (a2.size : Int) else (a1.size : Int)) = ji21 := hji21
            try have hji21__ : (if a1.size < a2.size then (a2.size : Int) else (a1.size : Int)) = ji21 := by rw [← hji21_]; simp only [Int.ofNat_lt]
            replace H := Option.bind_eq_some_iff.mp H
            obtain ⟨t241, A220, H⟩ := H
            replace H : ((silkwormref01_Fit.f kj3 a2 (ji21)).bind fun t242 => (if a0 = 17 then (silkwormref01_Binary.j1 kj3 a0 t241 t242 ji21 a0 (a0 == 17)) else (if a0 = 18 then (silkwormref01_Binary.j1 kj3 a0 t241 t242 ji21 a0 (a0 == 18)) else (if a0 = 19 then (silkwormref01_Binary.j1 kj3 a0 t241 t242 ji21 a0 (a0 == 19)) else (if a0 = 20 then (silkwormref01_Binary.j1 kj3 a0 t241 t242 ji21 a0 (a0 == 20)) else (if a0 = 21 then (silkwormref01_Binary.j1 kj3 a0 t241 t242 ji21 a0 (a0 == 21)) else (silkwormref01_Binary.j1 kj3 a0 t241 t242 ji21 a0 (a0 == 22)))))))) = some (r1, r2) := H
            have A22 := Aside0.mk A220
            clear A220
            replace H := Option.bind_eq_some_iff.mp H
            obtain ⟨t242, A230, H⟩ := H
            replace H : (if a0 = 17 then (silkwormref01_Binary.j1 kj3 a0 t241 t242 ji21 a0 (a0 == 17)) else (if a0 = 18 then (silkwormref01_Binary.j1 kj3 a0 t241 t242 ji21 a0 (a0 == 18)) else (if a0 = 19 then (silkwormref01_Binary.j1 kj3 a0 t241 t242 ji21 a0 (a0 == 19)) else (if a0 = 20 then (silkwormref01_Binary.j1 kj3 a0 t241 t242 ji21 a0 (a0 == 20)) else (if a0 = 21 then (silkwormref01_Binary.j1 kj3 a0 t241 t242 ji21 a0 (a0 == 21)) else (silkwormref01_Binary.j1 kj3 a0 t241 t242 ji21 a0 (a0 == 22))))))) = some (r1, r2) := H
            have A23 := Aside0.mk A230
            clear A230
            have HC24 := Aside0.mk H
            clear H
            go_upto_if 45 with (first | ((with_reducible refine gate_callee (f := 30) rfl ?_); refine goesL_ (some 40) rfl rfl Tryd.func30 (by kernel_rfl) rfl #[.string a1, .int .i64 ji21] rfl (by (try simp only [List.map_toArray, List.map_cons, List.map_nil]); first | done | (simp only [hji21]; rfl) | rfl | (simp only [List.length_drop, List.length_take]; rfl)) ?_; (with_reducible refine (silkwormref01_Fit.calls kj3 a1 ji21 t241 _ A22.out).mono ?_); rintro e w25 ⟨rfl, hb⟩; refine ⟨_, rfl, ?_⟩; have n0_ := Aside0.mk (below_step (by repeat (first | (with_reducible first | exact HB.out | apply below_alloc | apply pw_below_drewN | apply below_drew1) | exact HB.out)) hb); clear HB; have HB := n0_; clear n0_; (try clear hb); (try clear hb2); (try clear hk); (try clear hi)) | ((with_reducible refine gate_callee (f := 30) rfl ?_); refine goesL_ (some 43) rfl rfl Tryd.func30 (by kernel_rfl) rfl #[.string a2, .int .i64 ji21] rfl (by (try simp only [List.map_toArray, List.map_cons, List.map_nil]); first | done | (simp only [hji21]; rfl) | rfl | (simp only [List.length_drop, List.length_take]; rfl)) ?_; (with_reducible refine (silkwormref01_Fit.calls kj3 a2 ji21 t242 _ A23.out).mono ?_); rintro e w26 ⟨rfl, hb⟩; refine ⟨_, rfl, ?_⟩; have n0_ := Aside0.mk (below_step (by repeat (first | (with_reducible first | exact HB.out | apply below_alloc | apply pw_below_drewN | apply below_drew1) | exact HB.out)) hb); clear HB; have HB := n0_; clear n0_; (try clear hb); (try clear hb2); (try clear hk); (try clear hi)))
            (try simp only [Act.put, List.setIfInBounds_toArray, List.set_cons_zero, List.set_cons_succ])
            go_cut [45] (fun v45 wc => ∃ (kq : Nat) (x45_23 : Bool), v45 = .bool x45_23 ∧ Aside0 (silkwormref01_Binary.j1 kq a0 t241 t242 ji21 a0 x45_23 = some (r1, r2)) ∧ Aside0 (kq ≤ kj3) ∧ Aside0 (Below w.heap.size w wc))
            case first =>
              have H := HC24.out
              clear HC24
              by_cases c27 : a0 = 17
              · rw [if_pos c27] at H
                have c27b0 : (a0 == 17) = true := beq_iff_eq.mpr c27
                have c27b1 : (a0 != 17) = false := bne_eq_false_iff_eq.mpr c27
                clear c27
                (first | rw [c27b0] | (simp only [i64_w, i32_w]; rw [c27b0]) | skip)
                have H' := Aside0.mk H
                clear H
                go_wp2
                go_meet
                case rel => exact ⟨_, ((a0 == 17)), (by first | rfl | (simp; done) | (simp [*]; done)), H', ⟨by have := HJ3.out; first | omega | exact Nat.le_refl _⟩, ⟨by repeat (first | (with_reducible first | exact HB.out | apply below_alloc | apply pw_below_drewN | apply below_drew1) | exact HB.out)⟩⟩
              · rw [if_neg c27] at H
                have c27b0 : (a0 == 17) = false := beq_eq_false_iff_ne.mpr c27
                have c27b1 : (a0 != 17) = true := bne_iff_ne.mpr c27
                (first | rw [c27b0] | (simp only [i64_w, i32_w]; rw [c27b0]) | skip)
                by_cases c28 : a0 = 18
                · rw [if_pos c28] at H
                  have c28b0 : (a0 == 18) = true := beq_iff_eq.mpr c28
                  have c28b1 : (a0 != 18) = false := bne_eq_false_iff_eq.mpr c28
                  clear c28
                  have H' := Aside0.mk H
                  clear H
                  go_wp2
                  go_meet
                  case rel => exact ⟨_, ((a0 == 18)), (by first | rfl | (simp; done) | (simp [*]; done)), H', ⟨by have := HJ3.out; first | omega | exact Nat.le_refl _⟩, ⟨by repeat (first | (with_reducible first | exact HB.out | apply below_alloc | apply pw_below_drewN | apply below_drew1) | exact HB.out)⟩⟩
                · rw [if_neg c28] at H
                  have c28b0 : (a0 == 18) = false := beq_eq_false_iff_ne.mpr c28
                  have c28b1 : (a0 != 18) = true := bne_iff_ne.mpr c28
                  by_cases c29 : a0 = 19
                  · rw [if_pos c29] at H
                    have c29b0 : (a0 == 19) = true := beq_iff_eq.mpr c29
                    have c29b1 : (a0 != 19) = false := bne_eq_false_iff_eq.mpr c29
                    clear c29
                    have H' := Aside0.mk H
                    clear H
                    go_wp2
                    go_meet
                    case rel => exact ⟨_, ((a0 == 19)), (by first | rfl | (simp; done) | (simp [*]; done)), H', ⟨by have := HJ3.out; first | omega | exact Nat.le_refl _⟩, ⟨by repeat (first | (with_reducible first | exact HB.out | apply below_alloc | apply pw_below_drewN | apply below_drew1) | exact HB.out)⟩⟩
                  · rw [if_neg c29] at H
                    have c29b0 : (a0 == 19) = false := beq_eq_false_iff_ne.mpr c29
                    have c29b1 : (a0 != 19) = true := bne_iff_ne.mpr c29
                    by_cases c30 : a0 = 20
                    · rw [if_pos c30] at H
                      have c30b0 : (a0 == 20) = true := beq_iff_eq.mpr c30
                      have c30b1 : (a0 != 20) = false := bne_eq_false_iff_eq.mpr c30
                      clear c30
                      have H' := Aside0.mk H
                      clear H
                      go_wp2
                      go_meet
                      case rel => exact ⟨_, ((a0 == 20)), (by first | rfl | (simp; done) | (simp [*]; done)), H', ⟨by have := HJ3.out; first | omega | exact Nat.le_refl _⟩, ⟨by repeat (first | (with_reducible first | exact HB.out | apply below_alloc | apply pw_below_drewN | apply below_drew1) | exact HB.out)⟩⟩
                    · rw [if_neg c30] at H
                      have c30b0 : (a0 == 20) = false := beq_eq_false_iff_ne.mpr c30
                      have c30b1 : (a0 != 20) = true := bne_iff_ne.mpr c30
                      by_cases c31 : a0 = 21
                      · rw [if_pos c31] at H
                        have c31b0 : (a0 == 21) = true := beq_iff_eq.mpr c31
                        have c31b1 : (a0 != 21) = false := bne_eq_false_iff_eq.mpr c31
                        clear c31
                        have H' := Aside0.mk H
                        clear H
                        go_wp2
                        go_meet
                        case rel => exact ⟨_, ((a0 == 21)), (by first | rfl | (simp; done) | (simp [*]; done)), H', ⟨by have := HJ3.out; first | omega | exact Nat.le_refl _⟩, ⟨by repeat (first | (with_reducible first | exact HB.out | apply below_alloc | apply pw_below_drewN | apply below_drew1) | exact HB.out)⟩⟩
                      · rw [if_neg c31] at H
                        have c31b0 : (a0 == 21) = false := beq_eq_false_iff_ne.mpr c31
                        have c31b1 : (a0 != 21) = true := bne_iff_ne.mpr c31
                        have H' := Aside0.mk H
                        clear H
                        go_wp2
                        go_meet
                        case rel => exact ⟨_, ((a0 == 22)), (by first | rfl | (simp; done) | (simp [*]; done)), H', ⟨by have := HJ3.out; first | omega | exact Nat.le_refl _⟩, ⟨by repeat (first | (with_reducible first | exact HB.out | apply below_alloc | apply pw_below_drewN | apply below_drew1) | exact HB.out)⟩⟩
            case rest =>
              clear HC24
              try clear c1
              try clear c2
              try clear p2
              try clear c3
              try clear c5
              try clear c5b0
              try clear c5b1
              try clear c6
              try clear c9
              try clear c9b0
              try clear c9b1
              try clear c15
              try clear c15b0
              try clear c15b1
              try clear c18
              try clear c27
              try clear c27b0
              try clear c27b1
              try clear c28
              try clear c28b0
              try clear c28b1
              try clear c29
              try clear c29b0
              try clear c29b1
              try clear c30
              try clear c30b0
              try clear c30b1
              try clear c31
              try clear c31b0
              try clear c31b1
              try clear p2
              obtain ⟨kq, x45_23, rfl, HA, HJ23, HB⟩ := hcut
              cases kq with
              | zero => exact absurd HA.out (by simp [silkwormref01_Binary.j1])
              | succ kj23 =>
                have H := HA.out
                clear HA
                simp only [silkwormref01_Binary.j1] at H
                by_cases c32 : x45_23 = true
                · subst c32
                  have H1 : ((silkwormref01_compared.f kj23 a0 t241 t242).bind fun t243 => (some (t243, true))) = some (r1, r2) := by rw [if_pos rfl] at H; exact H
                  clear H
                  have H := H1
                  clear H1
                  replace H := Option.bind_eq_some_iff.mp H
                  obtain ⟨t243, A330, H⟩ := H
                  replace H : (some (t243, true)) = some (r1, r2) := H
                  have A33 := Aside0.mk A330
                  clear A330
                  simp only [Option.some.injEq, Prod.mk.injEq] at H
                  obtain ⟨rfl, rfl⟩ := H
                  go_wp2_with (first | ((with_reducible refine gate_callee (f := 57) rfl ?_); refine goesL_ (some 55) rfl rfl Tryd.func57 (by kernel_rfl) rfl #[.int .i64 a0, .string t241, .string t242] rfl (by (try simp only [List.map_toArray, List.map_cons, List.map_nil]); first | done | rfl | (simp only [List.length_drop, List.length_take]; rfl)) ?_; (with_reducible refine (silkwormref01_compared.calls kj23 a0 t241 t242 t243 _ A33.out).mono ?_); rintro e w' ⟨rfl, ⟨nd, rfl⟩⟩; refine ⟨_, rfl, ?_⟩))
                  go_ret2
                  exact ⟨by first | rfl | (simp [errW_none, errW_some] <;> rfl) | (simp only [← hji21]; first | rfl | (simp [errW_none, errW_some] <;> rfl)) | (simp [*, errW_none, errW_some] <;> rfl), by repeat (first | (with_reducible first | exact HB.out | apply below_alloc | apply pw_below_drewN | apply below_drew1) | exact HB.out)⟩
                · replace c32 := Bool.eq_false_iff.mpr c32
                  subst c32
                  have H1 : (if a0 = 23 then (silkwormref01_Binary.j2 kj23 a0 t241 t242 ji21 a0 (a0 == 23)) else (if a0 = 25 then (silkwormref01_Binary.j2 kj23 a0 t241 t242 ji21 a0 (a0 == 25)) else (silkwormref01_Binary.j2 kj23 a0 t241 t242 ji21 a0 (a0 == 24)))) = some (r1, r2) := by rw [if_neg (show ¬ (false = true) by decide)] at H; exact H
                  clear H
                  have H := H1
                  clear H1
                  have HC34 := Aside0.mk H
                  clear H
                  go_upto_if 56 with (fail)
                  go_cut [56] (fun v56 wc => ∃ (kq : Nat) (x56_33 : Bool), v56 = .bool x56_33 ∧ Aside0 (silkwormref01_Binary.j2 kq a0 t241 t242 ji21 a0 x56_33 = some (r1, r2)) ∧ Aside0 (kq ≤ kj23) ∧ Aside0 (Below w.heap.size w wc))
                  case first =>
                    have H := HC34.out
                    clear HC34
                    by_cases c35 : a0 = 23
                    · rw [if_pos c35] at H
                      have c35b0 : (a0 == 23) = true := beq_iff_eq.mpr c35
                      have c35b1 : (a0 != 23) = false := bne_eq_false_iff_eq.mpr c35
                      clear c35
                      (first | rw [c35b0] | (simp only [i64_w, i32_w]; rw [c35b0]) | skip)
                      have H' := Aside0.mk H
                      clear H
                      go_wp2
                      go_meet
                      case rel => exact ⟨_, ((a0 == 23)), (by first | rfl | (simp; done) | (simp [*]; done)), H', ⟨by have := HJ3.out; have := HJ23.out; first | omega | exact Nat.le_refl _⟩, ⟨by repeat (first | (with_reducible first | exact HB.out | apply below_alloc | apply pw_below_drewN | apply below_drew1) | exact HB.out)⟩⟩
                    · rw [if_neg c35] at H
                      have c35b0 : (a0 == 23) = false := beq_eq_false_iff_ne.mpr c35
                      have c35b1 : (a0 != 23) = true := bne_iff_ne.mpr c35
                      (first | rw [c35b0] | (simp only [i64_w, i32_w]; rw [c35b0]) | skip)
                      by_cases c36 : a0 = 25
                      · rw [if_pos c36] at H
                        have c36b0 : (a0 == 25) = true := beq_iff_eq.mpr c36
                        have c36b1 : (a0 != 25) = false := bne_eq_false_iff_eq.mpr c36
                        clear c36
                        have H' := Aside0.mk H
                        clear H
                        go_wp2
                        go_meet
                        case rel => exact ⟨_, ((a0 == 25)), (by first | rfl | (simp; done) | (simp [*]; done)), H', ⟨by have := HJ3.out; have := HJ23.out; first | omega | exact Nat.le_refl _⟩, ⟨by repeat (first | (with_reducible first | exact HB.out | apply below_alloc | apply pw_below_drewN | apply below_drew1) | exact HB.out)⟩⟩
                      · rw [if_neg c36] at H
                        have c36b0 : (a0 == 25) = false := beq_eq_false_iff_ne.mpr c36
                        have c36b1 : (a0 != 25) = true := bne_iff_ne.mpr c36
                        have H' := Aside0.mk H
                        clear H
                        go_wp2
                        go_meet
                        case rel => exact ⟨_, ((a0 == 24)), (by first | rfl | (simp; done) | (simp [*]; done)), H', ⟨by have := HJ3.out; have := HJ23.out; first | omega | exact Nat.le_refl _⟩, ⟨by repeat (first | (with_reducible first | exact HB.out | apply below_alloc | apply pw_below_drewN | apply below_drew1) | exact HB.out)⟩⟩
                  case rest =>
                    clear HC34
                    try clear c1
                    try clear c2
                    try clear p2
                    try clear c3
                    try clear c5
                    try clear c5b0
                    try clear c5b1
                    try clear c6
                    try clear c9
                    try clear c9b0
                    try clear c9b1
                    try clear c15
                    try clear c15b0
                    try clear c15b1
                    try clear c18
                    try clear c27
                    try clear c27b0
                    try clear c27b1
                    try clear c28
                    try clear c28b0
                    try clear c28b1
                    try clear c29
                    try clear c29b0
                    try clear c29b1
                    try clear c30
                    try clear c30b0
                    try clear c30b1
                    try clear c31
                    try clear c31b0
                    try clear c31b1
                    try clear c32
                    try clear c35
                    try clear c35b0
                    try clear c35b1
                    try clear c36
                    try clear c36b0
                    try clear c36b1
                    try clear p2
                    obtain ⟨kq, x56_33, rfl, HA, HJ33, HB⟩ := hcut
                    cases kq with
                    | zero => exact absurd HA.out (by simp [silkwormref01_Binary.j2])
                    | succ kj33 =>
                      have H := HA.out
                      clear HA
                      simp only [silkwormref01_Binary.j2] at H
                      by_cases c37 : x56_33 = true
                      · subst c37
                        have H1 : ((silkwormref01_bits.f kj33 a0 t241 t242).bind fun t244 => (some (t244, true))) = some (r1, r2) := by rw [if_pos rfl] at H; exact H
                        clear H
                        have H := H1
                        clear H1
                        replace H := Option.bind_eq_some_iff.mp H
                        obtain ⟨t244, A380, H⟩ := H
                        replace H : (some (t244, true)) = some (r1, r2) := H
                        have A38 := Aside0.mk A380
                        clear A380
                        simp only [Option.some.injEq, Prod.mk.injEq] at H
                        obtain ⟨rfl, rfl⟩ := H
                        go_wp2_with (first | ((with_reducible refine gate_callee (f := 58) rfl ?_); refine goesL_ (some 63) rfl rfl Tryd.func58 (by kernel_rfl) rfl #[.int .i64 a0, .string t241, .string t242] rfl (by (try simp only [List.map_toArray, List.map_cons, List.map_nil]); first | done | rfl | (simp only [List.length_drop, List.length_take]; rfl)) ?_; (with_reducible refine (silkwormref01_bits.calls kj33 a0 t241 t242 t244 _ A38.out).mono ?_); rintro e w39 ⟨rfl, hb⟩; refine ⟨_, rfl, ?_⟩; have n0_ := Aside0.mk (below_step (by repeat (first | (with_reducible first | exact HB.out | apply below_alloc | apply pw_below_drewN | apply below_drew1) | exact HB.out)) hb); clear HB; have HB := n0_; clear n0_; (try clear hb); (try clear hb2); (try clear hk); (try clear hi)))
                        go_ret2
                        exact ⟨by first | rfl | (simp [errW_none, errW_some] <;> rfl) | (simp only [← hji21]; first | rfl | (simp [errW_none, errW_some] <;> rfl)) | (simp [*, errW_none, errW_some] <;> rfl), by repeat (first | (with_reducible first | exact HB.out | apply below_alloc | apply pw_below_drewN | apply below_drew1) | exact HB.out)⟩
                      · replace c37 := Bool.eq_false_iff.mpr c37
                        subst c37
                        have H1 : (if a0 = 13 then (silkwormref01_Binary.j3 kj33 a0 t241 t242 ji21 (a0 == 13)) else (silkwormref01_Binary.j3 kj33 a0 t241 t242 ji21 (a0 == 14))) = some (r1, r2) := by rw [if_neg (show ¬ (false = true) by decide)] at H; exact H
                        clear H
                        have H := H1
                        clear H1
                        have HC40 := Aside0.mk H
                        clear H
                        go_upto_if 64 with (fail)
                        go_cut [64] (fun v64 wc => ∃ (kq : Nat) (x64_39 : Bool), v64 = .bool x64_39 ∧ Aside0 (silkwormref01_Binary.j3 kq a0 t241 t242 ji21 x64_39 = some (r1, r2)) ∧ Aside0 (kq ≤ kj33) ∧ Aside0 (Below w.heap.size w wc))
                        case first =>
                          have H := HC40.out
                          clear HC40
                          by_cases c41 : a0 = 13
                          · rw [if_pos c41] at H
                            have c41b0 : (a0 == 13) = true := beq_iff_eq.mpr c41
                            have c41b1 : (a0 != 13) = false := bne_eq_false_iff_eq.mpr c41
                            clear c41
                            (first | rw [c41b0] | (simp only [i64_w, i32_w]; rw [c41b0]) | skip)
                            have H' := Aside0.mk H
                            clear H
                            go_wp2
                            go_meet
                            case rel => exact ⟨_, ((a0 == 13)), (by first | rfl | (simp; done) | (simp [*]; done)), H', ⟨by have := HJ3.out; have := HJ23.out; have := HJ33.out; first | omega | exact Nat.le_refl _⟩, ⟨by repeat (first | (with_reducible first | exact HB.out | apply below_alloc | apply pw_below_drewN | apply below_drew1) | exact HB.out)⟩⟩
                          · rw [if_neg c41] at H
                            have c41b0 : (a0 == 13) = false := beq_eq_false_iff_ne.mpr c41
                            have c41b1 : (a0 != 13) = true := bne_iff_ne.mpr c41
                            (first | rw [c41b0] | (simp only [i64_w, i32_w]; rw [c41b0]) | skip)
                            have H' := Aside0.mk H
                            clear H
                            go_wp2
                            go_meet
                            case rel => exact ⟨_, ((a0 == 14)), (by first | rfl | (simp; done) | (simp [*]; done)), H', ⟨by have := HJ3.out; have := HJ23.out; have := HJ33.out; first | omega | exact Nat.le_refl _⟩, ⟨by repeat (first | (with_reducible first | exact HB.out | apply below_alloc | apply pw_below_drewN | apply below_drew1) | exact HB.out)⟩⟩
                        case rest =>
                          clear HC40
                          try clear c1
                          try clear c2
                          try clear p2
                          try clear c3
                          try clear c4
                          try clear c5
                          try clear c5b0
                          try clear c5b1
                          try clear c6
                          try clear c9
                          try clear c9b0
                          try clear c9b1
                          try clear c15
                          try clear c15b0
                          try clear c15b1
                          try clear c18
                          try clear c27
                          try clear c27b0
                          try clear c27b1
                          try clear c28
                          try clear c28b0
                          try clear c28b1
                          try clear c29
                          try clear c29b0
                          try clear c29b1
                          try clear c30
                          try clear c30b0
                          try clear c30b1
                          try clear c31
                          try clear c31b0
                          try clear c31b1
                          try clear c32
                          try clear c35
                          try clear c35b0
                          try clear c35b1
                          try clear c36
                          try clear c36b0
                          try clear c36b1
                          try clear c37
                          try clear c39
                          try clear c41
                          try clear c41b0
                          try clear c41b1
                          try clear p2
                          obtain ⟨kq, x64_39, rfl, HA, HJ39, HB⟩ := hcut
                          cases kq with
                          | zero => exact absurd HA.out (by simp [silkwormref01_Binary.j3])
                          | succ kj39 =>
                            have H := HA.out
                            clear HA
                            simp only [silkwormref01_Binary.j3] at H
                            by_cases c42 : x64_39 = true
                            · subst c42
                              have H1 : ((silkwormref01_Known.f kj39 t241).bind fun t245 => (if t245 = true then ((silkwormref01_Known.f kj39 t242).bind fun t246 => (silkwormref01_Binary.j4 kj39 a0 t241 t242 ji21 (!t246))) else (silkwormref01_Binary.j4 kj39 a0 t241 t242 ji21 true))) = some (r1, r2) := by rw [if_pos rfl] at H; exact H
                              clear H
                              have H := H1
                              clear H1
                              have HC43 := Aside0.mk H
                              clear H
                              go_upto_region 26 with (fail)
                              go_cut [74] (fun v74 wc => ∃ (kq : Nat) (x74_42 : Bool), v74 = .bool x74_42 ∧ Aside0 (silkwormref01_Binary.j4 kq a0 t241 t242 ji21 x74_42 = some (r1, r2)) ∧ Aside0 (kq ≤ kj39) ∧ Aside0 (Below w.heap.size w wc))
                              case first =>
                                have H := HC43.out
                                clear HC43
                                replace H := Option.bind_eq_some_iff.mp H
                                obtain ⟨t245, A440, H⟩ := H
                                replace H : (if t245 = true then ((silkwormref01_Known.f kj39 t242).bind fun t246 => (silkwormref01_Binary.j4 kj39 a0 t241 t242 ji21 (!t246))) else (silkwormref01_Binary.j4 kj39 a0 t241 t242 ji21 true)) = some (r1, r2) := H
                                have A44 := Aside0.mk A440
                                clear A440
                                by_cases c45 : t245 = true
                                · subst c45
                                  have H1 : ((silkwormref01_Known.f kj39 t242).bind fun t246 => (silkwormref01_Binary.j4 kj39 a0 t241 t242 ji21 (!t246))) = some (r1, r2) := by rw [if_pos rfl] at H; exact H
                                  clear H
                                  have H := H1
                                  clear H1
                                  replace H := Option.bind_eq_some_iff.mp H
                                  obtain ⟨t246, A460, H⟩ := H
                                  replace H : (silkwormref01_Binary.j4 kj39 a0 t241 t242 ji21 (!t246)) = some (r1, r2) := H
                                  have A46 := Aside0.mk A460
                                  clear A460
                                  have H' := Aside0.mk H
                                  clear H
                                  go_wp2_with (first | ((with_reducible refine gate_callee (f := 22) rfl ?_); refine goesL_ (some 68) rfl rfl Tryd.func22 (by kernel_rfl) rfl #[.string t241] rfl (by (try simp only [List.map_toArray, List.map_cons, List.map_nil]); first | done | rfl | (simp only [List.length_drop, List.length_take]; rfl)) ?_; (with_reducible refine (silkwormref01_Known.calls kj39 t241 true _ A44.out).mono ?_); rintro e w' ⟨rfl, ⟨nd, rfl⟩⟩; refine ⟨_, rfl, ?_⟩) | (go_at_call 22; (with_reducible refine (silkwormref01_Known.calls kj39 t242 t246 _ A46.out).mono ?_); rintro e w' ⟨rfl, ⟨nd, rfl⟩⟩))
                                  go_meet
                                  case rel => exact ⟨_, (!t246), (by first | rfl | (simp; done) | (simp [*]; done)), H', ⟨by have := HJ3.out; have := HJ23.out; have := HJ33.out; have := HJ39.out; first | omega | exact Nat.le_refl _⟩, ⟨by repeat (first | (with_reducible first | exact HB.out | apply below_alloc | apply pw_below_drewN | apply below_drew1) | exact HB.out)⟩⟩
                                · replace c45 := Bool.eq_false_iff.mpr c45
                                  subst c45
                                  have H1 : (silkwormref01_Binary.j4 kj39 a0 t241 t242 ji21 true) = some (r1, r2) := by rw [if_neg (show ¬ (false = true) by decide)] at H; exact H
                                  clear H
                                  have H := H1
                                  clear H1
                                  have H' := Aside0.mk H
                                  clear H
                                  go_wp2_with (first | ((with_reducible refine gate_callee (f := 22) rfl ?_); refine goesL_ (some 68) rfl rfl Tryd.func22 (by kernel_rfl) rfl #[.string t241] rfl (by (try simp only [List.map_toArray, List.map_cons, List.map_nil]); first | done | rfl | (simp only [List.length_drop, List.length_take]; rfl)) ?_; (with_reducible refine (silkwormref01_Known.calls kj39 t241 false _ A44.out).mono ?_); rintro e w' ⟨rfl, ⟨nd, rfl⟩⟩; refine ⟨_, rfl, ?_⟩))
                                  go_meet
                                  case rel => exact ⟨_, (true), (by first | rfl | (simp; done) | (simp [*]; done)), H', ⟨by have := HJ3.out; have := HJ23.out; have := HJ33.out; have := HJ39.out; first | omega | exact Nat.le_refl _⟩, ⟨by repeat (first | (with_reducible first | exact HB.out | apply below_alloc | apply pw_below_drewN | apply below_drew1) | exact HB.out)⟩⟩
                              case rest =>
                                clear HC43
                                try clear c1
                                try clear c2
                                try clear p2
                                try clear c3
                                try clear c4
                                try clear c5
                                try clear c5b0
                                try clear c5b1
                                try clear c6
                                try clear c9
                                try clear c9b0
                                try clear c9b1
                                try clear c15
                                try clear c15b0
                                try clear c15b1
                                try clear c18
                                try clear c22
                                try clear c27
                                try clear c27b0
                                try clear c27b1
                                try clear c28
                                try clear c28b0
                                try clear c28b1
                                try clear c29
                                try clear c29b0
                                try clear c29b1
                                try clear c30
                                try clear c30b0
                                try clear c30b1
                                try clear c31
                                try clear c31b0
                                try clear c31b1
                                try clear c32
                                try clear c35
                                try clear c35b0
                                try clear c35b1
                                try clear c36
                                try clear c36b0
                                try clear c36b1
                                try clear c37
                                try clear c39
                                try clear c41
                                try clear c41b0
                                try clear c41b1
                                try clear c42
                                try clear c45
                                try clear p2
                                obtain ⟨kq, x74_42, rfl, HA, HJ42, HB⟩ := hcut
                                cases kq with
                                | zero => exact absurd HA.out (by simp [silkwormref01_Binary.j4])
                                | succ kj42 =>
                                  have H := HA.out
                                  clear HA
                                  simp only [silkwormref01_Binary.j4] at H
                                  by_cases c47 : x74_42 = true
                                  · subst c47
                                    have H1 : ((silkwormref01_All.f kj42 120 ji21).bind fun t247 => (some (t247, true))) = some (r1, r2) := by rw [if_pos rfl] at H; exact H
                                    clear H
                                    have H := H1
                                    clear H1
                                    replace H := Option.bind_eq_some_iff.mp H
                                    obtain ⟨t247, A480, H⟩ := H
                                    replace H : (some (t247, true)) = some (r1, r2) := H
                                    have A48 := Aside0.mk A480
                                    clear A480
                                    simp only [Option.some.injEq, Prod.mk.injEq] at H
                                    obtain ⟨rfl, rfl⟩ := H
                                    go_wp2_with (first | ((with_reducible refine gate_callee (f := 59) rfl ?_); refine goesL_ (some 76) rfl rfl Tryd.func59 (by kernel_rfl) rfl #[.int .u8 120, .int .i64 ji21] rfl (by (try simp only [List.map_toArray, List.map_cons, List.map_nil]); first | done | (simp only [hji21]; rfl) | rfl | (simp only [List.length_drop, List.length_take]; rfl)) ?_; (with_reducible refine (silkwormref01_All.calls kj42 120 ji21 t247 _ A48.out).mono ?_); rintro e w49 ⟨rfl, hb⟩; refine ⟨_, rfl, ?_⟩; have n0_ := Aside0.mk (below_step (by repeat (first | (with_reducible first | exact HB.out | apply below_alloc | apply pw_below_drewN | apply below_drew1) | exact HB.out)) hb); clear HB; have HB := n0_; clear n0_; (try clear hb); (try clear hb2); (try clear hk); (try clear hi)))
                                    go_ret2
                                    exact ⟨by first | rfl | (simp [errW_none, errW_some] <;> rfl) | (simp only [← hji21]; first | rfl | (simp [errW_none, errW_some] <;> rfl)) | (simp [*, errW_none, errW_some] <;> rfl), by repeat (first | (with_reducible first | exact HB.out | apply below_alloc | apply pw_below_drewN | apply below_drew1) | exact HB.out)⟩
                                  · replace c47 := Bool.eq_false_iff.mpr c47
                                    subst c47
                                    have H1 : (if a0 = 14 then ((silkwormref01_turned.f kj42 t242).bind fun t248 => ((silkwormref01_sum.f kj42 t241 t248 1).bind fun t249 => (some (t249, true)))) else ((silkwormref01_sum.f kj42 t241 t242 0).bind fun t250 => (some (t250, true)))) = some (r1, r2) := by rw [if_neg (show ¬ (false = true) by decide)] at H; exact H
                                    clear H
                                    have H := H1
                                    clear H1
                                    by_cases c50 : a0 = 14
                                    · rw [if_pos c50] at H
                                      have c50b0 : (a0 == 14) = true := beq_iff_eq.mpr c50
                                      have c50b1 : (a0 != 14) = false := bne_eq_false_iff_eq.mpr c50
                                      clear c50
                                      replace H := Option.bind_eq_some_iff.mp H
                                      obtain ⟨t248, A510, H⟩ := H
                                      replace H : ((silkwormref01_sum.f kj42 t241 t248 1).bind fun t249 => (some (t249, true))) = some (r1, r2) := H
                                      have A51 := Aside0.mk A510
                                      clear A510
                                      replace H := Option.bind_eq_some_iff.mp H
                                      obtain ⟨t249, A520, H⟩ := H
                                      replace H : (some (t249, true)) = some (r1, r2) := H
                                      have A52 := Aside0.mk A520
                                      clear A520
                                      simp only [Option.some.injEq, Prod.mk.injEq] at H
                                      obtain ⟨rfl, rfl⟩ := H
                                      go_wp2_with (first | ((with_reducible refine gate_callee (f := 61) rfl ?_); refine goesL_ (some 81) rfl rfl Tryd.func61 (by kernel_rfl) rfl #[.string t242] rfl (by (try simp only [List.map_toArray, List.map_cons, List.map_nil]); first | done | rfl | (simp only [List.length_drop, List.length_take]; rfl)) ?_; (with_reducible refine (silkwormref01_turned.calls kj42 t242 t248 _ A51.out).mono ?_); rintro e w53 ⟨rfl, hb⟩; refine ⟨_, rfl, ?_⟩; have n0_ := Aside0.mk (below_step (by repeat (first | (with_reducible first | exact HB.out | apply below_alloc | apply pw_below_drewN | apply below_drew1) | exact HB.out)) hb); clear HB; have HB := n0_; clear n0_; (try clear hb); (try clear hb2); (try clear hk); (try clear hi)) | ((with_reducible refine gate_callee (f := 60) rfl ?_); refine goesL_ (some 82) rfl rfl Tryd.func60 (by kernel_rfl) rfl #[.string t241, .string t248, .int .i64 1] rfl (by (try simp only [List.map_toArray, List.map_cons, List.map_nil]); first | done | rfl | (simp only [List.length_drop, List.length_take]; rfl)) ?_; (with_reducible refine (silkwormref01_sum.calls kj42 t241 t248 1 t249 _ A52.out).mono ?_); rintro e w54 ⟨rfl, hb⟩; refine ⟨_, rfl, ?_⟩; have n0_ := Aside0.mk (below_step (by repeat (first | (with_reducible first | exact HB.out | apply below_alloc | apply pw_below_drewN | apply below_drew1) | exact HB.out)) hb); clear HB; have HB := n0_; clear n0_; (try clear hb); (try clear hb2); (try clear hk); (try clear hi)))
                                      go_ret2
                                      exact ⟨by first | rfl | (simp [errW_none, errW_some] <;> rfl) | (simp only [← hji21]; first | rfl | (simp [errW_none, errW_some] <;> rfl)) | (simp [*, errW_none, errW_some] <;> rfl), by repeat (first | (with_reducible first | exact HB.out | apply below_alloc | apply pw_below_drewN | apply below_drew1) | exact HB.out)⟩
                                    · rw [if_neg c50] at H
                                      have c50b0 : (a0 == 14) = false := beq_eq_false_iff_ne.mpr c50
                                      have c50b1 : (a0 != 14) = true := bne_iff_ne.mpr c50
                                      replace H := Option.bind_eq_some_iff.mp H
                                      obtain ⟨t250, A550, H⟩ := H
                                      replace H : (some (t250, true)) = some (r1, r2) := H
                                      have A55 := Aside0.mk A550
                                      clear A550
                                      simp only [Option.some.injEq, Prod.mk.injEq] at H
                                      obtain ⟨rfl, rfl⟩ := H
                                      go_wp2_with (first | ((with_reducible refine gate_callee (f := 60) rfl ?_); refine goesL_ (some 85) rfl rfl Tryd.func60 (by kernel_rfl) rfl #[.string t241, .string t242, .int .i64 0] rfl (by (try simp only [List.map_toArray, List.map_cons, List.map_nil]); first | done | rfl | (simp only [List.length_drop, List.length_take]; rfl)) ?_; (with_reducible refine (silkwormref01_sum.calls kj42 t241 t242 0 t250 _ A55.out).mono ?_); rintro e w56 ⟨rfl, hb⟩; refine ⟨_, rfl, ?_⟩; have n0_ := Aside0.mk (below_step (by repeat (first | (with_reducible first | exact HB.out | apply below_alloc | apply pw_below_drewN | apply below_drew1) | exact HB.out)) hb); clear HB; have HB := n0_; clear n0_; (try clear hb); (try clear hb2); (try clear hk); (try clear hi)))
                                      go_ret2
                                      exact ⟨by first | rfl | (simp [errW_none, errW_some] <;> rfl) | (simp only [← hji21]; first | rfl | (simp [errW_none, errW_some] <;> rfl)) | (simp [*, errW_none, errW_some] <;> rfl), by repeat (first | (with_reducible first | exact HB.out | apply below_alloc | apply pw_below_drewN | apply below_drew1) | exact HB.out)⟩
                            · replace c42 := Bool.eq_false_iff.mpr c42
                              subst c42
                              have H1 : (some ((⟨#[]⟩ : ByteArray), false)) = some (r1, r2) := by rw [if_neg (show ¬ (false = true) by decide)] at H; exact H
                              clear H
                              have H := H1
                              clear H1
                              simp only [Option.some.injEq, Prod.mk.injEq] at H
                              obtain ⟨rfl, rfl⟩ := H
                              go_wp2
                              go_ret2
                              exact ⟨by first | rfl | (simp [errW_none, errW_some] <;> rfl) | (simp only [← hji21]; first | rfl | (simp [errW_none, errW_some] <;> rfl)) | (simp [*, errW_none, errW_some] <;> rfl), by repeat (first | (with_reducible first | exact HB.out | apply below_alloc | apply pw_below_drewN | apply below_drew1) | exact HB.out)⟩

end Go.Proofs.YtblhfodkbjdeoaaDoor.PLg
