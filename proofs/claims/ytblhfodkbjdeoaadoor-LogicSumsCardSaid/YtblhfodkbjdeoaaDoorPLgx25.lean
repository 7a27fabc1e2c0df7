-- By this session's program prinj.py, out of the translation and contracts proved by hand. Not trusted: Lean checks it.
import Derived.Test.YtblhfodkbjdeoaaDoorPLgx0
import Derived.Test.YtblhfodkbjdeoaaDoorPLgx4
import Derived.Test.YtblhfodkbjdeoaaDoorPLgx5
import Derived.Test.YtblhfodkbjdeoaaDoorPLgx13
import Derived.Test.YtblhfodkbjdeoaaDoorPLgx17
namespace Go.Proofs.YtblhfodkbjdeoaaDoor.PLg
open Go.RowKit Go.Proofs.YtblhfodkbjdeoaaDoorW.PrintWords Go.Proofs.YtblhfodkbjdeoaaDoorW.PrintLast Go.Proofs.YtblhfodkbjdeoaaDoorW.PrintMore
attribute [local go_sem] max2_int min2_int max_two min_two max_three min_three max_four min_four   -- for this text's walks alone
attribute [local go_sem] str_leq str_gtr str_geq
set_option linter.unusedVariables false
set_option linter.unusedSimpArgs false

/-! ### silkwormlaw01_LogicSums: function 15 -/
mutual
def silkwormlaw01_LogicSums.j0 : Nat → Int → Int → Int → Int → ByteArray → ByteArray → Bool → Option (Bool)
  | 0, _, _, _, _, _, _, _ => none
  | k + 1, x7, x8, x9, x10, x11, x13, x61 => if x61 = true then (some false) else (silkwormlaw01_LogicSums.l0 k x7 x8 x9 x10 x11 x13 (([13, 14, 23, 25, 24] : List Int)) (([Go.bits .and .i64 (wrap64 (x9 + x10)) x8, Go.bits .and .i64 (wrap64 (x9 - x10)) x8, Go.bits .and .i64 x9 x10, Go.bits .or .i64 x9 x10, Go.bits .xor .i64 x9 x10] : List Int)) 0)
def silkwormlaw01_LogicSums.l0 : Nat → Int → Int → Int → Int → ByteArray → ByteArray → List Int → List Int → Int → Option (Bool)
  | 0, _, _, _, _, _, _, _, _, _ => none
  | k + 1, x7, x8, x9, x10, x11, x13, x15, x16, x17 => if x17 < (x15.length : Int) then (if 0 ≤ x17 then ((logic_Binary.f k (rd x15 x17) x11 x13).bind fun bt534 => ((logic_Number.f k bt534.1).bind fun bt536 => (if bt534.2 = 0 then (if bt536.2 = 0 then (if x17 < (x16.length : Int) then (if bt536.1 = (rd x16 x17) then (if (bt534.1.size : Int) = x7 then (silkwormlaw01_LogicSums.l0 k x7 x8 x9 x10 x11 x13 x15 x16 (wrap64 (x17 + 1))) else (some false)) else (some false)) else (none)) else (some false)) else (some false)))) else (none)) else (silkwormlaw01_LogicSums.l1 k x8 x9 x11 x13 (([17, 18, 19, 20, 21, 22] : List Int)) (([decide (x9 < x10), decide (x9 ≤ x10), decide (x9 > x10), decide (x9 ≥ x10), (x9 == x10), (x9 != x10)] : List Bool)) 0)
def silkwormlaw01_LogicSums.l1 : Nat → Int → Int → ByteArray → ByteArray → List Int → List Bool → Int → Option (Bool)
  | 0, _, _, _, _, _, _, _ => none
  | k + 1, x8, x9, x11, x13, x22, x23, x24 => if x24 < (x22.length : Int) then (if 0 ≤ x24 then ((logic_Binary.f k (rd x22 x24) x11 x13).bind fun bt546 => (if bt546.2 = 0 then (if x24 < (x23.length : Int) then (if ((bt546.1.toList == ([49] : List UInt8)) != (rdOf false x23 x24)) = true then (some false) else (if bt546.1.toList = ([48] : List UInt8) then (silkwormlaw01_LogicSums.l1 k x8 x9 x11 x13 x22 x23 (wrap64 (x24 + 1))) else (if bt546.1.toList = ([49] : List UInt8) then (silkwormlaw01_LogicSums.l1 k x8 x9 x11 x13 x22 x23 (wrap64 (x24 + 1))) else (some false)))) else (none)) else (some false))) else (none)) else ((logic_Unary.f k 9 x11).bind fun bt549 => ((logic_Number.f k bt549.1).bind fun bt551 => (if bt549.2 = 0 then (if bt551.2 = 0 then (if bt551.1 = (Go.bits .and .i64 (wrap64 (-x9)) x8) then ((silkwormlaw01_awake.f k).bind fun t553 => (some t553)) else (some false)) else (some false)) else (some false))))
end
def silkwormlaw01_LogicSums.f (k : Nat) (a0 : Int) (a1 : Int) (a2 : Int) : Option (Bool) := if 0 ≤ (wrap64 (1 + (Int.tmod (Go.bits .and .i64 a2 255) 30))) then ((logic_Of.f k (Go.bits .and .i64 a0 (wrap64 ((shl .i64 1 (wrap64 (1 + (Int.tmod (Go.bits .and .i64 a2 255) 30)))) - 1))) (wrap64 (1 + (Int.tmod (Go.bits .and .i64 a2 255) 30)))).bind fun bt523 => ((logic_Of.f k (Go.bits .and .i64 a1 (wrap64 ((shl .i64 1 (wrap64 (1 + (Int.tmod (Go.bits .and .i64 a2 255) 30)))) - 1))) (wrap64 (1 + (Int.tmod (Go.bits .and .i64 a2 255) 30)))).bind fun bt525 => (if bt523.2 = 0 then (silkwormlaw01_LogicSums.j0 k (wrap64 (1 + (Int.tmod (Go.bits .and .i64 a2 255) 30))) (wrap64 ((shl .i64 1 (wrap64 (1 + (Int.tmod (Go.bits .and .i64 a2 255) 30)))) - 1)) (Go.bits .and .i64 a0 (wrap64 ((shl .i64 1 (wrap64 (1 + (Int.tmod (Go.bits .and .i64 a2 255) 30)))) - 1))) (Go.bits .and .i64 a1 (wrap64 ((shl .i64 1 (wrap64 (1 + (Int.tmod (Go.bits .and .i64 a2 255) 30)))) - 1))) bt523.1 bt525.1 (bt525.2 != 0)) else (silkwormlaw01_LogicSums.j0 k (wrap64 (1 + (Int.tmod (Go.bits .and .i64 a2 255) 30))) (wrap64 ((shl .i64 1 (wrap64 (1 + (Int.tmod (Go.bits .and .i64 a2 255) 30)))) - 1)) (Go.bits .and .i64 a0 (wrap64 ((shl .i64 1 (wrap64 (1 + (Int.tmod (Go.bits .and .i64 a2 255) 30)))) - 1))) (Go.bits .and .i64 a1 (wrap64 ((shl .i64 1 (wrap64 (1 + (Int.tmod (Go.bits .and .i64 a2 255) 30)))) - 1))) bt523.1 bt525.1 true)))) else (none)
theorem silkwormlaw01_LogicSums.mono_l : ∀ k, (∀ y0 y1 y2 y3 y4 y5 y6, LeO (silkwormlaw01_LogicSums.j0 k y0 y1 y2 y3 y4 y5 y6) (silkwormlaw01_LogicSums.j0 (k + 1) y0 y1 y2 y3 y4 y5 y6)) ∧ (∀ y0 y1 y2 y3 y4 y5 y6 y7 y8, LeO (silkwormlaw01_LogicSums.l0 k y0 y1 y2 y3 y4 y5 y6 y7 y8) (silkwormlaw01_LogicSums.l0 (k + 1) y0 y1 y2 y3 y4 y5 y6 y7 y8)) ∧ (∀ y0 y1 y2 y3 y4 y5 y6, LeO (silkwormlaw01_LogicSums.l1 k y0 y1 y2 y3 y4 y5 y6) (silkwormlaw01_LogicSums.l1 (k + 1) y0 y1 y2 y3 y4 y5 y6))
  | 0 => ⟨fun _ _ _ _ _ _ _ r h => by simp [silkwormlaw01_LogicSums.j0] at h, fun _ _ _ _ _ _ _ _ _ r h => by simp [silkwormlaw01_LogicSums.l0] at h, fun _ _ _ _ _ _ _ r h => by simp [silkwormlaw01_LogicSums.l1] at h⟩
  | k + 1 => by
    obtain ⟨ih0, ih1, ih2⟩ := silkwormlaw01_LogicSums.mono_l k
    refine ⟨?_, ?_, ?_⟩
    · intro y0 y1 y2 y3 y4 y5 y6
      unfold silkwormlaw01_LogicSums.j0
      repeat' first
      | (with_reducible exact ih0 _ _ _ _ _ _ _)
      | (with_reducible exact ih1 _ _ _ _ _ _ _ _ _)
      | (with_reducible exact ih2 _ _ _ _ _ _ _)
      | (with_reducible exact logic_Binary.mono _ _ _ _)
      | (with_reducible exact logic_Number.mono _ _)
      | (with_reducible exact logic_Of.mono _ _ _)
      | (with_reducible exact logic_Unary.mono _ _ _)
      | (with_reducible exact silkwormlaw01_awake.mono _)
      | (with_reducible exact LeO.refl _)
      | (with_reducible exact LeO.none _)
      | (with_reducible refine LeO.ite ?_ ?_)
      | (with_reducible refine LeO.bind ?_ (fun _ => ?_))
      | exact ih0 _ _ _ _ _ _ _
      | exact ih1 _ _ _ _ _ _ _ _ _
      | exact ih2 _ _ _ _ _ _ _
      | exact logic_Binary.mono _ _ _ _
      | exact logic_Number.mono _ _
      | exact logic_Of.mono _ _ _
      | exact logic_Unary.mono _ _ _
      | exact silkwormlaw01_awake.mono _
      | exact LeO.none _
      | refine LeO.ite ?_ ?_
      | refine LeO.bind ?_ (fun _ => ?_)
    · intro y0 y1 y2 y3 y4 y5 y6 y7 y8
      unfold silkwormlaw01_LogicSums.l0
      repeat' first
      | (with_reducible exact ih0 _ _ _ _ _ _ _)
      | (with_reducible exact ih1 _ _ _ _ _ _ _ _ _)
      | (with_reducible exact ih2 _ _ _ _ _ _ _)
      | (with_reducible exact logic_Binary.mono _ _ _ _)
      | (with_reducible exact logic_Number.mono _ _)
      | (with_reducible exact logic_Of.mono _ _ _)
      | (with_reducible exact logic_Unary.mono _ _ _)
      | (with_reducible exact silkwormlaw01_awake.mono _)
      | (with_reducible exact LeO.refl _)
      | (with_reducible exact LeO.none _)
      | (with_reducible refine LeO.ite ?_ ?_)
      | (with_reducible refine LeO.bind ?_ (fun _ => ?_))
      | exact ih0 _ _ _ _ _ _ _
      | exact ih1 _ _ _ _ _ _ _ _ _
      | exact ih2 _ _ _ _ _ _ _
      | exact logic_Binary.mono _ _ _ _
      | exact logic_Number.mono _ _
      | exact logic_Of.mono _ _ _
      | exact logic_Unary.mono _ _ _
      | exact silkwormlaw01_awake.mono _
      | exact LeO.none _
      | refine LeO.ite ?_ ?_
      | refine LeO.bind ?_ (fun _ => ?_)
    · intro y0 y1 y2 y3 y4 y5 y6
      unfold silkwormlaw01_LogicSums.l1
      repeat' first
      | (with_reducible exact ih0 _ _ _ _ _ _ _)
      | (with_reducible exact ih1 _ _ _ _ _ _ _ _ _)
      | (with_reducible exact ih2 _ _ _ _ _ _ _)
      | (with_reducible exact logic_Binary.mono _ _ _ _)
      | (with_reducible exact logic_Number.mono _ _)
      | (with_reducible exact logic_Of.mono _ _ _)
      | (with_reducible exact logic_Unary.mono _ _ _)
      | (with_reducible exact silkwormlaw01_awake.mono _)
      | (with_reducible exact LeO.refl _)
      | (with_reducible exact LeO.none _)
      | (with_reducible refine LeO.ite ?_ ?_)
      | (with_reducible refine LeO.bind ?_ (fun _ => ?_))
      | exact ih0 _ _ _ _ _ _ _
      | exact ih1 _ _ _ _ _ _ _ _ _
      | exact ih2 _ _ _ _ _ _ _
      | exact logic_Binary.mono _ _ _ _
      | exact logic_Number.mono _ _
      | exact logic_Of.mono _ _ _
      | exact logic_Unary.mono _ _ _
      | exact silkwormlaw01_awake.mono _
      | exact LeO.none _
      | refine LeO.ite ?_ ?_
      | refine LeO.bind ?_ (fun _ => ?_)
theorem silkwormlaw01_LogicSums.mono : ∀ a0 a1 a2 k, LeO (silkwormlaw01_LogicSums.f k a0 a1 a2) (silkwormlaw01_LogicSums.f (k + 1) a0 a1 a2) := by
  intro a0 a1 a2 k
  obtain ⟨ih0, ih1, ih2⟩ := silkwormlaw01_LogicSums.mono_l k
  unfold silkwormlaw01_LogicSums.f
  repeat' first
      | (with_reducible exact ih0 _ _ _ _ _ _ _)
      | (with_reducible exact ih1 _ _ _ _ _ _ _ _ _)
      | (with_reducible exact ih2 _ _ _ _ _ _ _)
      | (with_reducible exact logic_Binary.mono _ _ _ _)
      | (with_reducible exact logic_Number.mono _ _)
      | (with_reducible exact logic_Of.mono _ _ _)
      | (with_reducible exact logic_Unary.mono _ _ _)
      | (with_reducible exact silkwormlaw01_awake.mono _)
      | (with_reducible exact LeO.refl _)
      | (with_reducible exact LeO.none _)
      | (with_reducible refine LeO.ite ?_ ?_)
      | (with_reducible refine LeO.bind ?_ (fun _ => ?_))
      | exact ih0 _ _ _ _ _ _ _
      | exact ih1 _ _ _ _ _ _ _ _ _
      | exact ih2 _ _ _ _ _ _ _
      | exact logic_Binary.mono _ _ _ _
      | exact logic_Number.mono _ _
      | exact logic_Of.mono _ _ _
      | exact logic_Unary.mono _ _ _
      | exact silkwormlaw01_awake.mono _
      | exact LeO.none _
      | refine LeO.ite ?_ ?_
      | refine LeO.bind ?_ (fun _ => ?_)
set_option maxHeartbeats 8000000 in
set_option maxRecDepth 100000 in
theorem silkwormlaw01_LogicSums.calls (k : Nat) (a0 : Int) (a1 : Int) (a2 : Int) (r : Bool) (w : World) (h : silkwormlaw01_LogicSums.f k a0 a1 a2 = some r) :
    Calls Tryd.prog 15 #[.int .i64 a0, .int .i64 a1, .int .i64 a2] w fun e w' => e = .returned (.bool r) ∧ Below w.heap.size w w' := by
  have HB := Aside0.mk (Below.refl w.heap.size w)
  have H : (if 0 ≤ (wrap64 (1 + (Int.tmod (Go.bits .and .i64 a2 255) 30))) then ((logic_Of.f k (Go.bits .and .i64 a0 (wrap64 ((shl .i64 1 (wrap64 (1 + (Int.tmod (Go.bits .and .i64 a2 255) 30)))) - 1))) (wrap64 (1 + (Int.tmod (Go.bits .and .i64 a2 255) 30)))).bind fun bt523 => ((logic_Of.f k (Go.bits .and .i64 a1 (wrap64 ((shl .i64 1 (wrap64 (1 + (Int.tmod (Go.bits .and .i64 a2 255) 30)))) - 1))) (wrap64 (1 + (Int.tmod (Go.bits .and .i64 a2 255) 30)))).bind fun bt525 => (if bt523.2 = 0 then (silkwormlaw01_LogicSums.j0 k (wrap64 (1 + (Int.tmod (Go.bits .and .i64 a2 255) 30))) (wrap64 ((shl .i64 1 (wrap64 (1 + (Int.tmod (Go.bits .and .i64 a2 255) 30)))) - 1)) (Go.bits .and .i64 a0 (wrap64 ((shl .i64 1 (wrap64 (1 + (Int.tmod (Go.bits .and .i64 a2 255) 30)))) - 1))) (Go.bits .and .i64 a1 (wrap64 ((shl .i64 1 (wrap64 (1 + (Int.tmod (Go.bits .and .i64 a2 255) 30)))) - 1))) bt523.1 bt525.1 (bt525.2 != 0)) else (silkwormlaw01_LogicSums.j0 k (wrap64 (1 + (Int.tmod (Go.bits .and .i64 a2 255) 30))) (wrap64 ((shl .i64 1 (wrap64 (1 + (Int.tmod (Go.bits .and .i64 a2 255) 30)))) - 1)) (Go.bits .and .i64 a0 (wrap64 ((shl .i64 1 (wrap64 (1 + (Int.tmod (Go.bits .and .i64 a2 255) 30)))) - 1))) (Go.bits .and .i64 a1 (wrap64 ((shl .i64 1 (wrap64 (1 + (Int.tmod (Go.bits .and .i64 a2 255) 30)))) - 1))) bt523.1 bt525.1 true)))) else (none)) = some r := h
  clear h
  obtain ⟨ji4, hji4⟩ : ∃ j_ : Int, (wrap64 (1 + (Int.tmod (Go.bits .and .i64 a2 255) 30))) = j_ := ⟨_, rfl⟩
  replace H : (if 0 ≤ (ji4) then ((logic_Of.f k (Go.bits .and .i64 a0 (wrap64 ((shl .i64 1 (ji4)) - 1))) (ji4)).bind fun bt523 => ((logic_Of.f k (Go.bits .and .i64 a1 (wrap64 ((shl .i64 1 (ji4)) - 1))) (ji4)).bind fun bt525 => (if bt523.2 = 0 then (silkwormlaw01_LogicSums.j0 k ji4 (wrap64 ((shl .i64 1 (ji4)) - 1)) (Go.bits .and .i64 a0 (wrap64 ((shl .i64 1 (ji4)) - 1))) (Go.bits .and .i64 a1 (wrap64 ((shl .i64 1 (ji4)) - 1))) bt523.1 bt525.1 (bt525.2 != 0)) else (silkwormlaw01_LogicSums.j0 k ji4 (wrap64 ((shl .i64 1 (ji4)) - 1)) (Go.bits .and .i64 a0 (wrap64 ((shl .i64 1 (ji4)) - 1))) (Go.bits .and .i64 a1 (wrap64 ((shl .i64 1 (ji4)) - 1))) bt523.1 bt525.1 true)))) else (none)) = some r := by first | (rw [hji4] at H; exact H) | (simp only [hji4] at H ⊢; exact H)
  have hji4w : (IntKind.i64.wrap (1 + (Int.tmod (Go.bits .and .i64 a2 255) 30))) = ji4 := (i64_w _).trans hji4
  by_cases c5 : 0 ≤ (ji4)
  · rw [if_pos c5] at H
    have c5b0 := eq_true c5
    have c5b1 : decide (0 ≤ (ji4)) = true := decide_eq_true c5
    clear c5
    obtain ⟨ji6, hji6⟩ : ∃ j_ : Int, (shl .i64 1 (ji4)) = j_ := ⟨_, rfl⟩
    replace H : ((logic_Of.f k (Go.bits .and .i64 a0 (wrap64 ((ji6) - 1))) (ji4)).bind fun bt523 => ((logic_Of.f k (Go.bits .and .i64 a1 (wrap64 ((ji6) - 1))) (ji4)).bind fun bt525 => (if bt523.2 = 0 then (silkwormlaw01_LogicSums.j0 k ji4 (wrap64 ((ji6) - 1)) (Go.bits .and .i64 a0 (wrap64 ((ji6) - 1))) (Go.bits .and .i64 a1 (wrap64 ((ji6) - 1))) bt523.1 bt525.1 (bt525.2 != 0)) else (silkwormlaw01_LogicSums.j0 k ji4 (wrap64 ((ji6) - 1)) (Go.bits .and .i64 a0 (wrap64 ((ji6) - 1))) (Go.bits .and .i64 a1 (wrap64 ((ji6) - 1))) bt523.1 bt525.1 true)))) = some r := by first | (rw [hji6] at H; exact H) | (simp only [hji6] at H ⊢; exact H)
    have hji6_ : (IntKind.i64.wrap (1 * 2 ^ min (ji4).toNat 64)) = ji6 := hji6
    have hji6z : (ji4) ≤ 64 → (IntKind.i64.wrap (1 * 2 ^ (ji4).toNat)) = ji6 := shl_small hji6
    have hji6u : (IntKind.i64.wrap (2 ^ min (ji4).toNat 64)) = ji6 := by have h_ := hji6_; rw [Int.one_mul] at h_; exact h_
    have hji6v : (ji4) ≤ 64 → (IntKind.i64.wrap (2 ^ (ji4).toNat)) = ji6 := fun hle_ => by have h_ := hji6z hle_; rw [Int.one_mul] at h_; exact h_
    have hji6y : (wrap64 (1 * 2 ^ min (ji4).toNat 64)) = ji6 := (i64_w _).symm.trans hji6_
    have hji6x : (ji4) ≤ 64 → (wrap64 (1 * 2 ^ (ji4).toNat)) = ji6 := fun h_ => (i64_w _).symm.trans (hji6z h_)
    replace H := Option.bind_eq_some_iff.mp H
    obtain ⟨⟨t523, t524⟩, A70, H⟩ := H
    replace H : ((logic_Of.f k (Go.bits .and .i64 a1 (wrap64 ((ji6) - 1))) (ji4)).bind fun bt525 => (if t524 = 0 then (silkwormlaw01_LogicSums.j0 k ji4 (wrap64 ((ji6) - 1)) (Go.bits .and .i64 a0 (wrap64 ((ji6) - 1))) (Go.bits .and .i64 a1 (wrap64 ((ji6) - 1))) t523 bt525.1 (bt525.2 != 0)) else (silkwormlaw01_LogicSums.j0 k ji4 (wrap64 ((ji6) - 1)) (Go.bits .and .i64 a0 (wrap64 ((ji6) - 1))) (Go.bits .and .i64 a1 (wrap64 ((ji6) - 1))) t523 bt525.1 true))) = some r := H
    have A7 := Aside0.mk A70
    clear A70
    replace H := Option.bind_eq_some_iff.mp H
    obtain ⟨⟨t525, t526⟩, A80, H⟩ := H
    replace H : (if t524 = 0 then (silkwormlaw01_LogicSums.j0 k ji4 (wrap64 ((ji6) - 1)) (Go.bits .and .i64 a0 (wrap64 ((ji6) - 1))) (Go.bits .and .i64 a1 (wrap64 ((ji6) - 1))) t523 t525 (t526 != 0)) else (silkwormlaw01_LogicSums.j0 k ji4 (wrap64 ((ji6) - 1)) (Go.bits .and .i64 a0 (wrap64 ((ji6) - 1))) (Go.bits .and .i64 a1 (wrap64 ((ji6) - 1))) t523 t525 true)) = some r := H
    have A8 := Aside0.mk A80
    clear A80
    have HC9 := Aside0.mk H
    clear H
    go_enter Tryd.func15, Tryd.ntmps15
    go_upto_region 6 with (first | ((with_reducible refine gate_callee (f := 23) rfl ?_); refine goesL_ (some 47) rfl rfl Tryd.func23 (by kernel_rfl) rfl #[.int .i64 (Go.bits .and .i64 a0 (wrap64 ((ji6) - 1))), .int .i64 ji4] rfl (by (try simp only [List.map_toArray, List.map_cons, List.map_nil]); first | done | (simp only [hji4, hji6]; rfl) | rfl | (simp only [List.length_drop, List.length_take]; rfl)) ?_; (with_reducible refine (logic_Of.calls k (Go.bits .and .i64 a0 (wrap64 ((ji6) - 1))) ji4 t523 t524 _ A7.out).mono ?_); rintro e w10 ⟨rfl, hb⟩; refine ⟨_, rfl, ?_⟩; have n0_ := Aside0.mk (below_step (by repeat (first | (with_reducible first | exact HB.out | apply below_alloc | apply pw_below_drewN | apply below_drew1) | exact HB.out)) hb); clear HB; have HB := n0_; clear n0_; (try clear hb); (try clear hb2); (try clear hk); (try clear hi)) | ((with_reducible refine gate_callee (f := 23) rfl ?_); refine goesL_ (some 53) rfl rfl Tryd.func23 (by kernel_rfl) rfl #[.int .i64 (Go.bits .and .i64 a1 (wrap64 ((ji6) - 1))), .int .i64 ji4] rfl (by (try simp only [List.map_toArray, List.map_cons, List.map_nil]); first | done | (simp only [hji4, hji6]; rfl) | rfl | (simp only [List.length_drop, List.length_take]; rfl)) ?_; (with_reducible refine (logic_Of.calls k (Go.bits .and .i64 a1 (wrap64 ((ji6) - 1))) ji4 t525 t526 _ A8.out).mono ?_); rintro e w11 ⟨rfl, hb⟩; refine ⟨_, rfl, ?_⟩; have n0_ := Aside0.mk (below_step (by repeat (first | (with_reducible first | exact HB.out | apply below_alloc | apply pw_below_drewN | apply below_drew1) | exact HB.out)) hb); clear HB; have HB := n0_; clear n0_; (try clear hb); (try clear hb2); (try clear hk); (try clear hi)))
    (try simp only [Act.put, List.setIfInBounds_toArray, List.set_cons_zero, List.set_cons_succ])
    go_cut [61] (fun v61 wc => ∃ (kq : Nat) (x61_8 : Bool), v61 = .bool x61_8 ∧ Aside0 (silkwormlaw01_LogicSums.j0 kq ji4 (wrap64 ((ji6) - 1)) (Go.bits .and .i64 a0 (wrap64 ((ji6) - 1))) (Go.bits .and .i64 a1 (wrap64 ((ji6) - 1))) t523 t525 x61_8 = some r) ∧ Aside0 (kq ≤ k) ∧ Aside0 (Below w.heap.size w wc))
    case first =>
      have H := HC9.out
      clear HC9
      by_cases c12 : t524 = 0
      · rw [if_pos c12] at H
        have c12b0 : (t524 == 0) = true := beq_iff_eq.mpr c12
        have c12b1 : (t524 != 0) = false := bne_eq_false_iff_eq.mpr c12
        clear c12
        (first | rw [c12b0] | (simp only [i64_w, i32_w]; rw [c12b0]) | skip)
        have H' := Aside0.mk H
        clear H
        go_wp2
        go_meet
        case rel => exact ⟨_, ((t526 != 0)), (by first | rfl | (simp; done) | (simp [*]; done)), H', ⟨by first | omega | exact Nat.le_refl _⟩, ⟨by repeat (first | (with_reducible first | exact HB.out | apply below_alloc | apply pw_below_drewN | apply below_drew1) | exact HB.out)⟩⟩
      · rw [if_neg c12] at H
        have c12b0 : (t524 == 0) = false := beq_eq_false_iff_ne.mpr c12
        have c12b1 : (t524 != 0) = true := bne_iff_ne.mpr c12
        (first | rw [c12b0] | (simp only [i64_w, i32_w]; rw [c12b0]) | skip)
        have H' := Aside0.mk H
        clear H
        go_wp2
        go_meet
        case rel => exact ⟨_, (true), (by first | rfl | (simp; done) | (simp [*]; done)), H', ⟨by first | omega | exact Nat.le_refl _⟩, ⟨by repeat (first | (with_reducible first | exact HB.out | apply below_alloc | apply pw_below_drewN | apply below_drew1) | exact HB.out)⟩⟩
    case rest =>
      clear HC9
      try clear c1
      try clear c2
      try clear p2
      try clear c5
      try clear c5b0
      try clear c5b1
      try clear p6
      try clear c12
      try clear c12b0
      try clear c12b1
      obtain ⟨kq, x61_8, rfl, HA, HJ8, HB⟩ := hcut
      cases kq with
      | zero => exact absurd HA.out (by simp [silkwormlaw01_LogicSums.j0])
      | succ kj8 =>
        have H := HA.out
        clear HA
        simp only [silkwormlaw01_LogicSums.j0] at H
        by_cases c13 : x61_8 = true
        · subst c13
          have H1 : (some false) = some r := by rw [if_pos rfl] at H; exact H
          clear H
          have H := H1
          clear H1
          obtain rfl := Option.some.inj H
          go_wp2
          go_ret
          exact ⟨by first | rfl | (simp [errW_none, errW_some] <;> rfl) | (simp only [← hji4, ← hji6]; first | rfl | (simp [errW_none, errW_some] <;> rfl)) | (simp [*, errW_none, errW_some] <;> rfl), by repeat (first | (with_reducible first | exact HB.out | apply below_alloc | apply pw_below_drewN | apply below_drew1) | exact HB.out)⟩
        · replace c13 := Bool.eq_false_iff.mpr c13
          subst c13
          have H1 : (silkwormlaw01_LogicSums.l0 kj8 ji4 (wrap64 ((ji6) - 1)) (Go.bits .and .i64 a0 (wrap64 ((ji6) - 1))) (Go.bits .and .i64 a1 (wrap64 ((ji6) - 1))) t523 t525 (([13, 14, 23, 25, 24] : List Int)) (([Go.bits .and .i64 (wrap64 ((Go.bits .and .i64 a0 (wrap64 ((ji6) - 1))) + (Go.bits .and .i64 a1 (wrap64 ((ji6) - 1))))) (wrap64 ((ji6) - 1)), Go.bits .and .i64 (wrap64 ((Go.bits .and .i64 a0 (wrap64 ((ji6) - 1))) - (Go.bits .and .i64 a1 (wrap64 ((ji6) - 1))))) (wrap64 ((ji6) - 1)), Go.bits .and .i64 (Go.bits .and .i64 a0 (wrap64 ((ji6) - 1))) (Go.bits .and .i64 a1 (wrap64 ((ji6) - 1))), Go.bits .or .i64 (Go.bits .and .i64 a0 (wrap64 ((ji6) - 1))) (Go.bits .and .i64 a1 (wrap64 ((ji6) - 1))), Go.bits .xor .i64 (Go.bits .and .i64 a0 (wrap64 ((ji6) - 1))) (Go.bits .and .i64 a1 (wrap64 ((ji6) - 1)))] : List Int)) 0) = some r := by rw [if_neg (show ¬ (false = true) by decide)] at H; exact H
          clear H
          have H := H1
          clear H1
          obtain ⟨y527, hy527⟩ : ∃ y_ : List Int, y_ = (([13, 14, 23, 25, 24] : List Int)) := ⟨_, rfl⟩
          replace H : (silkwormlaw01_LogicSums.l0 kj8 ji4 (wrap64 ((ji6) - 1)) (Go.bits .and .i64 a0 (wrap64 ((ji6) - 1))) (Go.bits .and .i64 a1 (wrap64 ((ji6) - 1))) t523 t525 y527 (([Go.bits .and .i64 (wrap64 ((Go.bits .and .i64 a0 (wrap64 ((ji6) - 1))) + (Go.bits .and .i64 a1 (wrap64 ((ji6) - 1))))) (wrap64 ((ji6) - 1)), Go.bits .and .i64 (wrap64 ((Go.bits .and .i64 a0 (wrap64 ((ji6) - 1))) - (Go.bits .and .i64 a1 (wrap64 ((ji6) - 1))))) (wrap64 ((ji6) - 1)), Go.bits .and .i64 (Go.bits .and .i64 a0 (wrap64 ((ji6) - 1))) (Go.bits .and .i64 a1 (wrap64 ((ji6) - 1))), Go.bits .or .i64 (Go.bits .and .i64 a0 (wrap64 ((ji6) - 1))) (Go.bits .and .i64 a1 (wrap64 ((ji6) - 1))), Go.bits .xor .i64 (Go.bits .and .i64 a0 (wrap64 ((ji6) - 1))) (Go.bits .and .i64 a1 (wrap64 ((ji6) - 1)))] : List Int)) 0) = some r := by first | (rw [hy527]; with_reducible exact H) | (have H2_ := (Option.bind_some _ _).symm.trans H; rw [hy527]; with_reducible exact H2_) | (have H2_ := (Option.bind_some _ _).symm.trans H; with_reducible exact H2_) | with_reducible exact H | (rw [hy527]; exact H) | exact H
          have Ny527 := Aside0.mk hy527
          clear hy527
          obtain ⟨y530, hy530⟩ : ∃ y_ : List Int, y_ = (([Go.bits .and .i64 (wrap64 ((Go.bits .and .i64 a0 (wrap64 ((ji6) - 1))) + (Go.bits .and .i64 a1 (wrap64 ((ji6) - 1))))) (wrap64 ((ji6) - 1)), Go.bits .and .i64 (wrap64 ((Go.bits .and .i64 a0 (wrap64 ((ji6) - 1))) - (Go.bits .and .i64 a1 (wrap64 ((ji6) - 1))))) (wrap64 ((ji6) - 1)), Go.bits .and .i64 (Go.bits .and .i64 a0 (wrap64 ((ji6) - 1))) (Go.bits .and .i64 a1 (wrap64 ((ji6) - 1))), Go.bits .or .i64 (Go.bits .and .i64 a0 (wrap64 ((ji6) - 1))) (Go.bits .and .i64 a1 (wrap64 ((ji6) - 1))), Go.bits .xor .i64 (Go.bits .and .i64 a0 (wrap64 ((ji6) - 1))) (Go.bits .and .i64 a1 (wrap64 ((ji6) - 1)))] : List Int)) := ⟨_, rfl⟩
          replace H : (silkwormlaw01_LogicSums.l0 kj8 ji4 (wrap64 ((ji6) - 1)) (Go.bits .and .i64 a0 (wrap64 ((ji6) - 1))) (Go.bits .and .i64 a1 (wrap64 ((ji6) - 1))) t523 t525 y527 y530 0) = some r := by first | (rw [hy530]; with_reducible exact H) | (have H2_ := (Option.bind_some _ _).symm.trans H; rw [hy530]; with_reducible exact H2_) | (have H2_ := (Option.bind_some _ _).symm.trans H; with_reducible exact H2_) | with_reducible exact H | (rw [hy530]; exact H) | exact H
          have Ny530 := Aside0.mk hy530
          clear hy530
          have H' := Aside0.mk H
          clear H
          go_wp2_with (first | ((with_reducible refine gate_dst (N := 62) rfl ?_); (try (refine gate_guard (by rfl) ?_; dsimp only)); refine Kd.R_lit (Kd.int .i64) _ 3 ?hg (N := 62) ?hd (xs := ([13, 14, 23, 25, 24] : List Int)) (inner := [.int .i64 13, .int .i64 14, .int .i64 23, .int .i64 25, .int .i64 24]) (ok := fun _ => True) (okp := fun _ => True) ?hr ?hp (fun _ hk => hk) trivial (Below.refl _ _) (Nat.le_refl _) (by simp) ?_; (case hd => rfl); (case hg => rfl); (case hr => first | (go_simp; done) | (go_simp; rfl)); (case hp => exact (Reps.one (show Kd.M (Kd.int .i64) _ _ _ 13 [.int .i64 13] from rfl) (Reps.one (show Kd.M (Kd.int .i64) _ _ _ 14 [.int .i64 14] from rfl) (Reps.one (show Kd.M (Kd.int .i64) _ _ _ 23 [.int .i64 23] from rfl) (Reps.one (show Kd.M (Kd.int .i64) _ _ _ 25 [.int .i64 25] from rfl) (Reps.one (show Kd.M (Kd.int .i64) _ _ _ 24 [.int .i64 24] from rfl) (Reps.none _ _))))))); intro v528 w14 ho15 hb hg_ hnew_; clear hg_ hnew_; (first | rw [← Ny527.out] at ho15 | (simp only [Int.reduceToNat] at ho15; rw [← Ny527.out] at ho15)); have n0_ := Aside0.mk (Kd.R_lower ho15 (below_size (by repeat (first | (with_reducible first | exact HB.out | apply below_alloc | apply pw_below_drewN | apply below_drew1) | exact HB.out)))); have n1_ := Aside0.mk (below_step (by repeat (first | (with_reducible first | exact HB.out | apply below_alloc | apply pw_below_drewN | apply below_drew1) | exact HB.out)) hb); clear HB; have HO529 := n0_; have HB := n1_; clear n0_ n1_; clear hb ho15) | ((with_reducible refine gate_dst (N := 82) rfl ?_); (try (refine gate_guard (by rfl) ?_; dsimp only)); refine Kd.R_lit (Kd.int .i64) _ 3 ?hg (N := 82) ?hd (xs := ([Go.bits .and .i64 (wrap64 ((Go.bits .and .i64 a0 (wrap64 ((ji6) - 1))) + (Go.bits .and .i64 a1 (wrap64 ((ji6) - 1))))) (wrap64 ((ji6) - 1)), Go.bits .and .i64 (wrap64 ((Go.bits .and .i64 a0 (wrap64 ((ji6) - 1))) - (Go.bits .and .i64 a1 (wrap64 ((ji6) - 1))))) (wrap64 ((ji6) - 1)), Go.bits .and .i64 (Go.bits .and .i64 a0 (wrap64 ((ji6) - 1))) (Go.bits .and .i64 a1 (wrap64 ((ji6) - 1))), Go.bits .or .i64 (Go.bits .and .i64 a0 (wrap64 ((ji6) - 1))) (Go.bits .and .i64 a1 (wrap64 ((ji6) - 1))), Go.bits .xor .i64 (Go.bits .and .i64 a0 (wrap64 ((ji6) - 1))) (Go.bits .and .i64 a1 (wrap64 ((ji6) - 1)))] : List Int)) (inner := [.int .i64 (Go.bits .and .i64 (wrap64 ((Go.bits .and .i64 a0 (wrap64 ((ji6) - 1))) + (Go.bits .and .i64 a1 (wrap64 ((ji6) - 1))))) (wrap64 ((ji6) - 1))), .int .i64 (Go.bits .and .i64 (wrap64 ((Go.bits .and .i64 a0 (wrap64 ((ji6) - 1))) - (Go.bits .and .i64 a1 (wrap64 ((ji6) - 1))))) (wrap64 ((ji6) - 1))), .int .i64 (Go.bits .and .i64 (Go.bits .and .i64 a0 (wrap64 ((ji6) - 1))) (Go.bits .and .i64 a1 (wrap64 ((ji6) - 1)))), .int .i64 (Go.bits .or .i64 (Go.bits .and .i64 a0 (wrap64 ((ji6) - 1))) (Go.bits .and .i64 a1 (wrap64 ((ji6) - 1)))), .int .i64 (Go.bits .xor .i64 (Go.bits .and .i64 a0 (wrap64 ((ji6) - 1))) (Go.bits .and .i64 a1 (wrap64 ((ji6) - 1))))]) (ok := fun _ => True) (okp := fun _ => True) ?hr ?hp (fun _ hk => hk) trivial (Below.refl _ _) (Nat.le_refl _) (by simp) ?_; (case hd => rfl); (case hg => rfl); (case hr => first | (go_simp; done) | (go_simp; rfl)); (case hp => exact (Reps.one (show Kd.M (Kd.int .i64) _ _ _ (Go.bits .and .i64 (wrap64 ((Go.bits .and .i64 a0 (wrap64 ((ji6) - 1))) + (Go.bits .and .i64 a1 (wrap64 ((ji6) - 1))))) (wrap64 ((ji6) - 1))) [.int .i64 (Go.bits .and .i64 (wrap64 ((Go.bits .and .i64 a0 (wrap64 ((ji6) - 1))) + (Go.bits .and .i64 a1 (wrap64 ((ji6) - 1))))) (wrap64 ((ji6) - 1)))] from rfl) (Reps.one (show Kd.M (Kd.int .i64) _ _ _ (Go.bits .and .i64 (wrap64 ((Go.bits .and .i64 a0 (wrap64 ((ji6) - 1))) - (Go.bits .and .i64 a1 (wrap64 ((ji6) - 1))))) (wrap64 ((ji6) - 1))) [.int .i64 (Go.bits .and .i64 (wrap64 ((Go.bits .and .i64 a0 (wrap64 ((ji6) - 1))) - (Go.bits .and .i64 a1 (wrap64 ((ji6) - 1))))) (wrap64 ((ji6) - 1)))] from rfl) (Reps.one (show Kd.M (Kd.int .i64) _ _ _ (Go.bits .and .i64 (Go.bits .and .i64 a0 (wrap64 ((ji6) - 1))) (Go.bits .and .i64 a1 (wrap64 ((ji6) - 1)))) [.int .i64 (Go.bits .and .i64 (Go.bits .and .i64 a0 (wrap64 ((ji6) - 1))) (Go.bits .and .i64 a1 (wrap64 ((ji6) - 1))))] from rfl) (Reps.one (show Kd.M (Kd.int .i64) _ _ _ (Go.bits .or .i64 (Go.bits .and .i64 a0 (wrap64 ((ji6) - 1))) (Go.bits .and .i64 a1 (wrap64 ((ji6) - 1)))) [.int .i64 (Go.bits .or .i64 (Go.bits .and .i64 a0 (wrap64 ((ji6) - 1))) (Go.bits .and .i64 a1 (wrap64 ((ji6) - 1))))] from rfl) (Reps.one (show Kd.M (Kd.int .i64) _ _ _ (Go.bits .xor .i64 (Go.bits .and .i64 a0 (wrap64 ((ji6) - 1))) (Go.bits .and .i64 a1 (wrap64 ((ji6) - 1)))) [.int .i64 (Go.bits .xor .i64 (Go.bits .and .i64 a0 (wrap64 ((ji6) - 1))) (Go.bits .and .i64 a1 (wrap64 ((ji6) - 1))))] from rfl) (Reps.none _ _))))))); intro v531 w16 ho17 hb hg_ hnew_; clear hg_ hnew_; (first | rw [← Ny530.out] at ho17 | (simp only [Int.reduceToNat] at ho17; rw [← Ny530.out] at ho17)); have n0_ := Aside0.mk (Kd.R_elder' (by (with_reducible repeat (first | apply Kd.R_alloc | apply Kd.R_drewN | apply Kd.R_drew)); exact HO529.out) (Kd.R_base ho17) hb); have n1_ := Aside0.mk (Kd.R_lower (Kd.R_new' ho17 (Kd.R_lt (by (with_reducible repeat (first | apply Kd.R_alloc | apply Kd.R_drewN | apply Kd.R_drew)); exact HO529.out))) (below_size (by repeat (first | (with_reducible first | exact HB.out | apply below_alloc | apply pw_below_drewN | apply below_drew1) | exact HB.out)))); have n2_ := Aside0.mk (below_step (by repeat (first | (with_reducible first | exact HB.out | apply below_alloc | apply pw_below_drewN | apply below_drew1) | exact HB.out)) hb); clear HO529; clear HB; have HO529 := n0_; have HO532 := n1_; have HB := n2_; clear n0_ n1_ n2_; clear hb ho17))
          go_loopg [17] kj8 (fun kq v17 w' => ∃ (x17_2 : Int), v17 = .int .i64 x17_2 ∧ Aside0 (silkwormlaw01_LogicSums.l0 kq ji4 (wrap64 ((ji6) - 1)) (Go.bits .and .i64 a0 (wrap64 ((ji6) - 1))) (Go.bits .and .i64 a1 (wrap64 ((ji6) - 1))) t523 t525 y527 y530 x17_2 = some r) ∧ Aside0 (kq ≤ kj8) ∧ Aside0 (Kd.R (Kd.int .i64) 3 w' w.heap.size (fun k_ => some k_ ≠ (v531 : Value).ownBlock) v528 y527) ∧ Aside0 (Kd.R (Kd.int .i64) 3 w' w.heap.size (fun k_ => some k_ ≠ (v528 : Value).ownBlock) v531 y530) ∧ Aside0 (Below w.heap.size w w'))
          case atStart => exact ⟨(0), (by first | rfl | (simp; done) | (simp [*]; done)), H', ⟨Nat.le_refl _⟩, ⟨by (with_reducible repeat (first | apply Kd.R_alloc | apply Kd.R_drewN | apply Kd.R_drew)); exact Kd.R_mono HO529.out (fun _ hk => hk.2)⟩, ⟨by (with_reducible repeat (first | apply Kd.R_alloc | apply Kd.R_drewN | apply Kd.R_drew)); exact Kd.R_mono HO532.out (fun _ hk => hk.2)⟩, ⟨by repeat (first | (with_reducible first | exact HB.out | apply below_alloc | apply pw_below_drewN | apply below_drew1) | exact HB.out)⟩⟩
          case round =>
            clear H'
            try clear c1
            try clear c2
            try clear p2
            try clear c5
            try clear c5b0
            try clear c5b1
            try clear p6
            try clear c12
            try clear c12b0
            try clear c12b1
            try clear c13
            try clear c15
            try clear p2
            try clear p6
            obtain ⟨x17_2, rfl, HA, HK2, HO_15, HO_16, HB⟩ := hrel
            cases gk with
            | zero => exact absurd HA.out (by simp [silkwormlaw01_LogicSums.l0])
            | succ k2 =>
              have H := HA.out
              clear HA
              simp only [silkwormlaw01_LogicSums.l0] at H
              by_cases c18 : x17_2 < (y527.length : Int)
              · rw [if_pos c18] at H
                have c18b0 : decide (x17_2 < (y527.length : Int)) = true := decide_eq_true c18
                clear c18
                by_cases c19 : 0 ≤ x17_2
                · rw [if_pos c19] at H
                  have c19b0 : decide (0 ≤ x17_2) = true := decide_eq_true c19
                  clear c19
                  replace H := Option.bind_eq_some_iff.mp H
                  obtain ⟨⟨t534, t535⟩, A200, H⟩ := H
                  replace H : ((logic_Number.f k2 t534).bind fun bt536 => (if t535 = 0 then (if bt536.2 = 0 then (if x17_2 < (y530.length : Int) then (if bt536.1 = (rd y530 x17_2) then (if (t534.size : Int) = ji4 then (silkwormlaw01_LogicSums.l0 k2 ji4 (wrap64 ((ji6) - 1)) (Go.bits .and .i64 a0 (wrap64 ((ji6) - 1))) (Go.bits .and .i64 a1 (wrap64 ((ji6) - 1))) t523 t525 y527 y530 (wrap64 (x17_2 + 1))) else (some false)) else (some false)) else (none)) else (some false)) else (some false))) = some r := H
                  have A20 := Aside0.mk A200
                  clear A200
                  replace H := Option.bind_eq_some_iff.mp H
                  obtain ⟨⟨t536, t537⟩, A210, H⟩ := H
                  replace H : (if t535 = 0 then (if t537 = 0 then (if x17_2 < (y530.length : Int) then (if t536 = (rd y530 x17_2) then (if (t534.size : Int) = ji4 then (silkwormlaw01_LogicSums.l0 k2 ji4 (wrap64 ((ji6) - 1)) (Go.bits .and .i64 a0 (wrap64 ((ji6) - 1))) (Go.bits .and .i64 a1 (wrap64 ((ji6) - 1))) t523 t525 y527 y530 (wrap64 (x17_2 + 1))) else (some false)) else (some false)) else (none)) else (some false)) else (some false)) = some r := H
                  have A21 := Aside0.mk A210
                  clear A210
                  by_cases c22 : t535 = 0
                  · rw [if_pos c22] at H
                    have c22b0 : (t535 == 0) = true := beq_iff_eq.mpr c22
                    have c22b1 : (t535 != 0) = false := bne_eq_false_iff_eq.mpr c22
                    clear c22
                    by_cases c23 : t537 = 0
                    · rw [if_pos c23] at H
                      have c23b0 : (t537 == 0) = true := beq_iff_eq.mpr c23
                      have c23b1 : (t537 != 0) = false := bne_eq_false_iff_eq.mpr c23
                      clear c23
                      by_cases c24 : x17_2 < (y530.length : Int)
                      · rw [if_pos c24] at H
                        have c24b0 : decide (x17_2 < (y530.length : Int)) = true := decide_eq_true c24
                        clear c24
                        by_cases c25 : t536 = (rd y530 x17_2)
                        · rw [if_pos c25] at H
                          have c25b0 : (t536 == (rd y530 x17_2)) = true := beq_iff_eq.mpr c25
                          have c25b1 : (t536 != (rd y530 x17_2)) = false := bne_eq_false_iff_eq.mpr c25
                          clear c25
                          by_cases c26 : (t534.size : Int) = ji4
                          · rw [if_pos c26] at H
                            have c26b0 : ((t534.size : Int) == ji4) = true := beq_iff_eq.mpr c26
                            have c26b1 : ((t534.size : Int) != ji4) = false := bne_eq_false_iff_eq.mpr c26
                            clear c26
                            have H' := Aside0.mk H
                            clear H
                            obtain ⟨Ao27, co27, eo27⟩ := Kd.R_slice HO_15.out
                            subst eo27
                            have p533 : 0 ≤ (x17_2 : Int) := of_decide_eq_true (by first | (with_reducible assumption) | assumption)
                            have q533 : x17_2 < (y527.length : Int) := of_decide_eq_true (by first | (with_reducible assumption) | assumption)
                            obtain ⟨ad533, e533, hx533_0⟩ := Kd.at_int (Kd.R_reads' HO_15.out).2.2 x17_2 p533 q533
                            cases e533
                            replace p533 := eq_true p533
                            replace q533 := eq_true q533
                            go_wp2_with (first | ((with_reducible refine gate_callee (f := 16) rfl ?_); refine goesL_ (some 96) rfl rfl Tryd.func16 (by kernel_rfl) rfl #[.int .i64 (rd y527 x17_2), .string t523, .string t525] rfl (by (try simp only [List.map_toArray, List.map_cons, List.map_nil]); first | done | rfl | (simp only [List.length_drop, List.length_take]; rfl)) ?_; (with_reducible refine (logic_Binary.calls k2 (rd y527 x17_2) t523 t525 t534 t535 _ A20.out).mono ?_); rintro e w28 ⟨rfl, hb⟩; refine ⟨_, rfl, ?_⟩; have n0_ := Aside0.mk (Kd.R_below (by (with_reducible repeat (first | apply Kd.R_alloc | apply Kd.R_drewN | apply Kd.R_drew)); exact HO_15.out) hb); have n1_ := Aside0.mk (Kd.R_below (by (with_reducible repeat (first | apply Kd.R_alloc | apply Kd.R_drewN | apply Kd.R_drew)); exact HO_16.out) hb); have n2_ := Aside0.mk (below_step (by repeat (first | (with_reducible first | exact HB.out | apply below_alloc | apply pw_below_drewN | apply below_drew1) | exact HB.out)) hb); clear HO_15; clear HO_16; clear HB; have HO_15 := n0_; have HO_16 := n1_; have HB := n2_; clear n0_ n1_ n2_; (try clear hb); (try clear hb2); (try clear hk); (try clear hi)) | ((with_reducible refine gate_callee (f := 27) rfl ?_); refine goesL_ (some 101) rfl rfl Tryd.func27 (by kernel_rfl) rfl #[.string t534] rfl (by (try simp only [List.map_toArray, List.map_cons, List.map_nil]); first | done | rfl | (simp only [List.length_drop, List.length_take]; rfl)) ?_; (with_reducible refine (logic_Number.calls k2 t534 t536 t537 _ A21.out).mono ?_); rintro e w29 ⟨rfl, hb⟩; refine ⟨_, rfl, ?_⟩; have n0_ := Aside0.mk (Kd.R_below (by (with_reducible repeat (first | apply Kd.R_alloc | apply Kd.R_drewN | apply Kd.R_drew)); exact HO_15.out) hb); have n1_ := Aside0.mk (Kd.R_below (by (with_reducible repeat (first | apply Kd.R_alloc | apply Kd.R_drewN | apply Kd.R_drew)); exact HO_16.out) hb); have n2_ := Aside0.mk (below_step (by repeat (first | (with_reducible first | exact HB.out | apply below_alloc | apply pw_below_drewN | apply below_drew1) | exact HB.out)) hb); clear HO_15; clear HO_16; clear HB; have HO_15 := n0_; have HO_16 := n1_; have HB := n2_; clear n0_ n1_ n2_; (try clear hb); (try clear hb2); (try clear hk); (try clear hi); obtain ⟨Ao30, co30, eo30⟩ := Kd.R_slice HO_16.out; subst eo30; have p538 : 0 ≤ (x17_2 : Int) := of_decide_eq_true (by first | (with_reducible assumption) | assumption); have q538 : x17_2 < (y530.length : Int) := of_decide_eq_true (by first | (with_reducible assumption) | assumption); obtain ⟨ad538, e538, hx538_0⟩ := Kd.at_int (Kd.R_reads' HO_16.out).2.2 x17_2 p538 q538; cases e538; replace p538 := eq_true p538; replace q538 := eq_true q538))
                            go_roundg k2
                            case measure => have := HJ8.out; have := HK2.out; omega
                            case rel => exact ⟨(wrap64 (x17_2 + 1)), (by first | rfl | (simp; done) | (simp [*]; done)), H', ⟨by have := HJ8.out; have := HK2.out; omega⟩, ⟨by (with_reducible repeat (first | apply Kd.R_alloc | apply Kd.R_drewN | apply Kd.R_drew)); exact HO_15.out⟩, ⟨by (with_reducible repeat (first | apply Kd.R_alloc | apply Kd.R_drewN | apply Kd.R_drew)); exact HO_16.out⟩, ⟨by repeat (first | (with_reducible first | exact HB.out | apply below_alloc | apply pw_below_drewN | apply below_drew1) | exact HB.out)⟩⟩
                          · rw [if_neg c26] at H
                            have c26b0 : ((t534.size : Int) == ji4) = false := beq_eq_false_iff_ne.mpr c26
                            have c26b1 : ((t534.size : Int) != ji4) = true := bne_iff_ne.mpr c26
                            obtain rfl := Option.some.inj H
                            obtain ⟨Ao31, co31, eo31⟩ := Kd.R_slice HO_15.out
                            subst eo31
                            have p533 : 0 ≤ (x17_2 : Int) := of_decide_eq_true (by first | (with_reducible assumption) | assumption)
                            have q533 : x17_2 < (y527.length : Int) := of_decide_eq_true (by first | (with_reducible assumption) | assumption)
                            obtain ⟨ad533, e533, hx533_0⟩ := Kd.at_int (Kd.R_reads' HO_15.out).2.2 x17_2 p533 q533
                            cases e533
                            replace p533 := eq_true p533
                            replace q533 := eq_true q533
                            go_wp2_with (first | ((with_reducible refine gate_callee (f := 16) rfl ?_); refine goesL_ (some 96) rfl rfl Tryd.func16 (by kernel_rfl) rfl #[.int .i64 (rd y527 x17_2), .string t523, .string t525] rfl (by (try simp only [List.map_toArray, List.map_cons, List.map_nil]); first | done | rfl | (simp only [List.length_drop, List.length_take]; rfl)) ?_; (with_reducible refine (logic_Binary.calls k2 (rd y527 x17_2) t523 t525 t534 t535 _ A20.out).mono ?_); rintro e w32 ⟨rfl, hb⟩; refine ⟨_, rfl, ?_⟩; have n0_ := Aside0.mk (Kd.R_below (by (with_reducible repeat (first | apply Kd.R_alloc | apply Kd.R_drewN | apply Kd.R_drew)); exact HO_15.out) hb); have n1_ := Aside0.mk (Kd.R_below (by (with_reducible repeat (first | apply Kd.R_alloc | apply Kd.R_drewN | apply Kd.R_drew)); exact HO_16.out) hb); have n2_ := Aside0.mk (below_step (by repeat (first | (with_reducible first | exact HB.out | apply below_alloc | apply pw_below_drewN | apply below_drew1) | exact HB.out)) hb); clear HO_15; clear HO_16; clear HB; have HO_15 := n0_; have HO_16 := n1_; have HB := n2_; clear n0_ n1_ n2_; (try clear hb); (try clear hb2); (try clear hk); (try clear hi)) | ((with_reducible refine gate_callee (f := 27) rfl ?_); refine goesL_ (some 101) rfl rfl Tryd.func27 (by kernel_rfl) rfl #[.string t534] rfl (by (try simp only [List.map_toArray, List.map_cons, List.map_nil]); first | done | rfl | (simp only [List.length_drop, List.length_take]; rfl)) ?_; (with_reducible refine (logic_Number.calls k2 t534 t536 t537 _ A21.out).mono ?_); rintro e w33 ⟨rfl, hb⟩; refine ⟨_, rfl, ?_⟩; have n0_ := Aside0.mk (Kd.R_below (by (with_reducible repeat (first | apply Kd.R_alloc | apply Kd.R_drewN | apply Kd.R_drew)); exact HO_15.out) hb); have n1_ := Aside0.mk (Kd.R_below (by (with_reducible repeat (first | apply Kd.R_alloc | apply Kd.R_drewN | apply Kd.R_drew)); exact HO_16.out) hb); have n2_ := Aside0.mk (below_step (by repeat (first | (with_reducible first | exact HB.out | apply below_alloc | apply pw_below_drewN | apply below_drew1) | exact HB.out)) hb); clear HO_15; clear HO_16; clear HB; have HO_15 := n0_; have HO_16 := n1_; have HB := n2_; clear n0_ n1_ n2_; (try clear hb); (try clear hb2); (try clear hk); (try clear hi); obtain ⟨Ao34, co34, eo34⟩ := Kd.R_slice HO_16.out; subst eo34; have p538 : 0 ≤ (x17_2 : Int) := of_decide_eq_true (by first | (with_reducible assumption) | assumption); have q538 : x17_2 < (y530.length : Int) := of_decide_eq_true (by first | (with_reducible assumption) | assumption); obtain ⟨ad538, e538, hx538_0⟩ := Kd.at_int (Kd.R_reads' HO_16.out).2.2 x17_2 p538 q538; cases e538; replace p538 := eq_true p538; replace q538 := eq_true q538))
                            go_ret
                            exact ⟨by first | rfl | (simp [errW_none, errW_some] <;> rfl) | (simp only [← hji4, ← hji6]; first | rfl | (simp [errW_none, errW_some] <;> rfl)) | (simp [*, errW_none, errW_some] <;> rfl), by repeat (first | (with_reducible first | exact HB.out | apply below_alloc | apply pw_below_drewN | apply below_drew1) | exact HB.out)⟩
                        · rw [if_neg c25] at H
                          have c25b0 : (t536 == (rd y530 x17_2)) = false := beq_eq_false_iff_ne.mpr c25
                          have c25b1 : (t536 != (rd y530 x17_2)) = true := bne_iff_ne.mpr c25
                          obtain rfl := Option.some.inj H
                          obtain ⟨Ao35, co35, eo35⟩ := Kd.R_slice HO_15.out
                          subst eo35
                          have p533 : 0 ≤ (x17_2 : Int) := of_decide_eq_true (by first | (with_reducible assumption) | assumption)
                          have q533 : x17_2 < (y527.length : Int) := of_decide_eq_true (by first | (with_reducible assumption) | assumption)
                          obtain ⟨ad533, e533, hx533_0⟩ := Kd.at_int (Kd.R_reads' HO_15.out).2.2 x17_2 p533 q533
                          cases e533
                          replace p533 := eq_true p533
                          replace q533 := eq_true q533
                          go_wp2_with (first | ((with_reducible refine gate_callee (f := 16) rfl ?_); refine goesL_ (some 96) rfl rfl Tryd.func16 (by kernel_rfl) rfl #[.int .i64 (rd y527 x17_2), .string t523, .string t525] rfl (by (try simp only [List.map_toArray, List.map_cons, List.map_nil]); first | done | rfl | (simp only [List.length_drop, List.length_take]; rfl)) ?_; (with_reducible refine (logic_Binary.calls k2 (rd y527 x17_2) t523 t525 t534 t535 _ A20.out).mono ?_); rintro e w36 ⟨rfl, hb⟩; refine ⟨_, rfl, ?_⟩; have n0_ := Aside0.mk (Kd.R_below (by (with_reducible repeat (first | apply Kd.R_alloc | apply Kd.R_drewN | apply Kd.R_drew)); exact HO_15.out) hb); have n1_ := Aside0.mk (Kd.R_below (by (with_reducible repeat (first | apply Kd.R_alloc | apply Kd.R_drewN | apply Kd.R_drew)); exact HO_16.out) hb); have n2_ := Aside0.mk (below_step (by repeat (first | (with_reducible first | exact HB.out | apply below_alloc | apply pw_below_drewN | apply below_drew1) | exact HB.out)) hb); clear HO_15; clear HO_16; clear HB; have HO_15 := n0_; have HO_16 := n1_; have HB := n2_; clear n0_ n1_ n2_; (try clear hb); (try clear hb2); (try clear hk); (try clear hi)) | ((with_reducible refine gate_callee (f := 27) rfl ?_); refine goesL_ (some 101) rfl rfl Tryd.func27 (by kernel_rfl) rfl #[.string t534] rfl (by (try simp only [List.map_toArray, List.map_cons, List.map_nil]); first | done | rfl | (simp only [List.length_drop, List.length_take]; rfl)) ?_; (with_reducible refine (logic_Number.calls k2 t534 t536 t537 _ A21.out).mono ?_); rintro e w37 ⟨rfl, hb⟩; refine ⟨_, rfl, ?_⟩; have n0_ := Aside0.mk (Kd.R_below (by (with_reducible repeat (first | apply Kd.R_alloc | apply Kd.R_drewN | apply Kd.R_drew)); exact HO_15.out) hb); have n1_ := Aside0.mk (Kd.R_below (by (with_reducible repeat (first | apply Kd.R_alloc | apply Kd.R_drewN | apply Kd.R_drew)); exact HO_16.out) hb); have n2_ := Aside0.mk (below_step (by repeat (first | (with_reducible first | exact HB.out | apply below_alloc | apply pw_below_drewN | apply below_drew1) | exact HB.out)) hb); clear HO_15; clear HO_16; clear HB; have HO_15 := n0_; have HO_16 := n1_; have HB := n2_; clear n0_ n1_ n2_; (try clear hb); (try clear hb2); (try clear hk); (try clear hi); obtain ⟨Ao38, co38, eo38⟩ := Kd.R_slice HO_16.out; subst eo38; have p538 : 0 ≤ (x17_2 : Int) := of_decide_eq_true (by first | (with_reducible assumption) | assumption); have q538 : x17_2 < (y530.length : Int) := of_decide_eq_true (by first | (with_reducible assumption) | assumption); obtain ⟨ad538, e538, hx538_0⟩ := Kd.at_int (Kd.R_reads' HO_16.out).2.2 x17_2 p538 q538; cases e538; replace p538 := eq_true p538; replace q538 := eq_true q538))
                          go_ret
                          exact ⟨by first | rfl | (simp [errW_none, errW_some] <;> rfl) | (simp only [← hji4, ← hji6]; first | rfl | (simp [errW_none, errW_some] <;> rfl)) | (simp [*, errW_none, errW_some] <;> rfl), by repeat (first | (with_reducible first | exact HB.out | apply below_alloc | apply pw_below_drewN | apply below_drew1) | exact HB.out)⟩
                      · rw [if_neg c24] at H
                        exact absurd H (by simp)
                    · rw [if_neg c23] at H
                      have c23b0 : (t537 == 0) = false := beq_eq_false_iff_ne.mpr c23
                      have c23b1 : (t537 != 0) = true := bne_iff_ne.mpr c23
                      obtain rfl := Option.some.inj H
                      obtain ⟨Ao39, co39, eo39⟩ := Kd.R_slice HO_15.out
                      subst eo39
                      have p533 : 0 ≤ (x17_2 : Int) := of_decide_eq_true (by first | (with_reducible assumption) | assumption)
                      have q533 : x17_2 < (y527.length : Int) := of_decide_eq_true (by first | (with_reducible assumption) | assumption)
                      obtain ⟨ad533, e533, hx533_0⟩ := Kd.at_int (Kd.R_reads' HO_15.out).2.2 x17_2 p533 q533
                      cases e533
                      replace p533 := eq_true p533
                      replace q533 := eq_true q533
                      go_wp2_with (first | ((with_reducible refine gate_callee (f := 16) rfl ?_); refine goesL_ (some 96) rfl rfl Tryd.func16 (by kernel_rfl) rfl #[.int .i64 (rd y527 x17_2), .string t523, .string t525] rfl (by (try simp only [List.map_toArray, List.map_cons, List.map_nil]); first | done | rfl | (simp only [List.length_drop, List.length_take]; rfl)) ?_; (with_reducible refine (logic_Binary.calls k2 (rd y527 x17_2) t523 t525 t534 t535 _ A20.out).mono ?_); rintro e w40 ⟨rfl, hb⟩; refine ⟨_, rfl, ?_⟩; have n0_ := Aside0.mk (Kd.R_below (by (with_reducible repeat (first | apply Kd.R_alloc | apply Kd.R_drewN | apply Kd.R_drew)); exact HO_15.out) hb); have n1_ := Aside0.mk (Kd.R_below (by (with_reducible repeat (first | apply Kd.R_alloc | apply Kd.R_drewN | apply Kd.R_drew)); exact HO_16.out) hb); have n2_ := Aside0.mk (below_step (by repeat (first | (with_reducible first | exact HB.out | apply below_alloc | apply pw_below_drewN | apply below_drew1) | exact HB.out)) hb); clear HO_15; clear HO_16; clear HB; have HO_15 := n0_; have HO_16 := n1_; have HB := n2_; clear n0_ n1_ n2_; (try clear hb); (try clear hb2); (try clear hk); (try clear hi)) | ((with_reducible refine gate_callee (f := 27) rfl ?_); refine goesL_ (some 101) rfl rfl Tryd.func27 (by kernel_rfl) rfl #[.string t534] rfl (by (try simp only [List.map_toArray, List.map_cons, List.map_nil]); first | done | rfl | (simp only [List.length_drop, List.length_take]; rfl)) ?_; (with_reducible refine (logic_Number.calls k2 t534 t536 t537 _ A21.out).mono ?_); rintro e w41 ⟨rfl, hb⟩; refine ⟨_, rfl, ?_⟩; have n0_ := Aside0.mk (Kd.R_below (by (with_reducible repeat (first | apply Kd.R_alloc | apply Kd.R_drewN | apply Kd.R_drew)); exact HO_15.out) hb); have n1_ := Aside0.mk (Kd.R_below (by (with_reducible repeat (first | apply Kd.R_alloc | apply Kd.R_drewN | apply Kd.R_drew)); exact HO_16.out) hb); have n2_ := Aside0.mk (below_step (by repeat (first | (with_reducible first | exact HB.out | apply below_alloc | apply pw_below_drewN | apply below_drew1) | exact HB.out)) hb); clear HO_15; clear HO_16; clear HB; have HO_15 := n0_; have HO_16 := n1_; have HB := n2_; clear n0_ n1_ n2_; (try clear hb); (try clear hb2); (try clear hk); (try clear hi)))
                      go_ret
                      exact ⟨by first | rfl | (simp [errW_none, errW_some] <;> rfl) | (simp only [← hji4, ← hji6]; first | rfl | (simp [errW_none, errW_some] <;> rfl)) | (simp [*, errW_none, errW_some] <;> rfl), by repeat (first | (with_reducible first | exact HB.out | apply below_alloc | apply pw_below_drewN | apply below_drew1) | exact HB.out)⟩
                  · rw [if_neg c22] at H
                    have c22b0 : (t535 == 0) = false := beq_eq_false_iff_ne.mpr c22
                    have c22b1 : (t535 != 0) = true := bne_iff_ne.mpr c22
                    obtain rfl := Option.some.inj H
                    obtain ⟨Ao42, co42, eo42⟩ := Kd.R_slice HO_15.out
                    subst eo42
                    have p533 : 0 ≤ (x17_2 : Int) := of_decide_eq_true (by first | (with_reducible assumption) | assumption)
                    have q533 : x17_2 < (y527.length : Int) := of_decide_eq_true (by first | (with_reducible assumption) | assumption)
                    obtain ⟨ad533, e533, hx533_0⟩ := Kd.at_int (Kd.R_reads' HO_15.out).2.2 x17_2 p533 q533
                    cases e533
                    replace p533 := eq_true p533
                    replace q533 := eq_true q533
                    go_wp2_with (first | ((with_reducible refine gate_callee (f := 16) rfl ?_); refine goesL_ (some 96) rfl rfl Tryd.func16 (by kernel_rfl) rfl #[.int .i64 (rd y527 x17_2), .string t523, .string t525] rfl (by (try simp only [List.map_toArray, List.map_cons, List.map_nil]); first | done | rfl | (simp only [List.length_drop, List.length_take]; rfl)) ?_; (with_reducible refine (logic_Binary.calls k2 (rd y527 x17_2) t523 t525 t534 t535 _ A20.out).mono ?_); rintro e w43 ⟨rfl, hb⟩; refine ⟨_, rfl, ?_⟩; have n0_ := Aside0.mk (Kd.R_below (by (with_reducible repeat (first | apply Kd.R_alloc | apply Kd.R_drewN | apply Kd.R_drew)); exact HO_15.out) hb); have n1_ := Aside0.mk (Kd.R_below (by (with_reducible repeat (first | apply Kd.R_alloc | apply Kd.R_drewN | apply Kd.R_drew)); exact HO_16.out) hb); have n2_ := Aside0.mk (below_step (by repeat (first | (with_reducible first | exact HB.out | apply below_alloc | apply pw_below_drewN | apply below_drew1) | exact HB.out)) hb); clear HO_15; clear HO_16; clear HB; have HO_15 := n0_; have HO_16 := n1_; have HB := n2_; clear n0_ n1_ n2_; (try clear hb); (try clear hb2); (try clear hk); (try clear hi)) | ((with_reducible refine gate_callee (f := 27) rfl ?_); refine goesL_ (some 101) rfl rfl Tryd.func27 (by kernel_rfl) rfl #[.string t534] rfl (by (try simp only [List.map_toArray, List.map_cons, List.map_nil]); first | done | rfl | (simp only [List.length_drop, List.length_take]; rfl)) ?_; (with_reducible refine (logic_Number.calls k2 t534 t536 t537 _ A21.out).mono ?_); rintro e w44 ⟨rfl, hb⟩; refine ⟨_, rfl, ?_⟩; have n0_ := Aside0.mk (Kd.R_below (by (with_reducible repeat (first | apply Kd.R_alloc | apply Kd.R_drewN | apply Kd.R_drew)); exact HO_15.out) hb); have n1_ := Aside0.mk (Kd.R_below (by (with_reducible repeat (first | apply Kd.R_alloc | apply Kd.R_drewN | apply Kd.R_drew)); exact HO_16.out) hb); have n2_ := Aside0.mk (below_step (by repeat (first | (with_reducible first | exact HB.out | apply below_alloc | apply pw_below_drewN | apply below_drew1) | exact HB.out)) hb); clear HO_15; clear HO_16; clear HB; have HO_15 := n0_; have HO_16 := n1_; have HB := n2_; clear n0_ n1_ n2_; (try clear hb); (try clear hb2); (try clear hk); (try clear hi)))
                    go_ret
                    exact ⟨by first | rfl | (simp [errW_none, errW_some] <;> rfl) | (simp only [← hji4, ← hji6]; first | rfl | (simp [errW_none, errW_some] <;> rfl)) | (simp [*, errW_none, errW_some] <;> rfl), by repeat (first | (with_reducible first | exact HB.out | apply below_alloc | apply pw_below_drewN | apply below_drew1) | exact HB.out)⟩
                · rw [if_neg c19] at H
                  exact absurd H (by simp)
              · rw [if_neg c18] at H
                have c18b0 : decide (x17_2 < (y527.length : Int)) = false := decide_eq_false c18
                clear c18
                obtain ⟨y539, hy539⟩ : ∃ y_ : List Int, y_ = (([17, 18, 19, 20, 21, 22] : List Int)) := ⟨_, rfl⟩
                replace H : (silkwormlaw01_LogicSums.l1 k2 (wrap64 ((ji6) - 1)) (Go.bits .and .i64 a0 (wrap64 ((ji6) - 1))) t523 t525 y539 (([decide ((Go.bits .and .i64 a0 (wrap64 ((ji6) - 1))) < (Go.bits .and .i64 a1 (wrap64 ((ji6) - 1)))), decide ((Go.bits .and .i64 a0 (wrap64 ((ji6) - 1))) ≤ (Go.bits .and .i64 a1 (wrap64 ((ji6) - 1)))), decide ((Go.bits .and .i64 a0 (wrap64 ((ji6) - 1))) > (Go.bits .and .i64 a1 (wrap64 ((ji6) - 1)))), decide ((Go.bits .and .i64 a0 (wrap64 ((ji6) - 1))) ≥ (Go.bits .and .i64 a1 (wrap64 ((ji6) - 1)))), ((Go.bits .and .i64 a0 (wrap64 ((ji6) - 1))) == (Go.bits .and .i64 a1 (wrap64 ((ji6) - 1)))), ((Go.bits .and .i64 a0 (wrap64 ((ji6) - 1))) != (Go.bits .and .i64 a1 (wrap64 ((ji6) - 1))))] : List Bool)) 0) = some r := by first | (rw [hy539]; with_reducible exact H) | (have H2_ := (Option.bind_some _ _).symm.trans H; rw [hy539]; with_reducible exact H2_) | (have H2_ := (Option.bind_some _ _).symm.trans H; with_reducible exact H2_) | with_reducible exact H | (rw [hy539]; exact H) | exact H
                have Ny539 := Aside0.mk hy539
                clear hy539
                obtain ⟨y542, hy542⟩ : ∃ y_ : List Bool, y_ = (([decide ((Go.bits .and .i64 a0 (wrap64 ((ji6) - 1))) < (Go.bits .and .i64 a1 (wrap64 ((ji6) - 1)))), decide ((Go.bits .and .i64 a0 (wrap64 ((ji6) - 1))) ≤ (Go.bits .and .i64 a1 (wrap64 ((ji6) - 1)))), decide ((Go.bits .and .i64 a0 (wrap64 ((ji6) - 1))) > (Go.bits .and .i64 a1 (wrap64 ((ji6) - 1)))), decide ((Go.bits .and .i64 a0 (wrap64 ((ji6) - 1))) ≥ (Go.bits .and .i64 a1 (wrap64 ((ji6) - 1)))), ((Go.bits .and .i64 a0 (wrap64 ((ji6) - 1))) == (Go.bits .and .i64 a1 (wrap64 ((ji6) - 1)))), ((Go.bits .and .i64 a0 (wrap64 ((ji6) - 1))) != (Go.bits .and .i64 a1 (wrap64 ((ji6) - 1))))] : List Bool)) := ⟨_, rfl⟩
                replace H : (silkwormlaw01_LogicSums.l1 k2 (wrap64 ((ji6) - 1)) (Go.bits .and .i64 a0 (wrap64 ((ji6) - 1))) t523 t525 y539 y542 0) = some r := by first | (rw [hy542]; with_reducible exact H) | (have H2_ := (Option.bind_some _ _).symm.trans H; rw [hy542]; with_reducible exact H2_) | (have H2_ := (Option.bind_some _ _).symm.trans H; with_reducible exact H2_) | with_reducible exact H | (rw [hy542]; exact H) | exact H
                have Ny542 := Aside0.mk hy542
                clear hy542
                have H' := Aside0.mk H
                clear H
                obtain ⟨Ao45, co45, eo45⟩ := Kd.R_slice HO_15.out
                subst eo45
                go_wp2_with (first | ((with_reducible refine gate_dst (N := 124) rfl ?_); (try (refine gate_guard (by rfl) ?_; dsimp only)); refine Kd.R_lit (Kd.int .i64) _ 3 ?hg (N := 124) ?hd (xs := ([17, 18, 19, 20, 21, 22] : List Int)) (inner := [.int .i64 17, .int .i64 18, .int .i64 19, .int .i64 20, .int .i64 21, .int .i64 22]) (ok := fun _ => True) (okp := fun _ => True) ?hr ?hp (fun _ hk => hk) trivial (Below.refl _ _) (Nat.le_refl _) (by simp) ?_; (case hd => rfl); (case hg => rfl); (case hr => first | (go_simp; done) | (go_simp; rfl)); (case hp => exact (Reps.one (show Kd.M (Kd.int .i64) _ _ _ 17 [.int .i64 17] from rfl) (Reps.one (show Kd.M (Kd.int .i64) _ _ _ 18 [.int .i64 18] from rfl) (Reps.one (show Kd.M (Kd.int .i64) _ _ _ 19 [.int .i64 19] from rfl) (Reps.one (show Kd.M (Kd.int .i64) _ _ _ 20 [.int .i64 20] from rfl) (Reps.one (show Kd.M (Kd.int .i64) _ _ _ 21 [.int .i64 21] from rfl) (Reps.one (show Kd.M (Kd.int .i64) _ _ _ 22 [.int .i64 22] from rfl) (Reps.none _ _)))))))); intro v540 w46 ho47 hb hg_ hnew_; clear hg_ hnew_; (first | rw [← Ny539.out] at ho47 | (simp only [Int.reduceToNat] at ho47; rw [← Ny539.out] at ho47)); have n0_ := Aside0.mk (Kd.R_elder' (by (with_reducible repeat (first | apply Kd.R_alloc | apply Kd.R_drewN | apply Kd.R_drew)); exact HO_15.out) (Kd.R_base ho47) hb); have n1_ := Aside0.mk (Kd.R_elder' (by (with_reducible repeat (first | apply Kd.R_alloc | apply Kd.R_drewN | apply Kd.R_drew)); exact HO_16.out) (Kd.R_base ho47) hb); have n2_ := Aside0.mk (Kd.R_lower (Kd.R_new' (Kd.R_new' ho47 (Kd.R_lt (by (with_reducible repeat (first | apply Kd.R_alloc | apply Kd.R_drewN | apply Kd.R_drew)); exact HO_15.out))) (Kd.R_lt (by (with_reducible repeat (first | apply Kd.R_alloc | apply Kd.R_drewN | apply Kd.R_drew)); exact HO_16.out))) (below_size (by repeat (first | (with_reducible first | exact HB.out | apply below_alloc | apply pw_below_drewN | apply below_drew1) | exact HB.out)))); have n3_ := Aside0.mk (below_step (by repeat (first | (with_reducible first | exact HB.out | apply below_alloc | apply pw_below_drewN | apply below_drew1) | exact HB.out)) hb); clear HO_15; clear HO_16; clear HB; have HO_15 := n0_; have HO_16 := n1_; have HO541 := n2_; have HB := n3_; clear n0_ n1_ n2_ n3_; clear hb ho47) | ((with_reducible refine gate_dst (N := 143) rfl ?_); (try (refine gate_guard (by rfl) ?_; dsimp only)); refine Kd.R_lit Kd.bool _ 4 ?hg (N := 143) ?hd (xs := ([decide ((Go.bits .and .i64 a0 (wrap64 ((ji6) - 1))) < (Go.bits .and .i64 a1 (wrap64 ((ji6) - 1)))), decide ((Go.bits .and .i64 a0 (wrap64 ((ji6) - 1))) ≤ (Go.bits .and .i64 a1 (wrap64 ((ji6) - 1)))), decide ((Go.bits .and .i64 a0 (wrap64 ((ji6) - 1))) > (Go.bits .and .i64 a1 (wrap64 ((ji6) - 1)))), decide ((Go.bits .and .i64 a0 (wrap64 ((ji6) - 1))) ≥ (Go.bits .and .i64 a1 (wrap64 ((ji6) - 1)))), ((Go.bits .and .i64 a0 (wrap64 ((ji6) - 1))) == (Go.bits .and .i64 a1 (wrap64 ((ji6) - 1)))), ((Go.bits .and .i64 a0 (wrap64 ((ji6) - 1))) != (Go.bits .and .i64 a1 (wrap64 ((ji6) - 1))))] : List Bool)) (inner := [.bool (decide ((Go.bits .and .i64 a0 (wrap64 ((ji6) - 1))) < (Go.bits .and .i64 a1 (wrap64 ((ji6) - 1))))), .bool (decide ((Go.bits .and .i64 a0 (wrap64 ((ji6) - 1))) ≤ (Go.bits .and .i64 a1 (wrap64 ((ji6) - 1))))), .bool (decide ((Go.bits .and .i64 a0 (wrap64 ((ji6) - 1))) > (Go.bits .and .i64 a1 (wrap64 ((ji6) - 1))))), .bool (decide ((Go.bits .and .i64 a0 (wrap64 ((ji6) - 1))) ≥ (Go.bits .and .i64 a1 (wrap64 ((ji6) - 1))))), .bool ((Go.bits .and .i64 a0 (wrap64 ((ji6) - 1))) == (Go.bits .and .i64 a1 (wrap64 ((ji6) - 1)))), .bool ((Go.bits .and .i64 a0 (wrap64 ((ji6) - 1))) != (Go.bits .and .i64 a1 (wrap64 ((ji6) - 1))))]) (ok := fun _ => True) (okp := fun _ => True) ?hr ?hp (fun _ hk => hk) trivial (Below.refl _ _) (Nat.le_refl _) (by simp) ?_; (case hd => rfl); (case hg => rfl); (case hr => first | (go_simp; done) | (go_simp; rfl)); (case hp => exact (Reps.one (show Kd.M Kd.bool _ _ _ (decide ((Go.bits .and .i64 a0 (wrap64 ((ji6) - 1))) < (Go.bits .and .i64 a1 (wrap64 ((ji6) - 1))))) [.bool (decide ((Go.bits .and .i64 a0 (wrap64 ((ji6) - 1))) < (Go.bits .and .i64 a1 (wrap64 ((ji6) - 1)))))] from rfl) (Reps.one (show Kd.M Kd.bool _ _ _ (decide ((Go.bits .and .i64 a0 (wrap64 ((ji6) - 1))) ≤ (Go.bits .and .i64 a1 (wrap64 ((ji6) - 1))))) [.bool (decide ((Go.bits .and .i64 a0 (wrap64 ((ji6) - 1))) ≤ (Go.bits .and .i64 a1 (wrap64 ((ji6) - 1)))))] from rfl) (Reps.one (show Kd.M Kd.bool _ _ _ (decide ((Go.bits .and .i64 a0 (wrap64 ((ji6) - 1))) > (Go.bits .and .i64 a1 (wrap64 ((ji6) - 1))))) [.bool (decide ((Go.bits .and .i64 a0 (wrap64 ((ji6) - 1))) > (Go.bits .and .i64 a1 (wrap64 ((ji6) - 1)))))] from rfl) (Reps.one (show Kd.M Kd.bool _ _ _ (decide ((Go.bits .and .i64 a0 (wrap64 ((ji6) - 1))) ≥ (Go.bits .and .i64 a1 (wrap64 ((ji6) - 1))))) [.bool (decide ((Go.bits .and .i64 a0 (wrap64 ((ji6) - 1))) ≥ (Go.bits .and .i64 a1 (wrap64 ((ji6) - 1)))))] from rfl) (Reps.one (show Kd.M Kd.bool _ _ _ ((Go.bits .and .i64 a0 (wrap64 ((ji6) - 1))) == (Go.bits .and .i64 a1 (wrap64 ((ji6) - 1)))) [.bool ((Go.bits .and .i64 a0 (wrap64 ((ji6) - 1))) == (Go.bits .and .i64 a1 (wrap64 ((ji6) - 1))))] from rfl) (Reps.one (show Kd.M Kd.bool _ _ _ ((Go.bits .and .i64 a0 (wrap64 ((ji6) - 1))) != (Go.bits .and .i64 a1 (wrap64 ((ji6) - 1)))) [.bool ((Go.bits .and .i64 a0 (wrap64 ((ji6) - 1))) != (Go.bits .and .i64 a1 (wrap64 ((ji6) - 1))))] from rfl) (Reps.none _ _)))))))); intro v543 w48 ho49 hb hg_ hnew_; clear hg_ hnew_; (first | rw [← Ny542.out] at ho49 | (simp only [Int.reduceToNat] at ho49; rw [← Ny542.out] at ho49)); have n0_ := Aside0.mk (Kd.R_below (by (with_reducible repeat (first | apply Kd.R_alloc | apply Kd.R_drewN | apply Kd.R_drew)); exact HO_15.out) hb); have n1_ := Aside0.mk (Kd.R_below (by (with_reducible repeat (first | apply Kd.R_alloc | apply Kd.R_drewN | apply Kd.R_drew)); exact HO_16.out) hb); have n2_ := Aside0.mk (Kd.R_below (by (with_reducible repeat (first | apply Kd.R_alloc | apply Kd.R_drewN | apply Kd.R_drew)); exact HO541.out) hb); have n3_ := Aside0.mk (Kd.R_lower ho49 (below_size (by repeat (first | (with_reducible first | exact HB.out | apply below_alloc | apply pw_below_drewN | apply below_drew1) | exact HB.out)))); have n4_ := Aside0.mk (below_step (by repeat (first | (with_reducible first | exact HB.out | apply below_alloc | apply pw_below_drewN | apply below_drew1) | exact HB.out)) hb); clear HO_15; clear HO_16; clear HO541; clear HB; have HO_15 := n0_; have HO_16 := n1_; have HO541 := n2_; have HO544 := n3_; have HB := n4_; clear n0_ n1_ n2_ n3_ n4_; clear hb ho49))
                go_loopg [24] k2 (fun kq v24 w' => ∃ (x24_3 : Int), v24 = .int .i64 x24_3 ∧ Aside0 (silkwormlaw01_LogicSums.l1 kq (wrap64 ((ji6) - 1)) (Go.bits .and .i64 a0 (wrap64 ((ji6) - 1))) t523 t525 y539 y542 x24_3 = some r) ∧ Aside0 (kq ≤ k2) ∧ Aside0 (Kd.R (Kd.int .i64) 3 w' w.heap.size (fun _ => True) v540 y539) ∧ Aside0 (Kd.R Kd.bool 4 w' w.heap.size (fun _ => True) v543 y542) ∧ Aside0 (Below w.heap.size w w'))
                case atStart => exact ⟨(0), (by first | rfl | (simp; done) | (simp [*]; done)), H', ⟨Nat.le_refl _⟩, ⟨by (with_reducible repeat (first | apply Kd.R_alloc | apply Kd.R_drewN | apply Kd.R_drew)); exact Kd.R_mono HO541.out (fun _ hk => trivial)⟩, ⟨by (with_reducible repeat (first | apply Kd.R_alloc | apply Kd.R_drewN | apply Kd.R_drew)); exact HO544.out⟩, ⟨by repeat (first | (with_reducible first | exact HB.out | apply below_alloc | apply pw_below_drewN | apply below_drew1) | exact HB.out)⟩⟩
                case round =>
                  clear H'
                  try clear c1
                  try clear c2
                  try clear p2
                  try clear c5
                  try clear c5b0
                  try clear c5b1
                  try clear p5
                  try clear q5
                  try clear hx5
                  try clear p6
                  try clear c12
                  try clear c12b0
                  try clear c12b1
                  try clear c13
                  try clear c15
                  try clear c16
                  try clear c18
                  try clear c18b0
                  try clear c19
                  try clear c19b0
                  try clear c22
                  try clear c22b0
                  try clear c22b1
                  try clear c23
                  try clear c23b0
                  try clear c23b1
                  try clear c24
                  try clear c24b0
                  try clear c25
                  try clear c25b0
                  try clear c25b1
                  try clear c26
                  try clear c26b0
                  try clear c26b1
                  try clear c27
                  try clear hx533_0
                  try clear hx538_0
                  try clear p2
                  try clear p533
                  try clear p538
                  try clear p6
                  try clear q533
                  try clear q538
                  obtain ⟨x24_3, rfl, HA, HK3, HO_22, HO_23, HB⟩ := hrel
                  cases gk with
                  | zero => exact absurd HA.out (by simp [silkwormlaw01_LogicSums.l1])
                  | succ k3 =>
                    have H := HA.out
                    clear HA
                    simp only [silkwormlaw01_LogicSums.l1] at H
                    by_cases c50 : x24_3 < (y539.length : Int)
                    · rw [if_pos c50] at H
                      have c50b0 : decide (x24_3 < (y539.length : Int)) = true := decide_eq_true c50
                      clear c50
                      by_cases c51 : 0 ≤ x24_3
                      · rw [if_pos c51] at H
                        have c51b0 : decide (0 ≤ x24_3) = true := decide_eq_true c51
                        clear c51
                        replace H := Option.bind_eq_some_iff.mp H
                        obtain ⟨⟨t546, t547⟩, A520, H⟩ := H
                        replace H : (if t547 = 0 then (if x24_3 < (y542.length : Int) then (if ((t546.toList == ([49] : List UInt8)) != (rdOf false y542 x24_3)) = true then (some false) else (if t546.toList = ([48] : List UInt8) then (silkwormlaw01_LogicSums.l1 k3 (wrap64 ((ji6) - 1)) (Go.bits .and .i64 a0 (wrap64 ((ji6) - 1))) t523 t525 y539 y542 (wrap64 (x24_3 + 1))) else (if t546.toList = ([49] : List UInt8) then (silkwormlaw01_LogicSums.l1 k3 (wrap64 ((ji6) - 1)) (Go.bits .and .i64 a0 (wrap64 ((ji6) - 1))) t523 t525 y539 y542 (wrap64 (x24_3 + 1))) else (some false)))) else (none)) else (some false)) = some r := H
                        have A52 := Aside0.mk A520
                        clear A520
                        by_cases c53 : t547 = 0
                        · rw [if_pos c53] at H
                          have c53b0 : (t547 == 0) = true := beq_iff_eq.mpr c53
                          have c53b1 : (t547 != 0) = false := bne_eq_false_iff_eq.mpr c53
                          clear c53
                          by_cases c54 : x24_3 < (y542.length : Int)
                          · rw [if_pos c54] at H
                            have c54b0 : decide (x24_3 < (y542.length : Int)) = true := decide_eq_true c54
                            clear c54
                            by_cases c55 : ((t546.toList == ([49] : List UInt8)) != (rdOf false y542 x24_3)) = true
                            · rw [if_pos c55] at H
                              have c55b0 : ((t546.toList == ([49] : List UInt8)) != (rdOf false y542 x24_3)) = true := c55
                              (try (have c55b1 : decide ((t546.toList == ([49] : List UInt8)) = (rdOf false y542 x24_3)) = false := by simpa using c55))
                              (try (have c55b2 : ((t546.toList == ([49] : List UInt8)) == (rdOf false y542 x24_3)) = false := by simpa using c55))
                              (try (have c55b3 : ¬ ((t546.toList == ([49] : List UInt8)) = (rdOf false y542 x24_3)) := by simpa using c55))
                              clear c55
                              obtain rfl := Option.some.inj H
                              obtain ⟨Ao56, co56, eo56⟩ := Kd.R_slice HO_22.out
                              subst eo56
                              have p545 : 0 ≤ (x24_3 : Int) := of_decide_eq_true (by first | (with_reducible assumption) | assumption)
                              have q545 : x24_3 < (y539.length : Int) := of_decide_eq_true (by first | (with_reducible assumption) | assumption)
                              obtain ⟨ad545, e545, hx545_0⟩ := Kd.at_int (Kd.R_reads' HO_22.out).2.2 x24_3 p545 q545
                              cases e545
                              replace p545 := eq_true p545
                              replace q545 := eq_true q545
                              go_wp2_with (first | ((with_reducible refine gate_callee (f := 16) rfl ?_); refine goesL_ (some 157) rfl rfl Tryd.func16 (by kernel_rfl) rfl #[.int .i64 (rd y539 x24_3), .string t523, .string t525] rfl (by (try simp only [List.map_toArray, List.map_cons, List.map_nil]); first | done | rfl | (simp only [List.length_drop, List.length_take]; rfl)) ?_; (with_reducible refine (logic_Binary.calls k3 (rd y539 x24_3) t523 t525 t546 t547 _ A52.out).mono ?_); rintro e w57 ⟨rfl, hb⟩; refine ⟨_, rfl, ?_⟩; have n0_ := Aside0.mk (Kd.R_below (by (with_reducible repeat (first | apply Kd.R_alloc | apply Kd.R_drewN | apply Kd.R_drew)); exact HO_22.out) hb); have n1_ := Aside0.mk (Kd.R_below (by (with_reducible repeat (first | apply Kd.R_alloc | apply Kd.R_drewN | apply Kd.R_drew)); exact HO_23.out) hb); have n2_ := Aside0.mk (below_step (by repeat (first | (with_reducible first | exact HB.out | apply below_alloc | apply pw_below_drewN | apply below_drew1) | exact HB.out)) hb); clear HO_22; clear HO_23; clear HB; have HO_22 := n0_; have HO_23 := n1_; have HB := n2_; clear n0_ n1_ n2_; (try clear hb); (try clear hb2); (try clear hk); (try clear hi); obtain ⟨Ao58, co58, eo58⟩ := Kd.R_slice HO_23.out; subst eo58; have p548 : 0 ≤ (x24_3 : Int) := of_decide_eq_true (by first | (with_reducible assumption) | assumption); have q548 : x24_3 < (y542.length : Int) := of_decide_eq_true (by first | (with_reducible assumption) | assumption); obtain ⟨ad548, e548, hx548_0⟩ := Kd.at_bool (Kd.R_reads' HO_23.out).2.2 x24_3 p548 q548; cases e548; replace p548 := eq_true p548; replace q548 := eq_true q548))
                              go_ret
                              exact ⟨by first | rfl | (simp [errW_none, errW_some] <;> rfl) | (simp only [← hji4, ← hji6]; first | rfl | (simp [errW_none, errW_some] <;> rfl)) | (simp [*, errW_none, errW_some] <;> rfl), by repeat (first | (with_reducible first | exact HB.out | apply below_alloc | apply pw_below_drewN | apply below_drew1) | exact HB.out)⟩
                            · rw [if_neg c55] at H
                              have c55b0 : ((t546.toList == ([49] : List UInt8)) != (rdOf false y542 x24_3)) = false := by simpa using c55
                              (try (have c55b1 : decide ((t546.toList == ([49] : List UInt8)) = (rdOf false y542 x24_3)) = true := by simpa using c55))
                              (try (have c55b2 : ((t546.toList == ([49] : List UInt8)) == (rdOf false y542 x24_3)) = true := by simpa using c55))
                              clear c55
                              by_cases c59 : t546.toList = ([48] : List UInt8)
                              · rw [if_pos c59] at H
                                have c59b0 : (t546.toList == ([48] : List UInt8)) = true := beq_iff_eq.mpr c59
                                have c59b1 : (t546.toList != ([48] : List UInt8)) = false := bne_eq_false_iff_eq.mpr c59
                                clear c59
                                have H' := Aside0.mk H
                                clear H
                                obtain ⟨Ao60, co60, eo60⟩ := Kd.R_slice HO_22.out
                                subst eo60
                                have p545 : 0 ≤ (x24_3 : Int) := of_decide_eq_true (by first | (with_reducible assumption) | assumption)
                                have q545 : x24_3 < (y539.length : Int) := of_decide_eq_true (by first | (with_reducible assumption) | assumption)
                                obtain ⟨ad545, e545, hx545_0⟩ := Kd.at_int (Kd.R_reads' HO_22.out).2.2 x24_3 p545 q545
                                cases e545
                                replace p545 := eq_true p545
                                replace q545 := eq_true q545
                                go_wp2_with (first | ((with_reducible refine gate_callee (f := 16) rfl ?_); refine goesL_ (some 157) rfl rfl Tryd.func16 (by kernel_rfl) rfl #[.int .i64 (rd y539 x24_3), .string t523, .string t525] rfl (by (try simp only [List.map_toArray, List.map_cons, List.map_nil]); first | done | rfl | (simp only [List.length_drop, List.length_take]; rfl)) ?_; (with_reducible refine (logic_Binary.calls k3 (rd y539 x24_3) t523 t525 t546 t547 _ A52.out).mono ?_); rintro e w61 ⟨rfl, hb⟩; refine ⟨_, rfl, ?_⟩; have n0_ := Aside0.mk (Kd.R_below (by (with_reducible repeat (first | apply Kd.R_alloc | apply Kd.R_drewN | apply Kd.R_drew)); exact HO_22.out) hb); have n1_ := Aside0.mk (Kd.R_below (by (with_reducible repeat (first | apply Kd.R_alloc | apply Kd.R_drewN | apply Kd.R_drew)); exact HO_23.out) hb); have n2_ := Aside0.mk (below_step (by repeat (first | (with_reducible first | exact HB.out | apply below_alloc | apply pw_below_drewN | apply below_drew1) | exact HB.out)) hb); clear HO_22; clear HO_23; clear HB; have HO_22 := n0_; have HO_23 := n1_; have HB := n2_; clear n0_ n1_ n2_; (try clear hb); (try clear hb2); (try clear hk); (try clear hi); obtain ⟨Ao62, co62, eo62⟩ := Kd.R_slice HO_23.out; subst eo62; have p548 : 0 ≤ (x24_3 : Int) := of_decide_eq_true (by first | (with_reducible assumption) | assumption); have q548 : x24_3 < (y542.length : Int) := of_decide_eq_true (by first | (with_reducible assumption) | assumption); obtain ⟨ad548, e548, hx548_0⟩ := Kd.at_bool (Kd.R_reads' HO_23.out).2.2 x24_3 p548 q548; cases e548; replace p548 := eq_true p548; replace q548 := eq_true q548))
                                go_roundg k3
                                case measure => have := HJ8.out; have := HK2.out; have := HK3.out; omega
                                case rel => exact ⟨(wrap64 (x24_3 + 1)), (by first | rfl | (simp; done) | (simp [*]; done)), H', ⟨by have := HJ8.out; have := HK2.out; have := HK3.out; omega⟩, ⟨by (with_reducible repeat (first | apply Kd.R_alloc | apply Kd.R_drewN | apply Kd.R_drew)); exact HO_22.out⟩, ⟨by (with_reducible repeat (first | apply Kd.R_alloc | apply Kd.R_drewN | apply Kd.R_drew)); exact HO_23.out⟩, ⟨by repeat (first | (with_reducible first | exact HB.out | apply below_alloc | apply pw_below_drewN | apply below_drew1) | exact HB.out)⟩⟩
                              · rw [if_neg c59] at H
                                have c59b0 : (t546.toList == ([48] : List UInt8)) = false := beq_eq_false_iff_ne.mpr c59
                                have c59b1 : (t546.toList != ([48] : List UInt8)) = true := bne_iff_ne.mpr c59
                                by_cases c63 : t546.toList = ([49] : List UInt8)
                                · rw [if_pos c63] at H
                                  have c63b0 : (t546.toList == ([49] : List UInt8)) = true := beq_iff_eq.mpr c63
                                  (try (have c63z0t : (rdOf false y542 x24_3) = true := by have h_ := c55b2; rw [c63b0] at h_; simpa using h_))
                                  (try (have c63z0f : (rdOf false y542 x24_3) = false := by have h_ := c55b2; rw [c63b0] at h_; simpa using h_))
                                  (try (have c63z1t : (rdOf false y542 x24_3) = true := by have h_ := c55b2; rw [c63b0] at h_; simpa using h_))
                                  (try (have c63z1f : (rdOf false y542 x24_3) = false := by have h_ := c55b2; rw [c63b0] at h_; simpa using h_))
                                  have c63b1 : (t546.toList != ([49] : List UInt8)) = false := bne_eq_false_iff_eq.mpr c63
                                  clear c63
                                  have H' := Aside0.mk H
                                  clear H
                                  obtain ⟨Ao64, co64, eo64⟩ := Kd.R_slice HO_22.out
                                  subst eo64
                                  have p545 : 0 ≤ (x24_3 : Int) := of_decide_eq_true (by first | (with_reducible assumption) | assumption)
                                  have q545 : x24_3 < (y539.length : Int) := of_decide_eq_true (by first | (with_reducible assumption) | assumption)
                                  obtain ⟨ad545, e545, hx545_0⟩ := Kd.at_int (Kd.R_reads' HO_22.out).2.2 x24_3 p545 q545
                                  cases e545
                                  replace p545 := eq_true p545
                                  replace q545 := eq_true q545
                                  go_wp2_with (first | ((with_reducible refine gate_callee (f := 16) rfl ?_); refine goesL_ (some 157) rfl rfl Tryd.func16 (by kernel_rfl) rfl #[.int .i64 (rd y539 x24_3), .string t523, .string t525] rfl (by (try simp only [List.map_toArray, List.map_cons, List.map_nil]); first | done | rfl | (simp only [List.length_drop, List.length_take]; rfl)) ?_; (with_reducible refine (logic_Binary.calls k3 (rd y539 x24_3) t523 t525 t546 t547 _ A52.out).mono ?_); rintro e w65 ⟨rfl, hb⟩; refine ⟨_, rfl, ?_⟩; have n0_ := Aside0.mk (Kd.R_below (by (with_reducible repeat (first | apply Kd.R_alloc | apply Kd.R_drewN | apply Kd.R_drew)); exact HO_22.out) hb); have n1_ := Aside0.mk (Kd.R_below (by (with_reducible repeat (first | apply Kd.R_alloc | apply Kd.R_drewN | apply Kd.R_drew)); exact HO_23.out) hb); have n2_ := Aside0.mk (below_step (by repeat (first | (with_reducible first | exact HB.out | apply below_alloc | apply pw_below_drewN | apply below_drew1) | exact HB.out)) hb); clear HO_22; clear HO_23; clear HB; have HO_22 := n0_; have HO_23 := n1_; have HB := n2_; clear n0_ n1_ n2_; (try clear hb); (try clear hb2); (try clear hk); (try clear hi); obtain ⟨Ao66, co66, eo66⟩ := Kd.R_slice HO_23.out; subst eo66; have p548 : 0 ≤ (x24_3 : Int) := of_decide_eq_true (by first | (with_reducible assumption) | assumption); have q548 : x24_3 < (y542.length : Int) := of_decide_eq_true (by first | (with_reducible assumption) | assumption); obtain ⟨ad548, e548, hx548_0⟩ := Kd.at_bool (Kd.R_reads' HO_23.out).2.2 x24_3 p548 q548; cases e548; replace p548 := eq_true p548; replace q548 := eq_true q548))
                                  go_roundg k3
                                  case measure => have := HJ8.out; have := HK2.out; have := HK3.out; omega
                                  case rel => exact ⟨(wrap64 (x24_3 + 1)), (by first | rfl | (simp; done) | (simp [*]; done)), H', ⟨by have := HJ8.out; have := HK2.out; have := HK3.out; omega⟩, ⟨by (with_reducible repeat (first | apply Kd.R_alloc | apply Kd.R_drewN | apply Kd.R_drew)); exact HO_22.out⟩, ⟨by (with_reducible repeat (first | apply Kd.R_alloc | apply Kd.R_drewN | apply Kd.R_drew)); exact HO_23.out⟩, ⟨by repeat (first | (with_reducible first | exact HB.out | apply below_alloc | apply pw_below_drewN | apply below_drew1) | exact HB.out)⟩⟩
                                · rw [if_neg c63] at H
                                  have c63b0 : (t546.toList == ([49] : List UInt8)) = false := beq_eq_false_iff_ne.mpr c63
                                  (try (have c63z0t : (rdOf false y542 x24_3) = true := by have h_ := c55b2; rw [c63b0] at h_; simpa using h_))
                                  (try (have c63z0f : (rdOf false y542 x24_3) = false := by have h_ := c55b2; rw [c63b0] at h_; simpa using h_))
                                  (try (have c63z1t : (rdOf false y542 x24_3) = true := by have h_ := c55b2; rw [c63b0] at h_; simpa using h_))
                                  (try (have c63z1f : (rdOf false y542 x24_3) = false := by have h_ := c55b2; rw [c63b0] at h_; simpa using h_))
                                  have c63b1 : (t546.toList != ([49] : List UInt8)) = true := bne_iff_ne.mpr c63
                                  obtain rfl := Option.some.inj H
                                  obtain ⟨Ao67, co67, eo67⟩ := Kd.R_slice HO_22.out
                                  subst eo67
                                  have p545 : 0 ≤ (x24_3 : Int) := of_decide_eq_true (by first | (with_reducible assumption) | assumption)
                                  have q545 : x24_3 < (y539.length : Int) := of_decide_eq_true (by first | (with_reducible assumption) | assumption)
                                  obtain ⟨ad545, e545, hx545_0⟩ := Kd.at_int (Kd.R_reads' HO_22.out).2.2 x24_3 p545 q545
                                  cases e545
                                  replace p545 := eq_true p545
                                  replace q545 := eq_true q545
                                  go_wp2_with (first | ((with_reducible refine gate_callee (f := 16) rfl ?_); refine goesL_ (some 157) rfl rfl Tryd.func16 (by kernel_rfl) rfl #[.int .i64 (rd y539 x24_3), .string t523, .string t525] rfl (by (try simp only [List.map_toArray, List.map_cons, List.map_nil]); first | done | rfl | (simp only [List.length_drop, List.length_take]; rfl)) ?_; (with_reducible refine (logic_Binary.calls k3 (rd y539 x24_3) t523 t525 t546 t547 _ A52.out).mono ?_); rintro e w68 ⟨rfl, hb⟩; refine ⟨_, rfl, ?_⟩; have n0_ := Aside0.mk (Kd.R_below (by (with_reducible repeat (first | apply Kd.R_alloc | apply Kd.R_drewN | apply Kd.R_drew)); exact HO_22.out) hb); have n1_ := Aside0.mk (Kd.R_below (by (with_reducible repeat (first | apply Kd.R_alloc | apply Kd.R_drewN | apply Kd.R_drew)); exact HO_23.out) hb); have n2_ := Aside0.mk (below_step (by repeat (first | (with_reducible first | exact HB.out | apply below_alloc | apply pw_below_drewN | apply below_drew1) | exact HB.out)) hb); clear HO_22; clear HO_23; clear HB; have HO_22 := n0_; have HO_23 := n1_; have HB := n2_; clear n0_ n1_ n2_; (try clear hb); (try clear hb2); (try clear hk); (try clear hi); obtain ⟨Ao69, co69, eo69⟩ := Kd.R_slice HO_23.out; subst eo69; have p548 : 0 ≤ (x24_3 : Int) := of_decide_eq_true (by first | (with_reducible assumption) | assumption); have q548 : x24_3 < (y542.length : Int) := of_decide_eq_true (by first | (with_reducible assumption) | assumption); obtain ⟨ad548, e548, hx548_0⟩ := Kd.at_bool (Kd.R_reads' HO_23.out).2.2 x24_3 p548 q548; cases e548; replace p548 := eq_true p548; replace q548 := eq_true q548))
                                  go_ret
                                  exact ⟨by first | rfl | (simp [errW_none, errW_some] <;> rfl) | (simp only [← hji4, ← hji6]; first | rfl | (simp [errW_none, errW_some] <;> rfl)) | (simp [*, errW_none, errW_some] <;> rfl), by repeat (first | (with_reducible first | exact HB.out | apply below_alloc | apply pw_below_drewN | apply below_drew1) | exact HB.out)⟩
                          · rw [if_neg c54] at H
                            exact absurd H (by simp)
                        · rw [if_neg c53] at H
                          have c53b0 : (t547 == 0) = false := beq_eq_false_iff_ne.mpr c53
                          have c53b1 : (t547 != 0) = true := bne_iff_ne.mpr c53
                          obtain rfl := Option.some.inj H
                          obtain ⟨Ao70, co70, eo70⟩ := Kd.R_slice HO_22.out
                          subst eo70
                          have p545 : 0 ≤ (x24_3 : Int) := of_decide_eq_true (by first | (with_reducible assumption) | assumption)
                          have q545 : x24_3 < (y539.length : Int) := of_decide_eq_true (by first | (with_reducible assumption) | assumption)
                          obtain ⟨ad545, e545, hx545_0⟩ := Kd.at_int (Kd.R_reads' HO_22.out).2.2 x24_3 p545 q545
                          cases e545
                          replace p545 := eq_true p545
                          replace q545 := eq_true q545
                          go_wp2_with (first | ((with_reducible refine gate_callee (f := 16) rfl ?_); refine goesL_ (some 157) rfl rfl Tryd.func16 (by kernel_rfl) rfl #[.int .i64 (rd y539 x24_3), .string t523, .string t525] rfl (by (try simp only [List.map_toArray, List.map_cons, List.map_nil]); first | done | rfl | (simp only [List.length_drop, List.length_take]; rfl)) ?_; (with_reducible refine (logic_Binary.calls k3 (rd y539 x24_3) t523 t525 t546 t547 _ A52.out).mono ?_); rintro e w71 ⟨rfl, hb⟩; refine ⟨_, rfl, ?_⟩; have n0_ := Aside0.mk (Kd.R_below (by (with_reducible repeat (first | apply Kd.R_alloc | apply Kd.R_drewN | apply Kd.R_drew)); exact HO_22.out) hb); have n1_ := Aside0.mk (Kd.R_below (by (with_reducible repeat (first | apply Kd.R_alloc | apply Kd.R_drewN | apply Kd.R_drew)); exact HO_23.out) hb); have n2_ := Aside0.mk (below_step (by repeat (first | (with_reducible first | exact HB.out | apply below_alloc | apply pw_below_drewN | apply below_drew1) | exact HB.out)) hb); clear HO_22; clear HO_23; clear HB; have HO_22 := n0_; have HO_23 := n1_; have HB := n2_; clear n0_ n1_ n2_; (try clear hb); (try clear hb2); (try clear hk); (try clear hi)))
                          go_ret
                          exact ⟨by first | rfl | (simp [errW_none, errW_some] <;> rfl) | (simp only [← hji4, ← hji6]; first | rfl | (simp [errW_none, errW_some] <;> rfl)) | (simp [*, errW_none, errW_some] <;> rfl), by repeat (first | (with_reducible first | exact HB.out | apply below_alloc | apply pw_below_drewN | apply below_drew1) | exact HB.out)⟩
                      · rw [if_neg c51] at H
                        exact absurd H (by simp)
                    · rw [if_neg c50] at H
                      have c50b0 : decide (x24_3 < (y539.length : Int)) = false := decide_eq_false c50
                      clear c50
                      replace H := Option.bind_eq_some_iff.mp H
                      obtain ⟨⟨t549, t550⟩, A720, H⟩ := H
                      replace H : ((logic_Number.f k3 t549).bind fun bt551 => (if t550 = 0 then (if bt551.2 = 0 then (if bt551.1 = (Go.bits .and .i64 (wrap64 (-(Go.bits .and .i64 a0 (wrap64 ((ji6) - 1))))) (wrap64 ((ji6) - 1))) then ((silkwormlaw01_awake.f k3).bind fun t553 => (some t553)) else (some false)) else (some false)) else (some false))) = some r := H
                      have A72 := Aside0.mk A720
                      clear A720
                      replace H := Option.bind_eq_some_iff.mp H
                      obtain ⟨⟨t551, t552⟩, A730, H⟩ := H
                      replace H : (if t550 = 0 then (if t552 = 0 then (if t551 = (Go.bits .and .i64 (wrap64 (-(Go.bits .and .i64 a0 (wrap64 ((ji6) - 1))))) (wrap64 ((ji6) - 1))) then ((silkwormlaw01_awake.f k3).bind fun t553 => (some t553)) else (some false)) else (some false)) else (some false)) = some r := H
                      have A73 := Aside0.mk A730
                      clear A730
                      by_cases c74 : t550 = 0
                      · rw [if_pos c74] at H
                        have c74b0 : (t550 == 0) = true := beq_iff_eq.mpr c74
                        have c74b1 : (t550 != 0) = false := bne_eq_false_iff_eq.mpr c74
                        clear c74
                        by_cases c75 : t552 = 0
                        · rw [if_pos c75] at H
                          have c75b0 : (t552 == 0) = true := beq_iff_eq.mpr c75
                          have c75b1 : (t552 != 0) = false := bne_eq_false_iff_eq.mpr c75
                          clear c75
                          by_cases c76 : t551 = (Go.bits .and .i64 (wrap64 (-(Go.bits .and .i64 a0 (wrap64 ((ji6) - 1))))) (wrap64 ((ji6) - 1)))
                          · rw [if_pos c76] at H
                            have c76b0 : (t551 == (Go.bits .and .i64 (wrap64 (-(Go.bits .and .i64 a0 (wrap64 ((ji6) - 1))))) (wrap64 ((ji6) - 1)))) = true := beq_iff_eq.mpr c76
                            have c76b1 : (t551 != (Go.bits .and .i64 (wrap64 (-(Go.bits .and .i64 a0 (wrap64 ((ji6) - 1))))) (wrap64 ((ji6) - 1)))) = false := bne_eq_false_iff_eq.mpr c76
                            clear c76
                            replace H := Option.bind_eq_some_iff.mp H
                            obtain ⟨t553, A770, H⟩ := H
                            replace H : (some t553) = some r := H
                            have A77 := Aside0.mk A770
                            clear A770
                            obtain rfl := Option.some.inj H
                            obtain ⟨Ao78, co78, eo78⟩ := Kd.R_slice HO_22.out
                            subst eo78
                            go_wp2_with (first | ((with_reducible refine gate_callee (f := 28) rfl ?_); refine goesL_ (some 181) rfl rfl Tryd.func28 (by kernel_rfl) rfl #[.int .i64 9, .string t523] rfl (by (try simp only [List.map_toArray, List.map_cons, List.map_nil]); first | done | rfl | (simp only [List.length_drop, List.length_take]; rfl)) ?_; (with_reducible refine (logic_Unary.calls k3 9 t523 t549 t550 _ A72.out).mono ?_); rintro e w79 ⟨rfl, hb⟩; refine ⟨_, rfl, ?_⟩; have n0_ := Aside0.mk (Kd.R_below (by (with_reducible repeat (first | apply Kd.R_alloc | apply Kd.R_drewN | apply Kd.R_drew)); exact HO_22.out) hb); have n1_ := Aside0.mk (Kd.R_below (by (with_reducible repeat (first | apply Kd.R_alloc | apply Kd.R_drewN | apply Kd.R_drew)); exact HO_23.out) hb); have n2_ := Aside0.mk (below_step (by repeat (first | (with_reducible first | exact HB.out | apply below_alloc | apply pw_below_drewN | apply below_drew1) | exact HB.out)) hb); clear HO_22; clear HO_23; clear HB; have HO_22 := n0_; have HO_23 := n1_; have HB := n2_; clear n0_ n1_ n2_; (try clear hb); (try clear hb2); (try clear hk); (try clear hi)) | ((with_reducible refine gate_callee (f := 27) rfl ?_); refine goesL_ (some 186) rfl rfl Tryd.func27 (by kernel_rfl) rfl #[.string t549] rfl (by (try simp only [List.map_toArray, List.map_cons, List.map_nil]); first | done | rfl | (simp only [List.length_drop, List.length_take]; rfl)) ?_; (with_reducible refine (logic_Number.calls k3 t549 t551 t552 _ A73.out).mono ?_); rintro e w80 ⟨rfl, hb⟩; refine ⟨_, rfl, ?_⟩; have n0_ := Aside0.mk (Kd.R_below (by (with_reducible repeat (first | apply Kd.R_alloc | apply Kd.R_drewN | apply Kd.R_drew)); exact HO_22.out) hb); have n1_ := Aside0.mk (Kd.R_below (by (with_reducible repeat (first | apply Kd.R_alloc | apply Kd.R_drewN | apply Kd.R_drew)); exact HO_23.out) hb); have n2_ := Aside0.mk (below_step (by repeat (first | (with_reducible first | exact HB.out | apply below_alloc | apply pw_below_drewN | apply below_drew1) | exact HB.out)) hb); clear HO_22; clear HO_23; clear HB; have HO_22 := n0_; have HO_23 := n1_; have HB := n2_; clear n0_ n1_ n2_; (try clear hb); (try clear hb2); (try clear hk); (try clear hi)) | (go_at_call 19; (with_reducible refine (silkwormlaw01_awake.calls k3  t553 _ A77.out).mono ?_); rintro e w81 ⟨rfl, hb⟩; have n0_ := Aside0.mk (Kd.R_below (by (with_reducible repeat (first | apply Kd.R_alloc | apply Kd.R_drewN | apply Kd.R_drew)); exact HO_22.out) hb); have n1_ := Aside0.mk (Kd.R_below (by (with_reducible repeat (first | apply Kd.R_alloc | apply Kd.R_drewN | apply Kd.R_drew)); exact HO_23.out) hb); have n2_ := Aside0.mk (below_step (by repeat (first | (with_reducible first | exact HB.out | apply below_alloc | apply pw_below_drewN | apply below_drew1) | exact HB.out)) hb); clear HO_22; clear HO_23; clear HB; have HO_22 := n0_; have HO_23 := n1_; have HB := n2_; clear n0_ n1_ n2_; (try clear hb); (try clear hb2); (try clear hk); (try clear hi)))
                            go_ret
                            exact ⟨by first | rfl | (simp [errW_none, errW_some] <;> rfl) | (simp only [← hji4, ← hji6]; first | rfl | (simp [errW_none, errW_some] <;> rfl)) | (simp [*, errW_none, errW_some] <;> rfl), by repeat (first | (with_reducible first | exact HB.out | apply below_alloc | apply pw_below_drewN | apply below_drew1) | exact HB.out)⟩
                          · rw [if_neg c76] at H
                            have c76b0 : (t551 == (Go.bits .and .i64 (wrap64 (-(Go.bits .and .i64 a0 (wrap64 ((ji6) - 1))))) (wrap64 ((ji6) - 1)))) = false := beq_eq_false_iff_ne.mpr c76
                            have c76b1 : (t551 != (Go.bits .and .i64 (wrap64 (-(Go.bits .and .i64 a0 (wrap64 ((ji6) - 1))))) (wrap64 ((ji6) - 1)))) = true := bne_iff_ne.mpr c76
                            obtain rfl := Option.some.inj H
                            obtain ⟨Ao82, co82, eo82⟩ := Kd.R_slice HO_22.out
                            subst eo82
                            go_wp2_with (first | ((with_reducible refine gate_callee (f := 28) rfl ?_); refine goesL_ (some 181) rfl rfl Tryd.func28 (by kernel_rfl) rfl #[.int .i64 9, .string t523] rfl (by (try simp only [List.map_toArray, List.map_cons, List.map_nil]); first | done | rfl | (simp only [List.length_drop, List.length_take]; rfl)) ?_; (with_reducible refine (logic_Unary.calls k3 9 t523 t549 t550 _ A72.out).mono ?_); rintro e w83 ⟨rfl, hb⟩; refine ⟨_, rfl, ?_⟩; have n0_ := Aside0.mk (Kd.R_below (by (with_reducible repeat (first | apply Kd.R_alloc | apply Kd.R_drewN | apply Kd.R_drew)); exact HO_22.out) hb); have n1_ := Aside0.mk (Kd.R_below (by (with_reducible repeat (first | apply Kd.R_alloc | apply Kd.R_drewN | apply Kd.R_drew)); exact HO_23.out) hb); have n2_ := Aside0.mk (below_step (by repeat (first | (with_reducible first | exact HB.out | apply below_alloc | apply pw_below_drewN | apply below_drew1) | exact HB.out)) hb); clear HO_22; clear HO_23; clear HB; have HO_22 := n0_; have HO_23 := n1_; have HB := n2_; clear n0_ n1_ n2_; (try clear hb); (try clear hb2); (try clear hk); (try clear hi)) | ((with_reducible refine gate_callee (f := 27) rfl ?_); refine goesL_ (some 186) rfl rfl Tryd.func27 (by kernel_rfl) rfl #[.string t549] rfl (by (try simp only [List.map_toArray, List.map_cons, List.map_nil]); first | done | rfl | (simp only [List.length_drop, List.length_take]; rfl)) ?_; (with_reducible refine (logic_Number.calls k3 t549 t551 t552 _ A73.out).mono ?_); rintro e w84 ⟨rfl, hb⟩; refine ⟨_, rfl, ?_⟩; have n0_ := Aside0.mk (Kd.R_below (by (with_reducible repeat (first | apply Kd.R_alloc | apply Kd.R_drewN | apply Kd.R_drew)); exact HO_22.out) hb); have n1_ := Aside0.mk (Kd.R_below (by (with_reducible repeat (first | apply Kd.R_alloc | apply Kd.R_drewN | apply Kd.R_drew)); exact HO_23.out) hb); have n2_ := Aside0.mk (below_step (by repeat (first | (with_reducible first | exact HB.out | apply below_alloc | apply pw_below_drewN | apply below_drew1) | exact HB.out)) hb); clear HO_22; clear HO_23; clear HB; have HO_22 := n0_; have HO_23 := n1_; have HB := n2_; clear n0_ n1_ n2_; (try clear hb); (try clear hb2); (try clear hk); (try clear hi)))
                            go_ret
                            exact ⟨by first | rfl | (simp [errW_none, errW_some] <;> rfl) | (simp only [← hji4, ← hji6]; first | rfl | (simp [errW_none, errW_some] <;> rfl)) | (simp [*, errW_none, errW_some] <;> rfl), by repeat (first | (with_reducible first | exact HB.out | apply below_alloc | apply pw_below_drewN | apply below_drew1) | exact HB.out)⟩
                        · rw [if_neg c75] at H
                          have c75b0 : (t552 == 0) = false := beq_eq_false_iff_ne.mpr c75
                          have c75b1 : (t552 != 0) = true := bne_iff_ne.mpr c75
                          obtain rfl := Option.some.inj H
                          obtain ⟨Ao85, co85, eo85⟩ := Kd.R_slice HO_22.out
                          subst eo85
                          go_wp2_with (first | ((with_reducible refine gate_callee (f := 28) rfl ?_); refine goesL_ (some 181) rfl rfl Tryd.func28 (by kernel_rfl) rfl #[.int .i64 9, .string t523] rfl (by (try simp only [List.map_toArray, List.map_cons, List.map_nil]); first | done | rfl | (simp only [List.length_drop, List.length_take]; rfl)) ?_; (with_reducible refine (logic_Unary.calls k3 9 t523 t549 t550 _ A72.out).mono ?_); rintro e w86 ⟨rfl, hb⟩; refine ⟨_, rfl, ?_⟩; have n0_ := Aside0.mk (Kd.R_below (by (with_reducible repeat (first | apply Kd.R_alloc | apply Kd.R_drewN | apply Kd.R_drew)); exact HO_22.out) hb); have n1_ := Aside0.mk (Kd.R_below (by (with_reducible repeat (first | apply Kd.R_alloc | apply Kd.R_drewN | apply Kd.R_drew)); exact HO_23.out) hb); have n2_ := Aside0.mk (below_step (by repeat (first | (with_reducible first | exact HB.out | apply below_alloc | apply pw_below_drewN | apply below_drew1) | exact HB.out)) hb); clear HO_22; clear HO_23; clear HB; have HO_22 := n0_; have HO_23 := n1_; have HB := n2_; clear n0_ n1_ n2_; (try clear hb); (try clear hb2); (try clear hk); (try clear hi)) | ((with_reducible refine gate_callee (f := 27) rfl ?_); refine goesL_ (some 186) rfl rfl Tryd.func27 (by kernel_rfl) rfl #[.string t549] rfl (by (try simp only [List.map_toArray, List.map_cons, List.map_nil]); first | done | rfl | (simp only [List.length_drop, List.length_take]; rfl)) ?_; (with_reducible refine (logic_Number.calls k3 t549 t551 t552 _ A73.out).mono ?_); rintro e w87 ⟨rfl, hb⟩; refine ⟨_, rfl, ?_⟩; have n0_ := Aside0.mk (Kd.R_below (by (with_reducible repeat (first | apply Kd.R_alloc | apply Kd.R_drewN | apply Kd.R_drew)); exact HO_22.out) hb); have n1_ := Aside0.mk (Kd.R_below (by (with_reducible repeat (first | apply Kd.R_alloc | apply Kd.R_drewN | apply Kd.R_drew)); exact HO_23.out) hb); have n2_ := Aside0.mk (below_step (by repeat (first | (with_reducible first | exact HB.out | apply below_alloc | apply pw_below_drewN | apply below_drew1) | exact HB.out)) hb); clear HO_22; clear HO_23; clear HB; have HO_22 := n0_; have HO_23 := n1_; have HB := n2_; clear n0_ n1_ n2_; (try clear hb); (try clear hb2); (try clear hk); (try clear hi)))
                          go_ret
                          exact ⟨by first | rfl | (simp [errW_none, errW_some] <;> rfl) | (simp only [← hji4, ← hji6]; first | rfl | (simp [errW_none, errW_some] <;> rfl)) | (simp [*, errW_none, errW_some] <;> rfl), by repeat (first | (with_reducible first | exact HB.out | apply below_alloc | apply pw_below_drewN | apply below_drew1) | exact HB.out)⟩
                      · rw [if_neg c74] at H
                        have c74b0 : (t550 == 0) = false := beq_eq_false_iff_ne.mpr c74
                        have c74b1 : (t550 != 0) = true := bne_iff_ne.mpr c74
                        obtain rfl := Option.some.inj H
                        obtain ⟨Ao88, co88, eo88⟩ := Kd.R_slice HO_22.out
                        subst eo88
                        go_wp2_with (first | ((with_reducible refine gate_callee (f := 28) rfl ?_); refine goesL_ (some 181) rfl rfl Tryd.func28 (by kernel_rfl) rfl #[.int .i64 9, .string t523] rfl (by (try simp only [List.map_toArray, List.map_cons, List.map_nil]); first | done | rfl | (simp only [List.length_drop, List.length_take]; rfl)) ?_; (with_reducible refine (logic_Unary.calls k3 9 t523 t549 t550 _ A72.out).mono ?_); rintro e w89 ⟨rfl, hb⟩; refine ⟨_, rfl, ?_⟩; have n0_ := Aside0.mk (Kd.R_below (by (with_reducible repeat (first | apply Kd.R_alloc | apply Kd.R_drewN | apply Kd.R_drew)); exact HO_22.out) hb); have n1_ := Aside0.mk (Kd.R_below (by (with_reducible repeat (first | apply Kd.R_alloc | apply Kd.R_drewN | apply Kd.R_drew)); exact HO_23.out) hb); have n2_ := Aside0.mk (below_step (by repeat (first | (with_reducible first | exact HB.out | apply below_alloc | apply pw_below_drewN | apply below_drew1) | exact HB.out)) hb); clear HO_22; clear HO_23; clear HB; have HO_22 := n0_; have HO_23 := n1_; have HB := n2_; clear n0_ n1_ n2_; (try clear hb); (try clear hb2); (try clear hk); (try clear hi)) | ((with_reducible refine gate_callee (f := 27) rfl ?_); refine goesL_ (some 186) rfl rfl Tryd.func27 (by kernel_rfl) rfl #[.string t549] rfl (by (try simp only [List.map_toArray, List.map_cons, List.map_nil]); first | done | rfl | (simp only [List.length_drop, List.length_take]; rfl)) ?_; (with_reducible refine (logic_Number.calls k3 t549 t551 t552 _ A73.out).mono ?_); rintro e w90 ⟨rfl, hb⟩; refine ⟨_, rfl, ?_⟩; have n0_ := Aside0.mk (Kd.R_below (by (with_reducible repeat (first | apply Kd.R_alloc | apply Kd.R_drewN | apply Kd.R_drew)); exact HO_22.out) hb); have n1_ := Aside0.mk (Kd.R_below (by (with_reducible repeat (first | apply Kd.R_alloc | apply Kd.R_drewN | apply Kd.R_drew)); exact HO_23.out) hb); have n2_ := Aside0.mk (below_step (by repeat (first | (with_reducible first | exact HB.out | apply below_alloc | apply pw_below_drewN | apply below_drew1) | exact HB.out)) hb); clear HO_22; clear HO_23; clear HB; have HO_22 := n0_; have HO_23 := n1_; have HB := n2_; clear n0_ n1_ n2_; (try clear hb); (try clear hb2); (try clear hk); (try clear hi)))
                        go_ret
                        exact ⟨by first | rfl | (simp [errW_none, errW_some] <;> rfl) | (simp only [← hji4, ← hji6]; first | rfl | (simp [errW_none, errW_some] <;> rfl)) | (simp [*, errW_none, errW_some] <;> rfl), by repeat (first | (with_reducible first | exact HB.out | apply below_alloc | apply pw_below_drewN | apply below_drew1) | exact HB.out)⟩
  · rw [if_neg c5] at H
    exact absurd H (by simp)

/-- THE ONE PURE STATEMENT of silkwormlaw01_LogicSums: yours. -/
def silkwormlaw01_LogicSums.Pure : Prop := ∀ (a0 : Int) (a1 : Int) (a2 : Int), (Lit.int .i64 a0).wf = true → (Lit.int .i64 a1).wf = true → (Lit.int .i64 a2).wf = true → ∃ k, silkwormlaw01_LogicSums.f k a0 a1 a2 = some true
theorem silkwormlaw01_LogicSums.walk (P : silkwormlaw01_LogicSums.Pure) (a0 : Int) (a1 : Int) (a2 : Int) (w : World) (w0 : (Lit.int .i64 a0).wf = true) (w1 : (Lit.int .i64 a1).wf = true) (w2 : (Lit.int .i64 a2).wf = true) :
    Calls Tryd.prog 15 #[.int .i64 a0, .int .i64 a1, .int .i64 a2] w fun e w' => e = .returned (.bool true) ∧ Below w.heap.size w w' := by
  obtain ⟨k, h⟩ := P a0 a1 a2 w0 w1 w2
  refine (silkwormlaw01_LogicSums.calls k a0 a1 a2 true w h).mono ?_
  rintro e w' ⟨rfl, hd⟩
  exact ⟨rfl, hd⟩

end Go.Proofs.YtblhfodkbjdeoaaDoor.PLg
