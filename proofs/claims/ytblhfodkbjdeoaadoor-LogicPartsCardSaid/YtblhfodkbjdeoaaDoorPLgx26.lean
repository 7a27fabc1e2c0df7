-- By this session's program prinj.py, out of the translation and contracts proved by hand. Not trusted: Lean checks it.
import Derived.Test.YtblhfodkbjdeoaaDoorPLgx0
import Derived.Test.YtblhfodkbjdeoaaDoorPLgx1
import Derived.Test.YtblhfodkbjdeoaaDoorPLgx5
import Derived.Test.YtblhfodkbjdeoaaDoorPLgx6
import Derived.Test.YtblhfodkbjdeoaaDoorPLgx13
import Derived.Test.YtblhfodkbjdeoaaDoorPLgx22
import Derived.Test.YtblhfodkbjdeoaaDoorPLgx24
namespace Go.Proofs.YtblhfodkbjdeoaaDoor.PLg
open Go.RowKit Go.Proofs.YtblhfodkbjdeoaaDoorW.PrintWords Go.Proofs.YtblhfodkbjdeoaaDoorW.PrintLast Go.Proofs.YtblhfodkbjdeoaaDoorW.PrintMore
attribute [local go_sem] max2_int min2_int max_two min_two max_three min_three max_four min_four   -- for this text's walks alone
attribute [local go_sem] str_leq str_gtr str_geq
set_option linter.unusedVariables false
set_option linter.unusedSimpArgs false

/-! ### silkwormlaw01_LogicParts: function 14 -/
mutual
def silkwormlaw01_LogicParts.j0 : Nat → ByteArray → ByteArray → ByteArray → Int → ByteArray → Int → ByteArray → Int → Int → Int → Int → Int → Bool → Bool → Int → Int → Int → Option (Bool)
  | 0, _, _, _, _, _, _, _, _, _, _, _, _, _, _, _, _, _ => none
  | k + 1, x0, x1, x7, x8, x9, x10, x11, x12, x13, x14, x15, x16, x17, x65, x497000, x497001, x497002 => if x65 = true then (some false) else (if x497000 < 1 then (silkwormlaw01_LogicParts.j1 k x0 x1 x7 x8 x9 x10 x11 x12 x13 x14 x15 x16 x17 true x497000 x497001 x497002) else (silkwormlaw01_LogicParts.j1 k x0 x1 x7 x8 x9 x10 x11 x12 x13 x14 x15 x16 x17 (decide (x497000 > 256)) x497000 x497001 x497002))
def silkwormlaw01_LogicParts.j2 : Nat → ByteArray → ByteArray → ByteArray → Int → ByteArray → Int → Int → Int → Int → Int → Bool → Int → Int → Int → Option (Bool)
  | 0, _, _, _, _, _, _, _, _, _, _, _, _, _, _ => none
  | k + 1, x0, x1, x9, x10, x11, x12, x13, x14, x15, x16, x17, x497000, x497001, x497002 => if x17 = true then (if x497002 < 0 then (silkwormlaw01_LogicParts.j3 k x0 x1 x9 x10 x11 x12 x13 x14 x15 x16 true x497000 x497001 x497002) else (if x497001 < x497002 then (silkwormlaw01_LogicParts.j3 k x0 x1 x9 x10 x11 x12 x13 x14 x15 x16 true x497000 x497001 x497002) else (silkwormlaw01_LogicParts.j3 k x0 x1 x9 x10 x11 x12 x13 x14 x15 x16 (decide (x497001 ≥ (x0.size : Int))) x497000 x497001 x497002))) else (if x9.toList = ([] : List UInt8) then (if x10 = 10 then (if x11.toList = ([] : List UInt8) then (if x12 = 10 then (if x13 = 0 then (if x14 = 10 then (if x15 = 0 then (if x16 = 10 then ((silkwormlaw01_awake.f k).bind fun t511 => (some t511)) else (some false)) else (some false)) else (some false)) else (some false)) else (some false)) else (some false)) else (some false)) else (some false))
def silkwormlaw01_LogicParts.j3 : Nat → ByteArray → ByteArray → ByteArray → Int → ByteArray → Int → Int → Int → Int → Int → Bool → Int → Int → Int → Option (Bool)
  | 0, _, _, _, _, _, _, _, _, _, _, _, _, _, _ => none
  | k + 1, x0, x1, x9, x10, x11, x12, x13, x14, x15, x16, x152, x497000, x497001, x497002 => if x152 = true then (if x9.toList = ([] : List UInt8) then (if x10 = 1 then (silkwormlaw01_LogicParts.j4 k x0 x1 x11 x12 x13 x14 x15 x16) else (some false)) else (some false)) else (if 0 ≤ (wrap64 ((wrap64 ((x0.size : Int) - 1)) - x497001)) then (if (wrap64 ((wrap64 ((x0.size : Int) - 1)) - x497001)) ≤ (wrap64 ((x0.size : Int) - x497002)) then (if (wrap64 ((x0.size : Int) - x497002)) ≤ (x0.size : Int) then (if x9.toList = (x0.extract ((wrap64 ((wrap64 ((x0.size : Int) - 1)) - x497001)) : Int).toNat ((wrap64 ((x0.size : Int) - x497002)) : Int).toNat).toList then (if x10 = 0 then (silkwormlaw01_LogicParts.j4 k x0 x1 x11 x12 x13 x14 x15 x16) else (some false)) else (some false)) else (none)) else (none)) else (none))
def silkwormlaw01_LogicParts.j4 : Nat → ByteArray → ByteArray → ByteArray → Int → Int → Int → Int → Int → Option (Bool)
  | 0, _, _, _, _, _, _, _, _ => none
  | k + 1, x0, x1, x11, x12, x13, x14, x15, x16 => (silkwormref01_May.f k x1).bind fun t512 => (if t512 = true then ((silkwormref01_Bit.f k x0 x1).bind fun t513 => (if x11.toList = t513.toList then (if x12 = 0 then (silkwormlaw01_LogicParts.j5 k x0 x13 x14 x15 x16) else (some false)) else (some false))) else (if x11.toList = ([] : List UInt8) then (if x12 = 10 then (silkwormlaw01_LogicParts.j5 k x0 x13 x14 x15 x16) else (some false)) else (some false)))
def silkwormlaw01_LogicParts.j5 : Nat → ByteArray → Int → Int → Int → Int → Option (Bool)
  | 0, _, _, _, _, _ => none
  | k + 1, x0, x13, x14, x15, x16 => (silkwormref01_Known.f k x0).bind fun t514 => (if t514 = true then ((silkwormref01_Number.f k x0).bind fun t515 => (if t515 < 0 then (if x13 = 0 then (silkwormlaw01_LogicParts.j6 k x0 x15 x16 (x14 != 61)) else (silkwormlaw01_LogicParts.j6 k x0 x15 x16 true)) else ((silkwormref01_Number.f k x0).bind fun t518 => (if x13 = t518 then (silkwormlaw01_LogicParts.j7 k x0 x15 x16 (x14 != 0)) else (silkwormlaw01_LogicParts.j7 k x0 x15 x16 true))))) else (if x13 = 0 then (silkwormlaw01_LogicParts.j8 k x0 x15 x16 (x14 != 60)) else (silkwormlaw01_LogicParts.j8 k x0 x15 x16 true)))
def silkwormlaw01_LogicParts.j6 : Nat → ByteArray → Int → Int → Bool → Option (Bool)
  | 0, _, _, _, _ => none
  | k + 1, x0, x15, x16, x215 => if x215 = true then (some false) else ((silkwormref01_Truth.f k x0).bind fun t516 => (if x15 = t516 then (if x16 = 0 then ((silkwormlaw01_awake.f k).bind fun t517 => (some t517)) else (some false)) else (some false)))
def silkwormlaw01_LogicParts.j7 : Nat → ByteArray → Int → Int → Bool → Option (Bool)
  | 0, _, _, _, _ => none
  | k + 1, x0, x15, x16, x216 => if x216 = true then (some false) else ((silkwormref01_Truth.f k x0).bind fun t519 => (if x15 = t519 then (if x16 = 0 then ((silkwormlaw01_awake.f k).bind fun t520 => (some t520)) else (some false)) else (some false)))
def silkwormlaw01_LogicParts.j8 : Nat → ByteArray → Int → Int → Bool → Option (Bool)
  | 0, _, _, _, _ => none
  | k + 1, x0, x15, x16, x205 => if x205 = true then (some false) else ((silkwormref01_Truth.f k x0).bind fun t521 => (if x15 = t521 then (if x16 = 0 then ((silkwormlaw01_awake.f k).bind fun t522 => (some t522)) else (some false)) else (some false)))
def silkwormlaw01_LogicParts.j1 : Nat → ByteArray → ByteArray → ByteArray → Int → ByteArray → Int → ByteArray → Int → Int → Int → Int → Int → Bool → Bool → Int → Int → Int → Option (Bool)
  | 0, _, _, _, _, _, _, _, _, _, _, _, _, _, _, _, _, _ => none
  | k + 1, x0, x1, x7, x8, x9, x10, x11, x12, x13, x14, x15, x16, x17, x66, x497000, x497001, x497002 => if x66 = true then (if x7.toList = ([] : List UInt8) then (if x8 = 1 then (silkwormlaw01_LogicParts.j2 k x0 x1 x9 x10 x11 x12 x13 x14 x15 x16 x17 x497000 x497001 x497002) else (some false)) else (some false)) else (if x17 = true then ((silkwormref01_Fit.f k x0 x497000).bind fun t510 => (if x7.toList = t510.toList then (if x8 = 0 then (silkwormlaw01_LogicParts.j2 k x0 x1 x9 x10 x11 x12 x13 x14 x15 x16 x17 x497000 x497001 x497002) else (some false)) else (some false))) else (if x7.toList = ([] : List UInt8) then (if x8 = 10 then (silkwormlaw01_LogicParts.j2 k x0 x1 x9 x10 x11 x12 x13 x14 x15 x16 x17 x497000 x497001 x497002) else (some false)) else (some false)))
end
def silkwormlaw01_LogicParts.f (k : Nat) (a0 : ByteArray) (a1 : ByteArray) (a2_0 : Int) (a2_1 : Int) (a2_2 : Int) : Option (Bool) := (logic_Fit.f k a0 a2_0).bind fun bt497 => ((logic_Part.f a0 a2_1 a2_2).bind fun bt499 => ((logic_Bit.f k a0 a1).bind fun bt501 => ((logic_Number.f k a0).bind fun bt503 => ((logic_Truth.f a0).bind fun bt505 => ((silkwormref01_May.f k a0).bind fun t507 => ((logic_Check.f a0).bind fun t508 => (if ((t508 == 0) != t507) = true then (silkwormlaw01_LogicParts.j0 k a0 a1 bt497.1 bt497.2 bt499.1 bt499.2 bt501.1 bt501.2 bt503.1 bt503.2 bt505.1 bt505.2 t507 true a2_0 a2_1 a2_2) else (if t507 = true then (silkwormlaw01_LogicParts.j0 k a0 a1 bt497.1 bt497.2 bt499.1 bt499.2 bt501.1 bt501.2 bt503.1 bt503.2 bt505.1 bt505.2 t507 false a2_0 a2_1 a2_2) else ((logic_Check.f a0).bind fun t509 => (silkwormlaw01_LogicParts.j0 k a0 a1 bt497.1 bt497.2 bt499.1 bt499.2 bt501.1 bt501.2 bt503.1 bt503.2 bt505.1 bt505.2 t507 (t509 != 10) a2_0 a2_1 a2_2))))))))))
theorem silkwormlaw01_LogicParts.mono_l : ∀ k, (∀ y0 y1 y2 y3 y4 y5 y6 y7 y8 y9 y10 y11 y12 y13 y14 y15 y16, LeO (silkwormlaw01_LogicParts.j0 k y0 y1 y2 y3 y4 y5 y6 y7 y8 y9 y10 y11 y12 y13 y14 y15 y16) (silkwormlaw01_LogicParts.j0 (k + 1) y0 y1 y2 y3 y4 y5 y6 y7 y8 y9 y10 y11 y12 y13 y14 y15 y16)) ∧ (∀ y0 y1 y2 y3 y4 y5 y6 y7 y8 y9 y10 y11 y12 y13, LeO (silkwormlaw01_LogicParts.j2 k y0 y1 y2 y3 y4 y5 y6 y7 y8 y9 y10 y11 y12 y13) (silkwormlaw01_LogicParts.j2 (k + 1) y0 y1 y2 y3 y4 y5 y6 y7 y8 y9 y10 y11 y12 y13)) ∧ (∀ y0 y1 y2 y3 y4 y5 y6 y7 y8 y9 y10 y11 y12 y13, LeO (silkwormlaw01_LogicParts.j3 k y0 y1 y2 y3 y4 y5 y6 y7 y8 y9 y10 y11 y12 y13) (silkwormlaw01_LogicParts.j3 (k + 1) y0 y1 y2 y3 y4 y5 y6 y7 y8 y9 y10 y11 y12 y13)) ∧ (∀ y0 y1 y2 y3 y4 y5 y6 y7, LeO (silkwormlaw01_LogicParts.j4 k y0 y1 y2 y3 y4 y5 y6 y7) (silkwormlaw01_LogicParts.j4 (k + 1) y0 y1 y2 y3 y4 y5 y6 y7)) ∧ (∀ y0 y1 y2 y3 y4, LeO (silkwormlaw01_LogicParts.j5 k y0 y1 y2 y3 y4) (silkwormlaw01_LogicParts.j5 (k + 1) y0 y1 y2 y3 y4)) ∧ (∀ y0 y1 y2 y3, LeO (silkwormlaw01_LogicParts.j6 k y0 y1 y2 y3) (silkwormlaw01_LogicParts.j6 (k + 1) y0 y1 y2 y3)) ∧ (∀ y0 y1 y2 y3, LeO (silkwormlaw01_LogicParts.j7 k y0 y1 y2 y3) (silkwormlaw01_LogicParts.j7 (k + 1) y0 y1 y2 y3)) ∧ (∀ y0 y1 y2 y3, LeO (silkwormlaw01_LogicParts.j8 k y0 y1 y2 y3) (silkwormlaw01_LogicParts.j8 (k + 1) y0 y1 y2 y3)) ∧ (∀ y0 y1 y2 y3 y4 y5 y6 y7 y8 y9 y10 y11 y12 y13 y14 y15 y16, LeO (silkwormlaw01_LogicParts.j1 k y0 y1 y2 y3 y4 y5 y6 y7 y8 y9 y10 y11 y12 y13 y14 y15 y16) (silkwormlaw01_LogicParts.j1 (k + 1) y0 y1 y2 y3 y4 y5 y6 y7 y8 y9 y10 y11 y12 y13 y14 y15 y16))
  | 0 => ⟨fun _ _ _ _ _ _ _ _ _ _ _ _ _ _ _ _ _ r h => by simp [silkwormlaw01_LogicParts.j0] at h, fun _ _ _ _ _ _ _ _ _ _ _ _ _ _ r h => by simp [silkwormlaw01_LogicParts.j2] at h, fun _ _ _ _ _ _ _ _ _ _ _ _ _ _ r h => by simp [silkwormlaw01_LogicParts.j3] at h, fun _ _ _ _ _ _ _ _ r h => by simp [silkwormlaw01_LogicParts.j4] at h, fun _ _ _ _ _ r h => by simp [silkwormlaw01_LogicParts.j5] at h, fun _ _ _ _ r h => by simp [silkwormlaw01_LogicParts.j6] at h, fun _ _ _ _ r h => by simp [silkwormlaw01_LogicParts.j7] at h, fun _ _ _ _ r h => by simp [silkwormlaw01_LogicParts.j8] at h, fun _ _ _ _ _ _ _ _ _ _ _ _ _ _ _ _ _ r h => by simp [silkwormlaw01_LogicParts.j1] at h⟩
  | k + 1 => by
    obtain ⟨ih0, ih1, ih2, ih3, ih4, ih5, ih6, ih7, ih8⟩ := silkwormlaw01_LogicParts.mono_l k
    refine ⟨?_, ?_, ?_, ?_, ?_, ?_, ?_, ?_, ?_⟩
    · intro y0 y1 y2 y3 y4 y5 y6 y7 y8 y9 y10 y11 y12 y13 y14 y15 y16
      unfold silkwormlaw01_LogicParts.j0
      repeat' first
      | (with_reducible exact ih0 _ _ _ _ _ _ _ _ _ _ _ _ _ _ _ _ _)
      | (with_reducible exact ih1 _ _ _ _ _ _ _ _ _ _ _ _ _ _)
      | (with_reducible exact ih2 _ _ _ _ _ _ _ _ _ _ _ _ _ _)
      | (with_reducible exact ih3 _ _ _ _ _ _ _ _)
      | (with_reducible exact ih4 _ _ _ _ _)
      | (with_reducible exact ih5 _ _ _ _)
      | (with_reducible exact ih6 _ _ _ _)
      | (with_reducible exact ih7 _ _ _ _)
      | (with_reducible exact ih8 _ _ _ _ _ _ _ _ _ _ _ _ _ _ _ _ _)
      | (with_reducible exact logic_Bit.mono _ _ _)
      | (with_reducible exact logic_Fit.mono _ _ _)
      | (with_reducible exact logic_Number.mono _ _)
      | (with_reducible exact silkwormlaw01_awake.mono _)
      | (with_reducible exact silkwormref01_Bit.mono _ _ _)
      | (with_reducible exact silkwormref01_Fit.mono _ _ _)
      | (with_reducible exact silkwormref01_Known.mono _ _)
      | (with_reducible exact silkwormref01_May.mono _ _)
      | (with_reducible exact silkwormref01_Number.mono _ _)
      | (with_reducible exact silkwormref01_Truth.mono _ _)
      | (with_reducible exact LeO.refl _)
      | (with_reducible exact LeO.none _)
      | (with_reducible refine LeO.ite ?_ ?_)
      | (with_reducible refine LeO.bind ?_ (fun _ => ?_))
      | exact ih0 _ _ _ _ _ _ _ _ _ _ _ _ _ _ _ _ _
      | exact ih1 _ _ _ _ _ _ _ _ _ _ _ _ _ _
      | exact ih2 _ _ _ _ _ _ _ _ _ _ _ _ _ _
      | exact ih3 _ _ _ _ _ _ _ _
      | exact ih4 _ _ _ _ _
      | exact ih5 _ _ _ _
      | exact ih6 _ _ _ _
      | exact ih7 _ _ _ _
      | exact ih8 _ _ _ _ _ _ _ _ _ _ _ _ _ _ _ _ _
      | exact logic_Bit.mono _ _ _
      | exact logic_Fit.mono _ _ _
      | exact logic_Number.mono _ _
      | exact silkwormlaw01_awake.mono _
      | exact silkwormref01_Bit.mono _ _ _
      | exact silkwormref01_Fit.mono _ _ _
      | exact silkwormref01_Known.mono _ _
      | exact silkwormref01_May.mono _ _
      | exact silkwormref01_Number.mono _ _
      | exact silkwormref01_Truth.mono _ _
      | exact LeO.none _
      | refine LeO.ite ?_ ?_
      | refine LeO.bind ?_ (fun _ => ?_)
    · intro y0 y1 y2 y3 y4 y5 y6 y7 y8 y9 y10 y11 y12 y13
      unfold silkwormlaw01_LogicParts.j2
      repeat' first
      | (with_reducible exact ih0 _ _ _ _ _ _ _ _ _ _ _ _ _ _ _ _ _)
      | (with_reducible exact ih1 _ _ _ _ _ _ _ _ _ _ _ _ _ _)
      | (with_reducible exact ih2 _ _ _ _ _ _ _ _ _ _ _ _ _ _)
      | (with_reducible exact ih3 _ _ _ _ _ _ _ _)
      | (with_reducible exact ih4 _ _ _ _ _)
      | (with_reducible exact ih5 _ _ _ _)
      | (with_reducible exact ih6 _ _ _ _)
      | (with_reducible exact ih7 _ _ _ _)
      | (with_reducible exact ih8 _ _ _ _ _ _ _ _ _ _ _ _ _ _ _ _ _)
      | (with_reducible exact logic_Bit.mono _ _ _)
      | (with_reducible exact logic_Fit.mono _ _ _)
      | (with_reducible exact logic_Number.mono _ _)
      | (with_reducible exact silkwormlaw01_awake.mono _)
      | (with_reducible exact silkwormref01_Bit.mono _ _ _)
      | (with_reducible exact silkwormref01_Fit.mono _ _ _)
      | (with_reducible exact silkwormref01_Known.mono _ _)
      | (with_reducible exact silkwormref01_May.mono _ _)
      | (with_reducible exact silkwormref01_Number.mono _ _)
      | (with_reducible exact silkwormref01_Truth.mono _ _)
      | (with_reducible exact LeO.refl _)
      | (with_reducible exact LeO.none _)
      | (with_reducible refine LeO.ite ?_ ?_)
      | (with_reducible refine LeO.bind ?_ (fun _ => ?_))
      | exact ih0 _ _ _ _ _ _ _ _ _ _ _ _ _ _ _ _ _
      | exact ih1 _ _ _ _ _ _ _ _ _ _ _ _ _ _
      | exact ih2 _ _ _ _ _ _ _ _ _ _ _ _ _ _
      | exact ih3 _ _ _ _ _ _ _ _
      | exact ih4 _ _ _ _ _
      | exact ih5 _ _ _ _
      | exact ih6 _ _ _ _
      | exact ih7 _ _ _ _
      | exact ih8 _ _ _ _ _ _ _ _ _ _ _ _ _ _ _ _ _
      | exact logic_Bit.mono _ _ _
      | exact logic_Fit.mono _ _ _
      | exact logic_Number.mono _ _
      | exact silkwormlaw01_awake.mono _
      | exact silkwormref01_Bit.mono _ _ _
      | exact silkwormref01_Fit.mono _ _ _
      | exact silkwormref01_Known.mono _ _
      | exact silkwormref01_May.mono _ _
      | exact silkwormref01_Number.mono _ _
      | exact silkwormref01_Truth.mono _ _
      | exact LeO.none _
      | refine LeO.ite ?_ ?_
      | refine LeO.bind ?_ (fun _ => ?_)
    · intro y0 y1 y2 y3 y4 y5 y6 y7 y8 y9 y10 y11 y12 y13
      unfold silkwormlaw01_LogicParts.j3
      repeat' first
      | (with_reducible exact ih0 _ _ _ _ _ _ _ _ _ _ _ _ _ _ _ _ _)
      | (with_reducible exact ih1 _ _ _ _ _ _ _ _ _ _ _ _ _ _)
      | (with_reducible exact ih2 _ _ _ _ _ _ _ _ _ _ _ _ _ _)
      | (with_reducible exact ih3 _ _ _ _ _ _ _ _)
      | (with_reducible exact ih4 _ _ _ _ _)
      | (with_reducible exact ih5 _ _ _ _)
      | (with_reducible exact ih6 _ _ _ _)
      | (with_reducible exact ih7 _ _ _ _)
      | (with_reducible exact ih8 _ _ _ _ _ _ _ _ _ _ _ _ _ _ _ _ _)
      | (with_reducible exact logic_Bit.mono _ _ _)
      | (with_reducible exact logic_Fit.mono _ _ _)
      | (with_reducible exact logic_Number.mono _ _)
      | (with_reducible exact silkwormlaw01_awake.mono _)
      | (with_reducible exact silkwormref01_Bit.mono _ _ _)
      | (with_reducible exact silkwormref01_Fit.mono _ _ _)
      | (with_reducible exact silkwormref01_Known.mono _ _)
      | (with_reducible exact silkwormref01_May.mono _ _)
      | (with_reducible exact silkwormref01_Number.mono _ _)
      | (with_reducible exact silkwormref01_Truth.mono _ _)
      | (with_reducible exact LeO.refl _)
      | (with_reducible exact LeO.none _)
      | (with_reducible refine LeO.ite ?_ ?_)
      | (with_reducible refine LeO.bind ?_ (fun _ => ?_))
      | exact ih0 _ _ _ _ _ _ _ _ _ _ _ _ _ _ _ _ _
      | exact ih1 _ _ _ _ _ _ _ _ _ _ _ _ _ _
      | exact ih2 _ _ _ _ _ _ _ _ _ _ _ _ _ _
      | exact ih3 _ _ _ _ _ _ _ _
      | exact ih4 _ _ _ _ _
      | exact ih5 _ _ _ _
      | exact ih6 _ _ _ _
      | exact ih7 _ _ _ _
      | exact ih8 _ _ _ _ _ _ _ _ _ _ _ _ _ _ _ _ _
      | exact logic_Bit.mono _ _ _
      | exact logic_Fit.mono _ _ _
      | exact logic_Number.mono _ _
      | exact silkwormlaw01_awake.mono _
      | exact silkwormref01_Bit.mono _ _ _
      | exact silkwormref01_Fit.mono _ _ _
      | exact silkwormref01_Known.mono _ _
      | exact silkwormref01_May.mono _ _
      | exact silkwormref01_Number.mono _ _
      | exact silkwormref01_Truth.mono _ _
      | exact LeO.none _
      | refine LeO.ite ?_ ?_
      | refine LeO.bind ?_ (fun _ => ?_)
    · intro y0 y1 y2 y3 y4 y5 y6 y7
      unfold silkwormlaw01_LogicParts.j4
      repeat' first
      | (with_reducible exact ih0 _ _ _ _ _ _ _ _ _ _ _ _ _ _ _ _ _)
      | (with_reducible exact ih1 _ _ _ _ _ _ _ _ _ _ _ _ _ _)
      | (with_reducible exact ih2 _ _ _ _ _ _ _ _ _ _ _ _ _ _)
      | (with_reducible exact ih3 _ _ _ _ _ _ _ _)
      | (with_reducible exact ih4 _ _ _ _ _)
      | (with_reducible exact ih5 _ _ _ _)
      | (with_reducible exact ih6 _ _ _ _)
      | (with_reducible exact ih7 _ _ _ _)
      | (with_reducible exact ih8 _ _ _ _ _ _ _ _ _ _ _ _ _ _ _ _ _)
      | (with_reducible exact logic_Bit.mono _ _ _)
      | (with_reducible exact logic_Fit.mono _ _ _)
      | (with_reducible exact logic_Number.mono _ _)
      | (with_reducible exact silkwormlaw01_awake.mono _)
      | (with_reducible exact silkwormref01_Bit.mono _ _ _)
      | (with_reducible exact silkwormref01_Fit.mono _ _ _)
      | (with_reducible exact silkwormref01_Known.mono _ _)
      | (with_reducible exact silkwormref01_May.mono _ _)
      | (with_reducible exact silkwormref01_Number.mono _ _)
      | (with_reducible exact silkwormref01_Truth.mono _ _)
      | (with_reducible exact LeO.refl _)
      | (with_reducible exact LeO.none _)
      | (with_reducible refine LeO.ite ?_ ?_)
      | (with_reducible refine LeO.bind ?_ (fun _ => ?_))
      | exact ih0 _ _ _ _ _ _ _ _ _ _ _ _ _ _ _ _ _
      | exact ih1 _ _ _ _ _ _ _ _ _ _ _ _ _ _
      | exact ih2 _ _ _ _ _ _ _ _ _ _ _ _ _ _
      | exact ih3 _ _ _ _ _ _ _ _
      | exact ih4 _ _ _ _ _
      | exact ih5 _ _ _ _
      | exact ih6 _ _ _ _
      | exact ih7 _ _ _ _
      | exact ih8 _ _ _ _ _ _ _ _ _ _ _ _ _ _ _ _ _
      | exact logic_Bit.mono _ _ _
      | exact logic_Fit.mono _ _ _
      | exact logic_Number.mono _ _
      | exact silkwormlaw01_awake.mono _
      | exact silkwormref01_Bit.mono _ _ _
      | exact silkwormref01_Fit.mono _ _ _
      | exact silkwormref01_Known.mono _ _
      | exact silkwormref01_May.mono _ _
      | exact silkwormref01_Number.mono _ _
      | exact silkwormref01_Truth.mono _ _
      | exact LeO.none _
      | refine LeO.ite ?_ ?_
      | refine LeO.bind ?_ (fun _ => ?_)
    · intro y0 y1 y2 y3 y4
      unfold silkwormlaw01_LogicParts.j5
      repeat' first
      | (with_reducible exact ih0 _ _ _ _ _ _ _ _ _ _ _ _ _ _ _ _ _)
      | (with_reducible exact ih1 _ _ _ _ _ _ _ _ _ _ _ _ _ _)
      | (with_reducible exact ih2 _ _ _ _ _ _ _ _ _ _ _ _ _ _)
      | (with_reducible exact ih3 _ _ _ _ _ _ _ _)
      | (with_reducible exact ih4 _ _ _ _ _)
      | (with_reducible exact ih5 _ _ _ _)
      | (with_reducible exact ih6 _ _ _ _)
      | (with_reducible exact ih7 _ _ _ _)
      | (with_reducible exact ih8 _ _ _ _ _ _ _ _ _ _ _ _ _ _ _ _ _)
      | (with_reducible exact logic_Bit.mono _ _ _)
      | (with_reducible exact logic_Fit.mono _ _ _)
      | (with_reducible exact logic_Number.mono _ _)
      | (with_reducible exact silkwormlaw01_awake.mono _)
      | (with_reducible exact silkwormref01_Bit.mono _ _ _)
      | (with_reducible exact silkwormref01_Fit.mono _ _ _)
      | (with_reducible exact silkwormref01_Known.mono _ _)
      | (with_reducible exact silkwormref01_May.mono _ _)
      | (with_reducible exact silkwormref01_Number.mono _ _)
      | (with_reducible exact silkwormref01_Truth.mono _ _)
      | (with_reducible exact LeO.refl _)
      | (with_reducible exact LeO.none _)
      | (with_reducible refine LeO.ite ?_ ?_)
      | (with_reducible refine LeO.bind ?_ (fun _ => ?_))
      | exact ih0 _ _ _ _ _ _ _ _ _ _ _ _ _ _ _ _ _
      | exact ih1 _ _ _ _ _ _ _ _ _ _ _ _ _ _
      | exact ih2 _ _ _ _ _ _ _ _ _ _ _ _ _ _
      | exact ih3 _ _ _ _ _ _ _ _
      | exact ih4 _ _ _ _ _
      | exact ih5 _ _ _ _
      | exact ih6 _ _ _ _
      | exact ih7 _ _ _ _
      | exact ih8 _ _ _ _ _ _ _ _ _ _ _ _ _ _ _ _ _
      | exact logic_Bit.mono _ _ _
      | exact logic_Fit.mono _ _ _
      | exact logic_Number.mono _ _
      | exact silkwormlaw01_awake.mono _
      | exact silkwormref01_Bit.mono _ _ _
      | exact silkwormref01_Fit.mono _ _ _
      | exact silkwormref01_Known.mono _ _
      | exact silkwormref01_May.mono _ _
      | exact silkwormref01_Number.mono _ _
      | exact silkwormref01_Truth.mono _ _
      | exact LeO.none _
      | refine LeO.ite ?_ ?_
      | refine LeO.bind ?_ (fun _ => ?_)
    · intro y0 y1 y2 y3
      unfold silkwormlaw01_LogicParts.j6
      repeat' first
      | (with_reducible exact ih0 _ _ _ _ _ _ _ _ _ _ _ _ _ _ _ _ _)
      | (with_reducible exact ih1 _ _ _ _ _ _ _ _ _ _ _ _ _ _)
      | (with_reducible exact ih2 _ _ _ _ _ _ _ _ _ _ _ _ _ _)
      | (with_reducible exact ih3 _ _ _ _ _ _ _ _)
      | (with_reducible exact ih4 _ _ _ _ _)
      | (with_reducible exact ih5 _ _ _ _)
      | (with_reducible exact ih6 _ _ _ _)
      | (with_reducible exact ih7 _ _ _ _)
      | (with_reducible exact ih8 _ _ _ _ _ _ _ _ _ _ _ _ _ _ _ _ _)
      | (with_reducible exact logic_Bit.mono _ _ _)
      | (with_reducible exact logic_Fit.mono _ _ _)
      | (with_reducible exact logic_Number.mono _ _)
      | (with_reducible exact silkwormlaw01_awake.mono _)
      | (with_reducible exact silkwormref01_Bit.mono _ _ _)
      | (with_reducible exact silkwormref01_Fit.mono _ _ _)
      | (with_reducible exact silkwormref01_Known.mono _ _)
      | (with_reducible exact silkwormref01_May.mono _ _)
      | (with_reducible exact silkwormref01_Number.mono _ _)
      | (with_reducible exact silkwormref01_Truth.mono _ _)
      | (with_reducible exact LeO.refl _)
      | (with_reducible exact LeO.none _)
      | (with_reducible refine LeO.ite ?_ ?_)
      | (with_reducible refine LeO.bind ?_ (fun _ => ?_))
      | exact ih0 _ _ _ _ _ _ _ _ _ _ _ _ _ _ _ _ _
      | exact ih1 _ _ _ _ _ _ _ _ _ _ _ _ _ _
      | exact ih2 _ _ _ _ _ _ _ _ _ _ _ _ _ _
      | exact ih3 _ _ _ _ _ _ _ _
      | exact ih4 _ _ _ _ _
      | exact ih5 _ _ _ _
      | exact ih6 _ _ _ _
      | exact ih7 _ _ _ _
      | exact ih8 _ _ _ _ _ _ _ _ _ _ _ _ _ _ _ _ _
      | exact logic_Bit.mono _ _ _
      | exact logic_Fit.mono _ _ _
      | exact logic_Number.mono _ _
      | exact silkwormlaw01_awake.mono _
      | exact silkwormref01_Bit.mono _ _ _
      | exact silkwormref01_Fit.mono _ _ _
      | exact silkwormref01_Known.mono _ _
      | exact silkwormref01_May.mono _ _
      | exact silkwormref01_Number.mono _ _
      | exact silkwormref01_Truth.mono _ _
      | exact LeO.none _
      | refine LeO.ite ?_ ?_
      | refine LeO.bind ?_ (fun _ => ?_)
    · intro y0 y1 y2 y3
      unfold silkwormlaw01_LogicParts.j7
      repeat' first
      | (with_reducible exact ih0 _ _ _ _ _ _ _ _ _ _ _ _ _ _ _ _ _)
      | (with_reducible exact ih1 _ _ _ _ _ _ _ _ _ _ _ _ _ _)
      | (with_reducible exact ih2 _ _ _ _ _ _ _ _ _ _ _ _ _ _)
      | (with_reducible exact ih3 _ _ _ _ _ _ _ _)
      | (with_reducible exact ih4 _ _ _ _ _)
      | (with_reducible exact ih5 _ _ _ _)
      | (with_reducible exact ih6 _ _ _ _)
      | (with_reducible exact ih7 _ _ _ _)
      | (with_reducible exact ih8 _ _ _ _ _ _ _ _ _ _ _ _ _ _ _ _ _)
      | (with_reducible exact logic_Bit.mono _ _ _)
      | (with_reducible exact logic_Fit.mono _ _ _)
      | (with_reducible exact logic_Number.mono _ _)
      | (with_reducible exact silkwormlaw01_awake.mono _)
      | (with_reducible exact silkwormref01_Bit.mono _ _ _)
      | (with_reducible exact silkwormref01_Fit.mono _ _ _)
      | (with_reducible exact silkwormref01_Known.mono _ _)
      | (with_reducible exact silkwormref01_May.mono _ _)
      | (with_reducible exact silkwormref01_Number.mono _ _)
      | (with_reducible exact silkwormref01_Truth.mono _ _)
      | (with_reducible exact LeO.refl _)
      | (with_reducible exact LeO.none _)
      | (with_reducible refine LeO.ite ?_ ?_)
      | (with_reducible refine LeO.bind ?_ (fun _ => ?_))
      | exact ih0 _ _ _ _ _ _ _ _ _ _ _ _ _ _ _ _ _
      | exact ih1 _ _ _ _ _ _ _ _ _ _ _ _ _ _
      | exact ih2 _ _ _ _ _ _ _ _ _ _ _ _ _ _
      | exact ih3 _ _ _ _ _ _ _ _
      | exact ih4 _ _ _ _ _
      | exact ih5 _ _ _ _
      | exact ih6 _ _ _ _
      | exact ih7 _ _ _ _
      | exact ih8 _ _ _ _ _ _ _ _ _ _ _ _ _ _ _ _ _
      | exact logic_Bit.mono _ _ _
      | exact logic_Fit.mono _ _ _
      | exact logic_Number.mono _ _
      | exact silkwormlaw01_awake.mono _
      | exact silkwormref01_Bit.mono _ _ _
      | exact silkwormref01_Fit.mono _ _ _
      | exact silkwormref01_Known.mono _ _
      | exact silkwormref01_May.mono _ _
      | exact silkwormref01_Number.mono _ _
      | exact silkwormref01_Truth.mono _ _
      | exact LeO.none _
      | refine LeO.ite ?_ ?_
      | refine LeO.bind ?_ (fun _ => ?_)
    · intro y0 y1 y2 y3
      unfold silkwormlaw01_LogicParts.j8
      repeat' first
      | (with_reducible exact ih0 _ _ _ _ _ _ _ _ _ _ _ _ _ _ _ _ _)
      | (with_reducible exact ih1 _ _ _ _ _ _ _ _ _ _ _ _ _ _)
      | (with_reducible exact ih2 _ _ _ _ _ _ _ _ _ _ _ _ _ _)
      | (with_reducible exact ih3 _ _ _ _ _ _ _ _)
      | (with_reducible exact ih4 _ _ _ _ _)
      | (with_reducible exact ih5 _ _ _ _)
      | (with_reducible exact ih6 _ _ _ _)
      | (with_reducible exact ih7 _ _ _ _)
      | (with_reducible exact ih8 _ _ _ _ _ _ _ _ _ _ _ _ _ _ _ _ _)
      | (with_reducible exact logic_Bit.mono _ _ _)
      | (with_reducible exact logic_Fit.mono _ _ _)
      | (with_reducible exact logic_Number.mono _ _)
      | (with_reducible exact silkwormlaw01_awake.mono _)
      | (with_reducible exact silkwormref01_Bit.mono _ _ _)
      | (with_reducible exact silkwormref01_Fit.mono _ _ _)
      | (with_reducible exact silkwormref01_Known.mono _ _)
      | (with_reducible exact silkwormref01_May.mono _ _)
      | (with_reducible exact silkwormref01_Number.mono _ _)
      | (with_reducible exact silkwormref01_Truth.mono _ _)
      | (with_reducible exact LeO.refl _)
      | (with_reducible exact LeO.none _)
      | (with_reducible refine LeO.ite ?_ ?_)
      | (with_reducible refine LeO.bind ?_ (fun _ => ?_))
      | exact ih0 _ _ _ _ _ _ _ _ _ _ _ _ _ _ _ _ _
      | exact ih1 _ _ _ _ _ _ _ _ _ _ _ _ _ _
      | exact ih2 _ _ _ _ _ _ _ _ _ _ _ _ _ _
      | exact ih3 _ _ _ _ _ _ _ _
      | exact ih4 _ _ _ _ _
      | exact ih5 _ _ _ _
      | exact ih6 _ _ _ _
      | exact ih7 _ _ _ _
      | exact ih8 _ _ _ _ _ _ _ _ _ _ _ _ _ _ _ _ _
      | exact logic_Bit.mono _ _ _
      | exact logic_Fit.mono _ _ _
      | exact logic_Number.mono _ _
      | exact silkwormlaw01_awake.mono _
      | exact silkwormref01_Bit.mono _ _ _
      | exact silkwormref01_Fit.mono _ _ _
      | exact silkwormref01_Known.mono _ _
      | exact silkwormref01_May.mono _ _
      | exact silkwormref01_Number.mono _ _
      | exact silkwormref01_Truth.mono _ _
      | exact LeO.none _
      | refine LeO.ite ?_ ?_
      | refine LeO.bind ?_ (fun _ => ?_)
    · intro y0 y1 y2 y3 y4 y5 y6 y7 y8 y9 y10 y11 y12 y13 y14 y15 y16
      unfold silkwormlaw01_LogicParts.j1
      repeat' first
      | (with_reducible exact ih0 _ _ _ _ _ _ _ _ _ _ _ _ _ _ _ _ _)
      | (with_reducible exact ih1 _ _ _ _ _ _ _ _ _ _ _ _ _ _)
      | (with_reducible exact ih2 _ _ _ _ _ _ _ _ _ _ _ _ _ _)
      | (with_reducible exact ih3 _ _ _ _ _ _ _ _)
      | (with_reducible exact ih4 _ _ _ _ _)
      | (with_reducible exact ih5 _ _ _ _)
      | (with_reducible exact ih6 _ _ _ _)
      | (with_reducible exact ih7 _ _ _ _)
      | (with_reducible exact ih8 _ _ _ _ _ _ _ _ _ _ _ _ _ _ _ _ _)
      | (with_reducible exact logic_Bit.mono _ _ _)
      | (with_reducible exact logic_Fit.mono _ _ _)
      | (with_reducible exact logic_Number.mono _ _)
      | (with_reducible exact silkwormlaw01_awake.mono _)
      | (with_reducible exact silkwormref01_Bit.mono _ _ _)
      | (with_reducible exact silkwormref01_Fit.mono _ _ _)
      | (with_reducible exact silkwormref01_Known.mono _ _)
      | (with_reducible exact silkwormref01_May.mono _ _)
      | (with_reducible exact silkwormref01_Number.mono _ _)
      | (with_reducible exact silkwormref01_Truth.mono _ _)
      | (with_reducible exact LeO.refl _)
      | (with_reducible exact LeO.none _)
      | (with_reducible refine LeO.ite ?_ ?_)
      | (with_reducible refine LeO.bind ?_ (fun _ => ?_))
      | exact ih0 _ _ _ _ _ _ _ _ _ _ _ _ _ _ _ _ _
      | exact ih1 _ _ _ _ _ _ _ _ _ _ _ _ _ _
      | exact ih2 _ _ _ _ _ _ _ _ _ _ _ _ _ _
      | exact ih3 _ _ _ _ _ _ _ _
      | exact ih4 _ _ _ _ _
      | exact ih5 _ _ _ _
      | exact ih6 _ _ _ _
      | exact ih7 _ _ _ _
      | exact ih8 _ _ _ _ _ _ _ _ _ _ _ _ _ _ _ _ _
      | exact logic_Bit.mono _ _ _
      | exact logic_Fit.mono _ _ _
      | exact logic_Number.mono _ _
      | exact silkwormlaw01_awake.mono _
      | exact silkwormref01_Bit.mono _ _ _
      | exact silkwormref01_Fit.mono _ _ _
      | exact silkwormref01_Known.mono _ _
      | exact silkwormref01_May.mono _ _
      | exact silkwormref01_Number.mono _ _
      | exact silkwormref01_Truth.mono _ _
      | exact LeO.none _
      | refine LeO.ite ?_ ?_
      | refine LeO.bind ?_ (fun _ => ?_)
theorem silkwormlaw01_LogicParts.mono : ∀ a0 a1 a2 a3 a4 k, LeO (silkwormlaw01_LogicParts.f k a0 a1 a2 a3 a4) (silkwormlaw01_LogicParts.f (k + 1) a0 a1 a2 a3 a4) := by
  intro a0 a1 a2 a3 a4 k
  obtain ⟨ih0, ih1, ih2, ih3, ih4, ih5, ih6, ih7, ih8⟩ := silkwormlaw01_LogicParts.mono_l k
  unfold silkwormlaw01_LogicParts.f
  repeat' first
      | (with_reducible exact ih0 _ _ _ _ _ _ _ _ _ _ _ _ _ _ _ _ _)
      | (with_reducible exact ih1 _ _ _ _ _ _ _ _ _ _ _ _ _ _)
      | (with_reducible exact ih2 _ _ _ _ _ _ _ _ _ _ _ _ _ _)
      | (with_reducible exact ih3 _ _ _ _ _ _ _ _)
      | (with_reducible exact ih4 _ _ _ _ _)
      | (with_reducible exact ih5 _ _ _ _)
      | (with_reducible exact ih6 _ _ _ _)
      | (with_reducible exact ih7 _ _ _ _)
      | (with_reducible exact ih8 _ _ _ _ _ _ _ _ _ _ _ _ _ _ _ _ _)
      | (with_reducible exact logic_Bit.mono _ _ _)
      | (with_reducible exact logic_Fit.mono _ _ _)
      | (with_reducible exact logic_Number.mono _ _)
      | (with_reducible exact silkwormlaw01_awake.mono _)
      | (with_reducible exact silkwormref01_Bit.mono _ _ _)
      | (with_reducible exact silkwormref01_Fit.mono _ _ _)
      | (with_reducible exact silkwormref01_Known.mono _ _)
      | (with_reducible exact silkwormref01_May.mono _ _)
      | (with_reducible exact silkwormref01_Number.mono _ _)
      | (with_reducible exact silkwormref01_Truth.mono _ _)
      | (with_reducible exact LeO.refl _)
      | (with_reducible exact LeO.none _)
      | (with_reducible refine LeO.ite ?_ ?_)
      | (with_reducible refine LeO.bind ?_ (fun _ => ?_))
      | exact ih0 _ _ _ _ _ _ _ _ _ _ _ _ _ _ _ _ _
      | exact ih1 _ _ _ _ _ _ _ _ _ _ _ _ _ _
      | exact ih2 _ _ _ _ _ _ _ _ _ _ _ _ _ _
      | exact ih3 _ _ _ _ _ _ _ _
      | exact ih4 _ _ _ _ _
      | exact ih5 _ _ _ _
      | exact ih6 _ _ _ _
      | exact ih7 _ _ _ _
      | exact ih8 _ _ _ _ _ _ _ _ _ _ _ _ _ _ _ _ _
      | exact logic_Bit.mono _ _ _
      | exact logic_Fit.mono _ _ _
      | exact logic_Number.mono _ _
      | exact silkwormlaw01_awake.mono _
      | exact silkwormref01_Bit.mono _ _ _
      | exact silkwormref01_Fit.mono _ _ _
      | exact silkwormref01_Known.mono _ _
      | exact silkwormref01_May.mono _ _
      | exact silkwormref01_Number.mono _ _
      | exact silkwormref01_Truth.mono _ _
      | exact LeO.none _
      | refine LeO.ite ?_ ?_
      | refine LeO.bind ?_ (fun _ => ?_)
set_option maxHeartbeats 8000000 in
set_option maxRecDepth 100000 in
theorem silkwormlaw01_LogicParts.calls (k : Nat) (a0 : ByteArray) (a1 : ByteArray) (a2_0 : Int) (a2_1 : Int) (a2_2 : Int) (r : Bool) (w : World) (h : silkwormlaw01_LogicParts.f k a0 a1 a2_0 a2_1 a2_2 = some r) :
    Calls Tryd.prog 14 #[.string a0, .string a1, .agg #[.int .i64 a2_0, .int .i64 a2_1, .int .i64 a2_2]] w fun e w' => e = .returned (.bool r) ∧ Below w.heap.size w w' := by
  have hu52 := Tryd.underlying52
  have HB := Aside0.mk (Below.refl w.heap.size w)
  have H : ((logic_Fit.f k a0 a2_0).bind fun bt497 => ((logic_Part.f a0 a2_1 a2_2).bind fun bt499 => ((logic_Bit.f k a0 a1).bind fun bt501 => ((logic_Number.f k a0).bind fun bt503 => ((logic_Truth.f a0).bind fun bt505 => ((silkwormref01_May.f k a0).bind fun t507 => ((logic_Check.f a0).bind fun t508 => (if ((t508 == 0) != t507) = true then (silkwormlaw01_LogicParts.j0 k a0 a1 bt497.1 bt497.2 bt499.1 bt499.2 bt501.1 bt501.2 bt503.1 bt503.2 bt505.1 bt505.2 t507 true a2_0 a2_1 a2_2) else (if t507 = true then (silkwormlaw01_LogicParts.j0 k a0 a1 bt497.1 bt497.2 bt499.1 bt499.2 bt501.1 bt501.2 bt503.1 bt503.2 bt505.1 bt505.2 t507 false a2_0 a2_1 a2_2) else ((logic_Check.f a0).bind fun t509 => (silkwormlaw01_LogicParts.j0 k a0 a1 bt497.1 bt497.2 bt499.1 bt499.2 bt501.1 bt501.2 bt503.1 bt503.2 bt505.1 bt505.2 t507 (t509 != 10) a2_0 a2_1 a2_2))))))))))) = some r := h
  clear h
  replace H := Option.bind_eq_some_iff.mp H
  obtain ⟨⟨t497, t498⟩, A40, H⟩ := H
  replace H : ((logic_Part.f a0 a2_1 a2_2).bind fun bt499 => ((logic_Bit.f k a0 a1).bind fun bt501 => ((logic_Number.f k a0).bind fun bt503 => ((logic_Truth.f a0).bind fun bt505 => ((silkwormref01_May.f k a0).bind fun t507 => ((logic_Check.f a0).bind fun t508 => (if ((t508 == 0) != t507) = true then (silkwormlaw01_LogicParts.j0 k a0 a1 t497 t498 bt499.1 bt499.2 bt501.1 bt501.2 bt503.1 bt503.2 bt505.1 bt505.2 t507 true a2_0 a2_1 a2_2) else (if t507 = true then (silkwormlaw01_LogicParts.j0 k a0 a1 t497 t498 bt499.1 bt499.2 bt501.1 bt501.2 bt503.1 bt503.2 bt505.1 bt505.2 t507 false a2_0 a2_1 a2_2) else ((logic_Check.f a0).bind fun t509 => (silkwormlaw01_LogicParts.j0 k a0 a1 t497 t498 bt499.1 bt499.2 bt501.1 bt501.2 bt503.1 bt503.2 bt505.1 bt505.2 t507 (t509 != 10) a2_0 a2_1 a2_2)))))))))) = some r := H
  have A4 := Aside0.mk A40
  clear A40
  replace H := Option.bind_eq_some_iff.mp H
  obtain ⟨⟨t499, t500⟩, A50, H⟩ := H
  replace H : ((logic_Bit.f k a0 a1).bind fun bt501 => ((logic_Number.f k a0).bind fun bt503 => ((logic_Truth.f a0).bind fun bt505 => ((silkwormref01_May.f k a0).bind fun t507 => ((logic_Check.f a0).bind fun t508 => (if ((t508 == 0) != t507) = true then (silkwormlaw01_LogicParts.j0 k a0 a1 t497 t498 t499 t500 bt501.1 bt501.2 bt503.1 bt503.2 bt505.1 bt505.2 t507 true a2_0 a2_1 a2_2) else (if t507 = true then (silkwormlaw01_LogicParts.j0 k a0 a1 t497 t498 t499 t500 bt501.1 bt501.2 bt503.1 bt503.2 bt505.1 bt505.2 t507 false a2_0 a2_1 a2_2) else ((logic_Check.f a0).bind fun t509 => (silkwormlaw01_LogicParts.j0 k a0 a1 t497 t498 t499 t500 bt501.1 bt501.2 bt503.1 bt503.2 bt505.1 bt505.2 t507 (t509 != 10) a2_0 a2_1 a2_2))))))))) = some r := H
  have A5 := Aside0.mk A50
  clear A50
  replace H := Option.bind_eq_some_iff.mp H
  obtain ⟨⟨t501, t502⟩, A60, H⟩ := H
  replace H : ((logic_Number.f k a0).bind fun bt503 => ((logic_Truth.f a0).bind fun bt505 => ((silkwormref01_May.f k a0).bind fun t507 => ((logic_Check.f a0).bind fun t508 => (if ((t508 == 0) != t507) = true then (silkwormlaw01_LogicParts.j0 k a0 a1 t497 t498 t499 t500 t501 t502 bt503.1 bt503.2 bt505.1 bt505.2 t507 true a2_0 a2_1 a2_2) else (if t507 = true then (silkwormlaw01_LogicParts.j0 k a0 a1 t497 t498 t499 t500 t501 t502 bt503.1 bt503.2 bt505.1 bt505.2 t507 false a2_0 a2_1 a2_2) else ((logic_Check.f a0).bind fun t509 => (silkwormlaw01_LogicParts.j0 k a0 a1 t497 t498 t499 t500 t501 t502 bt503.1 bt503.2 bt505.1 bt505.2 t507 (t509 != 10) a2_0 a2_1 a2_2)))))))) = some r := H
  have A6 := Aside0.mk A60
  clear A60
  replace H := Option.bind_eq_some_iff.mp H
  obtain ⟨⟨t503, t504⟩, A70, H⟩ := H
  replace H : ((logic_Truth.f a0).bind fun bt505 => ((silkwormref01_May.f k a0).bind fun t507 => ((logic_Check.f a0).bind fun t508 => (if ((t508 == 0) != t507) = true then (silkwormlaw01_LogicParts.j0 k a0 a1 t497 t498 t499 t500 t501 t502 t503 t504 bt505.1 bt505.2 t507 true a2_0 a2_1 a2_2) else (if t507 = true then (silkwormlaw01_LogicParts.j0 k a0 a1 t497 t498 t499 t500 t501 t502 t503 t504 bt505.1 bt505.2 t507 false a2_0 a2_1 a2_2) else ((logic_Check.f a0).bind fun t509 => (silkwormlaw01_LogicParts.j0 k a0 a1 t497 t498 t499 t500 t501 t502 t503 t504 bt505.1 bt505.2 t507 (t509 != 10) a2_0 a2_1 a2_2))))))) = some r := H
  have A7 := Aside0.mk A70
  clear A70
  replace H := Option.bind_eq_some_iff.mp H
  obtain ⟨⟨t505, t506⟩, A80, H⟩ := H
  replace H : ((silkwormref01_May.f k a0).bind fun t507 => ((logic_Check.f a0).bind fun t508 => (if ((t508 == 0) != t507) = true then (silkwormlaw01_LogicParts.j0 k a0 a1 t497 t498 t499 t500 t501 t502 t503 t504 t505 t506 t507 true a2_0 a2_1 a2_2) else (if t507 = true then (silkwormlaw01_LogicParts.j0 k a0 a1 t497 t498 t499 t500 t501 t502 t503 t504 t505 t506 t507 false a2_0 a2_1 a2_2) else ((logic_Check.f a0).bind fun t509 => (silkwormlaw01_LogicParts.j0 k a0 a1 t497 t498 t499 t500 t501 t502 t503 t504 t505 t506 t507 (t509 != 10) a2_0 a2_1 a2_2)))))) = some r := H
  have A8 := Aside0.mk A80
  clear A80
  replace H := Option.bind_eq_some_iff.mp H
  obtain ⟨t507, A90, H⟩ := H
  replace H : ((logic_Check.f a0).bind fun t508 => (if ((t508 == 0) != t507) = true then (silkwormlaw01_LogicParts.j0 k a0 a1 t497 t498 t499 t500 t501 t502 t503 t504 t505 t506 t507 true a2_0 a2_1 a2_2) else (if t507 = true then (silkwormlaw01_LogicParts.j0 k a0 a1 t497 t498 t499 t500 t501 t502 t503 t504 t505 t506 t507 false a2_0 a2_1 a2_2) else ((logic_Check.f a0).bind fun t509 => (silkwormlaw01_LogicParts.j0 k a0 a1 t497 t498 t499 t500 t501 t502 t503 t504 t505 t506 t507 (t509 != 10) a2_0 a2_1 a2_2))))) = some r := H
  have A9 := Aside0.mk A90
  clear A90
  have HC10 := Aside0.mk H
  clear H
  go_enter Tryd.func14, Tryd.ntmps14
  go_upto_region 7 with (first | ((with_reducible refine gate_dst (N := 5) rfl ?_); (try (refine gate_guard (by rfl) ?_; dsimp only)); refine box_event ?hg (N := 5) ?hd (cs := #[.int .i64 a2_0, .int .i64 a2_1, .int .i64 a2_2]) (t := 52) ?hr ?_; (case hd => rfl); (case hg => rfl); (case hr => first | (go_simp; done) | (go_simp; rfl)); intro gb496 hg w11 hbox hb; have n0_ := Aside0.mk (below_step (by repeat (first | (with_reducible first | exact HB.out | apply below_alloc | apply pw_below_drewN | apply below_drew1) | exact HB.out)) hb); have n1_ := Aside0.mk (hbox); have n2_ := Aside0.mk ((by rw [hg]; exact (below_size (by repeat (first | (with_reducible first | exact HB.out | apply below_alloc | apply pw_below_drewN | apply below_drew1) | exact HB.out))) : w.heap.size ≤ gb496)); have n3_ := Aside0.mk ((by rw [hg]; exact (below_size (by repeat (first | (with_reducible first | exact HB.out | apply below_alloc | apply pw_below_drewN | apply below_drew1) | exact HB.out))) : w.heap.size ≤ gb496)); clear HB; have HB := n0_; have BK496 := n1_; have GW496 := n2_; have GE496 := n3_; clear n0_ n1_ n2_ n3_; clear hb hbox hg; have hcz12_0 : w11.cell? ⟨gb496, 0, none⟩ = some (.int .i64 a2_0) := (blk_cell BK496.out 0).trans rfl; have hcz12_1 : w11.cell? ⟨gb496, 1, none⟩ = some (.int .i64 a2_1) := (blk_cell BK496.out 1).trans rfl; have hcz12_2 : w11.cell? ⟨gb496, 2, none⟩ = some (.int .i64 a2_2) := (blk_cell BK496.out 2).trans rfl; have hfz12_0 := blk_frozen BK496.out 0; have hfz12_1 := blk_frozen BK496.out 1; have hfz12_2 := blk_frozen BK496.out 2) | ((with_reducible refine gate_callee (f := 34) rfl ?_); refine goesL_ (some 22) rfl rfl Tryd.func34 (by kernel_rfl) rfl #[.string a0, .int .i64 a2_0] rfl (by (try simp only [List.map_toArray, List.map_cons, List.map_nil]); first | done | rfl | (simp only [List.length_drop, List.length_take]; rfl)) ?_; (with_reducible refine (logic_Fit.calls k a0 a2_0 t497 t498 _ A4.out).mono ?_); rintro e w13 ⟨rfl, hb⟩; refine ⟨_, rfl, ?_⟩; have n0_ := Aside0.mk (blk_below (g := gb496) (o := .cells #[.int .i64 a2_0, .int .i64 a2_1, .int .i64 a2_2] 52 (0, 0)) (by (with_reducible repeat (first | refine blk_drewN ?_ _ | refine blk_drew ?_ | refine blk_alloc ?_ _)); exact BK496.out) hb); have n1_ := Aside0.mk (below_step (by repeat (first | (with_reducible first | exact HB.out | apply below_alloc | apply pw_below_drewN | apply below_drew1 | refine below_set ?_ GE496.out) | exact HB.out)) hb); clear BK496; clear HB; have BK496 := n0_; have HB := n1_; clear n0_ n1_; (try clear hb); (try clear hb2); (try clear hk); (try clear hi); have hcz14_0 : w13.cell? ⟨gb496, 0, none⟩ = some (.int .i64 a2_0) := (blk_cell BK496.out 0).trans rfl; have hcz14_1 : w13.cell? ⟨gb496, 1, none⟩ = some (.int .i64 a2_1) := (blk_cell BK496.out 1).trans rfl; have hcz14_2 : w13.cell? ⟨gb496, 2, none⟩ = some (.int .i64 a2_2) := (blk_cell BK496.out 2).trans rfl; have hfz14_0 := blk_frozen BK496.out 0; have hfz14_1 := blk_frozen BK496.out 1; have hfz14_2 := blk_frozen BK496.out 2) | ((with_reducible refine gate_callee (f := 32) rfl ?_); refine goesL_ (some 31) rfl rfl Tryd.func32 (by kernel_rfl) rfl #[.string a0, .int .i64 a2_1, .int .i64 a2_2] rfl (by (try simp only [List.map_toArray, List.map_cons, List.map_nil]); first | done | rfl | (simp only [List.length_drop, List.length_take]; rfl)) ?_; (with_reducible refine (logic_Part.calls a0 a2_1 a2_2 t499 t500 _ A5.out).mono ?_); rintro e w15 ⟨rfl, hb⟩; refine ⟨_, rfl, ?_⟩; have n0_ := Aside0.mk (blk_below (g := gb496) (o := .cells #[.int .i64 a2_0, .int .i64 a2_1, .int .i64 a2_2] 52 (0, 0)) (by (with_reducible repeat (first | refine blk_drewN ?_ _ | refine blk_drew ?_ | refine blk_alloc ?_ _)); exact BK496.out) hb); have n1_ := Aside0.mk (below_step (by repeat (first | (with_reducible first | exact HB.out | apply below_alloc | apply pw_below_drewN | apply below_drew1 | refine below_set ?_ GE496.out) | exact HB.out)) hb); clear BK496; clear HB; have BK496 := n0_; have HB := n1_; clear n0_ n1_; (try clear hb); (try clear hb2); (try clear hk); (try clear hi)) | ((with_reducible refine gate_callee (f := 33) rfl ?_); refine goesL_ (some 37) rfl rfl Tryd.func33 (by kernel_rfl) rfl #[.string a0, .string a1] rfl (by (try simp only [List.map_toArray, List.map_cons, List.map_nil]); first | done | rfl | (simp only [List.length_drop, List.length_take]; rfl)) ?_; (with_reducible refine (logic_Bit.calls k a0 a1 t501 t502 _ A6.out).mono ?_); rintro e w16 ⟨rfl, hb⟩; refine ⟨_, rfl, ?_⟩; have n0_ := Aside0.mk (blk_below (g := gb496) (o := .cells #[.int .i64 a2_0, .int .i64 a2_1, .int .i64 a2_2] 52 (0, 0)) (by (with_reducible repeat (first | refine blk_drewN ?_ _ | refine blk_drew ?_ | refine blk_alloc ?_ _)); exact BK496.out) hb); have n1_ := Aside0.mk (below_step (by repeat (first | (with_reducible first | exact HB.out | apply below_alloc | apply pw_below_drewN | apply below_drew1 | refine below_set ?_ GE496.out) | exact HB.out)) hb); clear BK496; clear HB; have BK496 := n0_; have HB := n1_; clear n0_ n1_; (try clear hb); (try clear hb2); (try clear hk); (try clear hi)) | ((with_reducible refine gate_callee (f := 27) rfl ?_); refine goesL_ (some 42) rfl rfl Tryd.func27 (by kernel_rfl) rfl #[.string a0] rfl (by (try simp only [List.map_toArray, List.map_cons, List.map_nil]); first | done | rfl | (simp only [List.length_drop, List.length_take]; rfl)) ?_; (with_reducible refine (logic_Number.calls k a0 t503 t504 _ A7.out).mono ?_); rintro e w17 ⟨rfl, hb⟩; refine ⟨_, rfl, ?_⟩; have n0_ := Aside0.mk (blk_below (g := gb496) (o := .cells #[.int .i64 a2_0, .int .i64 a2_1, .int .i64 a2_2] 52 (0, 0)) (by (with_reducible repeat (first | refine blk_drewN ?_ _ | refine blk_drew ?_ | refine blk_alloc ?_ _)); exact BK496.out) hb); have n1_ := Aside0.mk (below_step (by repeat (first | (with_reducible first | exact HB.out | apply below_alloc | apply pw_below_drewN | apply below_drew1 | refine below_set ?_ GE496.out) | exact HB.out)) hb); clear BK496; clear HB; have BK496 := n0_; have HB := n1_; clear n0_ n1_; (try clear hb); (try clear hb2); (try clear hk); (try clear hi)) | ((with_reducible refine gate_callee (f := 35) rfl ?_); refine goesL_ (some 47) rfl rfl Tryd.func35 (by kernel_rfl) rfl #[.string a0] rfl (by (try simp only [List.map_toArray, List.map_cons, List.map_nil]); first | done | rfl | (simp only [List.length_drop, List.length_take]; rfl)) ?_; (with_reducible refine (logic_Truth.calls a0 t505 t506 _ A8.out).mono ?_); rintro e w18 ⟨rfl, hb⟩; refine ⟨_, rfl, ?_⟩; have n0_ := Aside0.mk (blk_below (g := gb496) (o := .cells #[.int .i64 a2_0, .int .i64 a2_1, .int .i64 a2_2] 52 (0, 0)) (by (with_reducible repeat (first | refine blk_drewN ?_ _ | refine blk_drew ?_ | refine blk_alloc ?_ _)); exact BK496.out) hb); have n1_ := Aside0.mk (below_step (by repeat (first | (with_reducible first | exact HB.out | apply below_alloc | apply pw_below_drewN | apply below_drew1 | refine below_set ?_ GE496.out) | exact HB.out)) hb); clear BK496; clear HB; have BK496 := n0_; have HB := n1_; clear n0_ n1_; (try clear hb); (try clear hb2); (try clear hk); (try clear hi)) | ((with_reducible refine gate_callee (f := 17) rfl ?_); refine goesL_ (some 51) rfl rfl Tryd.func17 (by kernel_rfl) rfl #[.string a0] rfl (by (try simp only [List.map_toArray, List.map_cons, List.map_nil]); first | done | rfl | (simp only [List.length_drop, List.length_take]; rfl)) ?_; (with_reducible refine (silkwormref01_May.calls k a0 t507 _ A9.out).mono ?_); rintro e w' ⟨rfl, ⟨nd, rfl⟩⟩; refine ⟨_, rfl, ?_⟩))
  (try simp only [Act.put, List.setIfInBounds_toArray, List.set_cons_zero, List.set_cons_succ])
  go_cut [65] (fun v65 wc => ∃ (kq : Nat) (x65_9 : Bool), v65 = .bool x65_9 ∧ Aside0 (silkwormlaw01_LogicParts.j0 kq a0 a1 t497 t498 t499 t500 t501 t502 t503 t504 t505 t506 t507 x65_9 a2_0 a2_1 a2_2 = some r) ∧ Aside0 (kq ≤ k) ∧ Aside0 (wc.heap[gb496]? = some (.cells #[.int .i64 a2_0, .int .i64 a2_1, .int .i64 a2_2] 52 (0, 0))) ∧ Aside0 (Below w.heap.size w wc))
  case first => as_aux_lemma =>
    have H := HC10.out
    clear HC10
    replace H := Option.bind_eq_some_iff.mp H
    obtain ⟨t508, A190, H⟩ := H
    replace H : (if ((t508 == 0) != t507) = true then (silkwormlaw01_LogicParts.j0 k a0 a1 t497 t498 t499 t500 t501 t502 t503 t504 t505 t506 t507 true a2_0 a2_1 a2_2) else (if t507 = true then (silkwormlaw01_LogicParts.j0 k a0 a1 t497 t498 t499 t500 t501 t502 t503 t504 t505 t506 t507 false a2_0 a2_1 a2_2) else ((logic_Check.f a0).bind fun t509 => (silkwormlaw01_LogicParts.j0 k a0 a1 t497 t498 t499 t500 t501 t502 t503 t504 t505 t506 t507 (t509 != 10) a2_0 a2_1 a2_2)))) = some r := H
    have A19 := Aside0.mk A190
    clear A190
    by_cases c20 : ((t508 == 0) != t507) = true
    · rw [if_pos c20] at H
      have c20b0 : ((t508 == 0) != t507) = true := c20
      (try (have c20b1 : decide ((t508 == 0) = t507) = false := by simpa using c20))
      (try (have c20b2 : ((t508 == 0) == t507) = false := by simpa using c20))
      (try (have c20b3 : ¬ ((t508 == 0) = t507) := by simpa using c20))
      clear c20
      (first | rw [c20b0] | (simp only [i64_w, i32_w]; rw [c20b0]) | skip)
      have H' := Aside0.mk H
      clear H
      go_wp2_with (first | ((with_reducible refine gate_callee (f := 36) rfl ?_); refine goesL_ (some 53) rfl rfl Tryd.func36 (by kernel_rfl) rfl #[.string a0] rfl (by (try simp only [List.map_toArray, List.map_cons, List.map_nil]); first | done | rfl | (simp only [List.length_drop, List.length_take]; rfl)) ?_; (with_reducible refine (logic_Check.calls a0 t508 _ A19.out).mono ?_); rintro e w21 ⟨rfl, hb⟩; refine ⟨_, rfl, ?_⟩; have n0_ := Aside0.mk (blk_below (g := gb496) (o := .cells #[.int .i64 a2_0, .int .i64 a2_1, .int .i64 a2_2] 52 (0, 0)) (by (with_reducible repeat (first | refine blk_drewN ?_ _ | refine blk_drew ?_ | refine blk_alloc ?_ _)); exact BK496.out) hb); have n1_ := Aside0.mk (below_step (by repeat (first | (with_reducible first | exact HB.out | apply below_alloc | apply pw_below_drewN | apply below_drew1 | refine below_set ?_ GE496.out) | exact HB.out)) hb); clear BK496; clear HB; have BK496 := n0_; have HB := n1_; clear n0_ n1_; (try clear hb); (try clear hb2); (try clear hk); (try clear hi)))
      go_meet
      case rel => exact ⟨_, (true), (by first | rfl | (simp; done) | (simp [*]; done)), H', ⟨by first | omega | exact Nat.le_refl _⟩, ⟨by (with_reducible repeat (first | refine blk_drewN ?_ _ | refine blk_drew ?_ | refine blk_alloc ?_ _)); exact BK496.out⟩, ⟨by repeat (first | (with_reducible first | exact HB.out | apply below_alloc | apply pw_below_drewN | apply below_drew1 | refine below_set ?_ GE496.out) | exact HB.out)⟩⟩
    · rw [if_neg c20] at H
      have c20b0 : ((t508 == 0) != t507) = false := by simpa using c20
      (try (have c20b1 : decide ((t508 == 0) = t507) = true := by simpa using c20))
      (try (have c20b2 : ((t508 == 0) == t507) = true := by simpa using c20))
      clear c20
      (first | rw [c20b0] | (simp only [i64_w, i32_w]; rw [c20b0]) | skip)
      by_cases c22 : t507 = true
      · subst c22
        have H1 : (silkwormlaw01_LogicParts.j0 k a0 a1 t497 t498 t499 t500 t501 t502 t503 t504 t505 t506 true false a2_0 a2_1 a2_2) = some r := by rw [if_pos rfl] at H; exact H
        clear H
        have H := H1
        clear H1
        have H' := Aside0.mk H
        clear H
        go_wp2_with (first | ((with_reducible refine gate_callee (f := 36) rfl ?_); refine goesL_ (some 53) rfl rfl Tryd.func36 (by kernel_rfl) rfl #[.string a0] rfl (by (try simp only [List.map_toArray, List.map_cons, List.map_nil]); first | done | rfl | (simp only [List.length_drop, List.length_take]; rfl)) ?_; (with_reducible refine (logic_Check.calls a0 t508 _ A19.out).mono ?_); rintro e w23 ⟨rfl, hb⟩; refine ⟨_, rfl, ?_⟩; have n0_ := Aside0.mk (blk_below (g := gb496) (o := .cells #[.int .i64 a2_0, .int .i64 a2_1, .int .i64 a2_2] 52 (0, 0)) (by (with_reducible repeat (first | refine blk_drewN ?_ _ | refine blk_drew ?_ | refine blk_alloc ?_ _)); exact BK496.out) hb); have n1_ := Aside0.mk (below_step (by repeat (first | (with_reducible first | exact HB.out | apply below_alloc | apply pw_below_drewN | apply below_drew1 | refine below_set ?_ GE496.out) | exact HB.out)) hb); clear BK496; clear HB; have BK496 := n0_; have HB := n1_; clear n0_ n1_; (try clear hb); (try clear hb2); (try clear hk); (try clear hi)))
        go_meet
        case rel => exact ⟨_, (false), (by first | rfl | (simp; done) | (simp [*]; done)), H', ⟨by first | omega | exact Nat.le_refl _⟩, ⟨by (with_reducible repeat (first | refine blk_drewN ?_ _ | refine blk_drew ?_ | refine blk_alloc ?_ _)); exact BK496.out⟩, ⟨by repeat (first | (with_reducible first | exact HB.out | apply below_alloc | apply pw_below_drewN | apply below_drew1 | refine below_set ?_ GE496.out) | exact HB.out)⟩⟩
      · replace c22 := Bool.eq_false_iff.mpr c22
        subst c22
        have H1 : ((logic_Check.f a0).bind fun t509 => (silkwormlaw01_LogicParts.j0 k a0 a1 t497 t498 t499 t500 t501 t502 t503 t504 t505 t506 false (t509 != 10) a2_0 a2_1 a2_2)) = some r := by rw [if_neg (show ¬ (false = true) by decide)] at H; exact H
        clear H
        have H := H1
        clear H1
        replace H := Option.bind_eq_some_iff.mp H
        obtain ⟨t509, A240, H⟩ := H
        replace H : (silkwormlaw01_LogicParts.j0 k a0 a1 t497 t498 t499 t500 t501 t502 t503 t504 t505 t506 false (t509 != 10) a2_0 a2_1 a2_2) = some r := H
        have A24 := Aside0.mk A240
        clear A240
        have H' := Aside0.mk H
        clear H
        go_wp2_with (first | ((with_reducible refine gate_callee (f := 36) rfl ?_); refine goesL_ (some 53) rfl rfl Tryd.func36 (by kernel_rfl) rfl #[.string a0] rfl (by (try simp only [List.map_toArray, List.map_cons, List.map_nil]); first | done | rfl | (simp only [List.length_drop, List.length_take]; rfl)) ?_; (with_reducible refine (logic_Check.calls a0 t508 _ A19.out).mono ?_); rintro e w25 ⟨rfl, hb⟩; refine ⟨_, rfl, ?_⟩; have n0_ := Aside0.mk (blk_below (g := gb496) (o := .cells #[.int .i64 a2_0, .int .i64 a2_1, .int .i64 a2_2] 52 (0, 0)) (by (with_reducible repeat (first | refine blk_drewN ?_ _ | refine blk_drew ?_ | refine blk_alloc ?_ _)); exact BK496.out) hb); have n1_ := Aside0.mk (below_step (by repeat (first | (with_reducible first | exact HB.out | apply below_alloc | apply pw_below_drewN | apply below_drew1 | refine below_set ?_ GE496.out) | exact HB.out)) hb); clear BK496; clear HB; have BK496 := n0_; have HB := n1_; clear n0_ n1_; (try clear hb); (try clear hb2); (try clear hk); (try clear hi)) | (go_at_call 36; (with_reducible refine (logic_Check.calls a0 t509 _ A24.out).mono ?_); rintro e w26 ⟨rfl, hb⟩; have n0_ := Aside0.mk (blk_below (g := gb496) (o := .cells #[.int .i64 a2_0, .int .i64 a2_1, .int .i64 a2_2] 52 (0, 0)) (by (with_reducible repeat (first | refine blk_drewN ?_ _ | refine blk_drew ?_ | refine blk_alloc ?_ _)); exact BK496.out) hb); have n1_ := Aside0.mk (below_step (by repeat (first | (with_reducible first | exact HB.out | apply below_alloc | apply pw_below_drewN | apply below_drew1 | refine below_set ?_ GE496.out) | exact HB.out)) hb); clear BK496; clear HB; have BK496 := n0_; have HB := n1_; clear n0_ n1_; (try clear hb); (try clear hb2); (try clear hk); (try clear hi)))
        go_meet
        case rel => exact ⟨_, ((t509 != 10)), (by first | rfl | (simp; done) | (simp [*]; done)), H', ⟨by first | omega | exact Nat.le_refl _⟩, ⟨by (with_reducible repeat (first | refine blk_drewN ?_ _ | refine blk_drew ?_ | refine blk_alloc ?_ _)); exact BK496.out⟩, ⟨by repeat (first | (with_reducible first | exact HB.out | apply below_alloc | apply pw_below_drewN | apply below_drew1 | refine below_set ?_ GE496.out) | exact HB.out)⟩⟩
  case rest => as_aux_lemma =>
    clear HC10
    try clear c1
    try clear c2
    try clear p2
    try clear c3
    try clear c14
    try clear c17
    try clear c20
    try clear c20b0
    try clear c20b1
    try clear c20b2
    try clear c22
    try clear hcz12_0
    try clear hcz12_1
    try clear hcz12_2
    try clear hcz14_0
    try clear hcz14_1
    try clear hcz14_2
    try clear hfz12_0
    try clear hfz12_1
    try clear hfz12_2
    try clear hfz14_0
    try clear hfz14_1
    try clear hfz14_2
    obtain ⟨kq, x65_9, rfl, HA, HJ9, BK496, HB⟩ := hcut
    cases kq with
    | zero => exact absurd HA.out (by simp [silkwormlaw01_LogicParts.j0])
    | succ kj9 =>
      have H := HA.out
      clear HA
      simp only [silkwormlaw01_LogicParts.j0] at H
      by_cases c27 : x65_9 = true
      · subst c27
        have H1 : (some false) = some r := by rw [if_pos rfl] at H; exact H
        clear H
        have H := H1
        clear H1
        obtain rfl := Option.some.inj H
        go_wp2
        go_ret
        exact ⟨by first | rfl | (simp [errW_none, errW_some] <;> rfl) | (simp [*, errW_none, errW_some] <;> rfl), by repeat (first | (with_reducible first | exact HB.out | apply below_alloc | apply pw_below_drewN | apply below_drew1 | refine below_set ?_ GE496.out) | exact HB.out)⟩
      · replace c27 := Bool.eq_false_iff.mpr c27
        subst c27
        have H1 : (if a2_0 < 1 then (silkwormlaw01_LogicParts.j1 kj9 a0 a1 t497 t498 t499 t500 t501 t502 t503 t504 t505 t506 t507 true a2_0 a2_1 a2_2) else (silkwormlaw01_LogicParts.j1 kj9 a0 a1 t497 t498 t499 t500 t501 t502 t503 t504 t505 t506 t507 (decide (a2_0 > 256)) a2_0 a2_1 a2_2)) = some r := by rw [if_neg (show ¬ (false = true) by decide)] at H; exact H
        clear H
        have H := H1
        clear H1
        have HC28 := Aside0.mk H
        clear H
        go_upto_block 0 with (fail)
        go_cut [] (fun wc => ∃ (kq : Nat), Aside0 (silkwormlaw01_LogicParts.j2 kq a0 a1 t499 t500 t501 t502 t503 t504 t505 t506 t507 a2_0 a2_1 a2_2 = some r) ∧ Aside0 (kq ≤ kj9) ∧ Aside0 (wc.heap[gb496]? = some (.cells #[.int .i64 a2_0, .int .i64 a2_1, .int .i64 a2_2] 52 (0, 0))) ∧ Aside0 (Below w.heap.size w wc))
        case first => as_aux_lemma =>
          have H := HC28.out
          clear HC28
          have HC29 := Aside0.mk H
          clear H
          go_upto_region 9 with (fail)
          go_cut [66] (fun v66 wc => ∃ (kq : Nat) (x66_28 : Bool), v66 = .bool x66_28 ∧ Aside0 (silkwormlaw01_LogicParts.j1 kq a0 a1 t497 t498 t499 t500 t501 t502 t503 t504 t505 t506 t507 x66_28 a2_0 a2_1 a2_2 = some r) ∧ Aside0 (kq ≤ kj9) ∧ Aside0 (wc.heap[gb496]? = some (.cells #[.int .i64 a2_0, .int .i64 a2_1, .int .i64 a2_2] 52 (0, 0))) ∧ Aside0 (Below w.heap.size w wc))
          case first => as_aux_lemma =>
            have H := HC29.out
            clear HC29
            by_cases c30 : a2_0 < 1
            · rw [if_pos c30] at H
              have c30b0 : decide (a2_0 < 1) = true := decide_eq_true c30
              clear c30
              (first | rw [c30b0] | (simp only [i64_w, i32_w]; rw [c30b0]) | skip)
              have H' := Aside0.mk H
              clear H
              have hcz31_0 : wc.cell? ⟨gb496, 0, none⟩ = some (.int .i64 a2_0) := (blk_cell BK496.out 0).trans rfl
              have hcz31_1 : wc.cell? ⟨gb496, 1, none⟩ = some (.int .i64 a2_1) := (blk_cell BK496.out 1).trans rfl
              have hcz31_2 : wc.cell? ⟨gb496, 2, none⟩ = some (.int .i64 a2_2) := (blk_cell BK496.out 2).trans rfl
              have hfz31_0 := blk_frozen BK496.out 0
              have hfz31_1 := blk_frozen BK496.out 1
              have hfz31_2 := blk_frozen BK496.out 2
              go_wp2
              go_meet
              case rel => exact ⟨_, (true), (by first | rfl | (simp; done) | (simp [*]; done)), H', ⟨by have := HJ9.out; first | omega | exact Nat.le_refl _⟩, ⟨by (with_reducible repeat (first | refine blk_drewN ?_ _ | refine blk_drew ?_ | refine blk_alloc ?_ _)); exact BK496.out⟩, ⟨by repeat (first | (with_reducible first | exact HB.out | apply below_alloc | apply pw_below_drewN | apply below_drew1 | refine below_set ?_ GE496.out) | exact HB.out)⟩⟩
            · rw [if_neg c30] at H
              have c30b0 : decide (a2_0 < 1) = false := decide_eq_false c30
              clear c30
              (first | rw [c30b0] | (simp only [i64_w, i32_w]; rw [c30b0]) | skip)
              have H' := Aside0.mk H
              clear H
              have hcz32_0 : wc.cell? ⟨gb496, 0, none⟩ = some (.int .i64 a2_0) := (blk_cell BK496.out 0).trans rfl
              have hcz32_1 : wc.cell? ⟨gb496, 1, none⟩ = some (.int .i64 a2_1) := (blk_cell BK496.out 1).trans rfl
              have hcz32_2 : wc.cell? ⟨gb496, 2, none⟩ = some (.int .i64 a2_2) := (blk_cell BK496.out 2).trans rfl
              have hfz32_0 := blk_frozen BK496.out 0
              have hfz32_1 := blk_frozen BK496.out 1
              have hfz32_2 := blk_frozen BK496.out 2
              go_wp2
              go_meet
              case rel => exact ⟨_, (decide (a2_0 > 256)), (by first | rfl | (simp; done) | (simp [*]; done)), H', ⟨by have := HJ9.out; first | omega | exact Nat.le_refl _⟩, ⟨by (with_reducible repeat (first | refine blk_drewN ?_ _ | refine blk_drew ?_ | refine blk_alloc ?_ _)); exact BK496.out⟩, ⟨by repeat (first | (with_reducible first | exact HB.out | apply below_alloc | apply pw_below_drewN | apply below_drew1 | refine below_set ?_ GE496.out) | exact HB.out)⟩⟩
          case rest => as_aux_lemma =>
            clear HC29
            try clear c1
            try clear c2
            try clear p2
            try clear c3
            try clear c14
            try clear c17
            try clear c20
            try clear c20b0
            try clear c20b1
            try clear c20b2
            try clear c22
            try clear c27
            try clear c30
            try clear c30b0
            try clear c32
            try clear hcz12_0
            try clear hcz12_1
            try clear hcz12_2
            try clear hcz14_0
            try clear hcz14_1
            try clear hcz14_2
            try clear hcz31_0
            try clear hcz31_1
            try clear hcz31_2
            try clear hcz32_0
            try clear hcz32_1
            try clear hcz32_2
            try clear hfz12_0
            try clear hfz12_1
            try clear hfz12_2
            try clear hfz14_0
            try clear hfz14_1
            try clear hfz14_2
            try clear hfz31_0
            try clear hfz31_1
            try clear hfz31_2
            try clear hfz32_0
            try clear hfz32_1
            try clear hfz32_2
            try clear p2
            obtain ⟨kq, x66_28, rfl, HA, HJ28, BK496, HB⟩ := hcut
            cases kq with
            | zero => exact absurd HA.out (by simp [silkwormlaw01_LogicParts.j1])
            | succ kj28 =>
              have H := HA.out
              clear HA
              simp only [silkwormlaw01_LogicParts.j1] at H
              by_cases c33 : x66_28 = true
              · subst c33
                have H1 : (if t497.toList = ([] : List UInt8) then (if t498 = 1 then (silkwormlaw01_LogicParts.j2 kj28 a0 a1 t499 t500 t501 t502 t503 t504 t505 t506 t507 a2_0 a2_1 a2_2) else (some false)) else (some false)) = some r := by rw [if_pos rfl] at H; exact H
                clear H
                have H := H1
                clear H1
                by_cases c34 : t497.toList = ([] : List UInt8)
                · rw [if_pos c34] at H
                  have c34b0 : (t497.toList == ([] : List UInt8)) = true := beq_iff_eq.mpr c34
                  have c34b1 : (t497.toList != ([] : List UInt8)) = false := bne_eq_false_iff_eq.mpr c34
                  clear c34
                  by_cases c35 : t498 = 1
                  · rw [if_pos c35] at H
                    have c35b0 : (t498 == 1) = true := beq_iff_eq.mpr c35
                    have c35b1 : (t498 != 1) = false := bne_eq_false_iff_eq.mpr c35
                    clear c35
                    have H' := Aside0.mk H
                    clear H
                    go_wp2
                    go_meet
                    case rel => exact ⟨_, H', ⟨by have := HJ9.out; have := HJ28.out; first | omega | exact Nat.le_refl _⟩, ⟨by (with_reducible repeat (first | refine blk_drewN ?_ _ | refine blk_drew ?_ | refine blk_alloc ?_ _)); exact BK496.out⟩, ⟨by repeat (first | (with_reducible first | exact HB.out | apply below_alloc | apply pw_below_drewN | apply below_drew1 | refine below_set ?_ GE496.out) | exact HB.out)⟩⟩
                  · rw [if_neg c35] at H
                    have c35b0 : (t498 == 1) = false := beq_eq_false_iff_ne.mpr c35
                    have c35b1 : (t498 != 1) = true := bne_iff_ne.mpr c35
                    obtain rfl := Option.some.inj H
                    go_wp2
                    go_ret
                    exact ⟨by first | rfl | (simp [errW_none, errW_some] <;> rfl) | (simp [*, errW_none, errW_some] <;> rfl), by repeat (first | (with_reducible first | exact HB.out | apply below_alloc | apply pw_below_drewN | apply below_drew1 | refine below_set ?_ GE496.out) | exact HB.out)⟩
                · rw [if_neg c34] at H
                  have c34b0 : (t497.toList == ([] : List UInt8)) = false := beq_eq_false_iff_ne.mpr c34
                  have c34b1 : (t497.toList != ([] : List UInt8)) = true := bne_iff_ne.mpr c34
                  obtain rfl := Option.some.inj H
                  go_wp2
                  go_ret
                  exact ⟨by first | rfl | (simp [errW_none, errW_some] <;> rfl) | (simp [*, errW_none, errW_some] <;> rfl), by repeat (first | (with_reducible first | exact HB.out | apply below_alloc | apply pw_below_drewN | apply below_drew1 | refine below_set ?_ GE496.out) | exact HB.out)⟩
              · replace c33 := Bool.eq_false_iff.mpr c33
                subst c33
                have H1 : (if t507 = true then ((silkwormref01_Fit.f kj28 a0 a2_0).bind fun t510 => (if t497.toList = t510.toList then (if t498 = 0 then (silkwormlaw01_LogicParts.j2 kj28 a0 a1 t499 t500 t501 t502 t503 t504 t505 t506 t507 a2_0 a2_1 a2_2) else (some false)) else (some false))) else (if t497.toList = ([] : List UInt8) then (if t498 = 10 then (silkwormlaw01_LogicParts.j2 kj28 a0 a1 t499 t500 t501 t502 t503 t504 t505 t506 t507 a2_0 a2_1 a2_2) else (some false)) else (some false))) = some r := by rw [if_neg (show ¬ (false = true) by decide)] at H; exact H
                clear H
                have H := H1
                clear H1
                by_cases c36 : t507 = true
                · subst c36
                  have H1 : ((silkwormref01_Fit.f kj28 a0 a2_0).bind fun t510 => (if t497.toList = t510.toList then (if t498 = 0 then (silkwormlaw01_LogicParts.j2 kj28 a0 a1 t499 t500 t501 t502 t503 t504 t505 t506 true a2_0 a2_1 a2_2) else (some false)) else (some false))) = some r := by rw [if_pos rfl] at H; exact H
                  clear H
                  have H := H1
                  clear H1
                  replace H := Option.bind_eq_some_iff.mp H
                  obtain ⟨t510, A370, H⟩ := H
                  replace H : (if t497.toList = t510.toList then (if t498 = 0 then (silkwormlaw01_LogicParts.j2 kj28 a0 a1 t499 t500 t501 t502 t503 t504 t505 t506 true a2_0 a2_1 a2_2) else (some false)) else (some false)) = some r := H
                  have A37 := Aside0.mk A370
                  clear A370
                  by_cases c38 : t497.toList = t510.toList
                  · rw [if_pos c38] at H
                    have c38b0 : (t497.toList == t510.toList) = true := beq_iff_eq.mpr c38
                    have c38b1 : (t497.toList != t510.toList) = false := bne_eq_false_iff_eq.mpr c38
                    clear c38
                    by_cases c39 : t498 = 0
                    · rw [if_pos c39] at H
                      have c39b0 : (t498 == 0) = true := beq_iff_eq.mpr c39
                      have c39b1 : (t498 != 0) = false := bne_eq_false_iff_eq.mpr c39
                      clear c39
                      have H' := Aside0.mk H
                      clear H
                      have hcz40_0 : wc.cell? ⟨gb496, 0, none⟩ = some (.int .i64 a2_0) := (blk_cell BK496.out 0).trans rfl
                      have hcz40_1 : wc.cell? ⟨gb496, 1, none⟩ = some (.int .i64 a2_1) := (blk_cell BK496.out 1).trans rfl
                      have hcz40_2 : wc.cell? ⟨gb496, 2, none⟩ = some (.int .i64 a2_2) := (blk_cell BK496.out 2).trans rfl
                      have hfz40_0 := blk_frozen BK496.out 0
                      have hfz40_1 := blk_frozen BK496.out 1
                      have hfz40_2 := blk_frozen BK496.out 2
                      go_wp2_with (first | ((with_reducible refine gate_callee (f := 30) rfl ?_); refine goesL_ (some 95) rfl rfl Tryd.func30 (by kernel_rfl) rfl #[.string a0, .int .i64 a2_0] rfl (by (try simp only [List.map_toArray, List.map_cons, List.map_nil]); first | done | rfl | (simp only [List.length_drop, List.length_take]; rfl)) ?_; (with_reducible refine (silkwormref01_Fit.calls kj28 a0 a2_0 t510 _ A37.out).mono ?_); rintro e w41 ⟨rfl, hb⟩; refine ⟨_, rfl, ?_⟩; have n0_ := Aside0.mk (blk_below (g := gb496) (o := .cells #[.int .i64 a2_0, .int .i64 a2_1, .int .i64 a2_2] 52 (0, 0)) (by (with_reducible repeat (first | refine blk_drewN ?_ _ | refine blk_drew ?_ | refine blk_alloc ?_ _)); exact BK496.out) hb); have n1_ := Aside0.mk (below_step (by repeat (first | (with_reducible first | exact HB.out | apply below_alloc | apply pw_below_drewN | apply below_drew1 | refine below_set ?_ GE496.out) | exact HB.out)) hb); clear BK496; clear HB; have BK496 := n0_; have HB := n1_; clear n0_ n1_; (try clear hb); (try clear hb2); (try clear hk); (try clear hi)))
                      go_meet
                      case rel => exact ⟨_, H', ⟨by have := HJ9.out; have := HJ28.out; first | omega | exact Nat.le_refl _⟩, ⟨by (with_reducible repeat (first | refine blk_drewN ?_ _ | refine blk_drew ?_ | refine blk_alloc ?_ _)); exact BK496.out⟩, ⟨by repeat (first | (with_reducible first | exact HB.out | apply below_alloc | apply pw_below_drewN | apply below_drew1 | refine below_set ?_ GE496.out) | exact HB.out)⟩⟩
                    · rw [if_neg c39] at H
                      have c39b0 : (t498 == 0) = false := beq_eq_false_iff_ne.mpr c39
                      have c39b1 : (t498 != 0) = true := bne_iff_ne.mpr c39
                      obtain rfl := Option.some.inj H
                      have hcz42_0 : wc.cell? ⟨gb496, 0, none⟩ = some (.int .i64 a2_0) := (blk_cell BK496.out 0).trans rfl
                      have hcz42_1 : wc.cell? ⟨gb496, 1, none⟩ = some (.int .i64 a2_1) := (blk_cell BK496.out 1).trans rfl
                      have hcz42_2 : wc.cell? ⟨gb496, 2, none⟩ = some (.int .i64 a2_2) := (blk_cell BK496.out 2).trans rfl
                      have hfz42_0 := blk_frozen BK496.out 0
                      have hfz42_1 := blk_frozen BK496.out 1
                      have hfz42_2 := blk_frozen BK496.out 2
                      go_wp2_with (first | ((with_reducible refine gate_callee (f := 30) rfl ?_); refine goesL_ (some 95) rfl rfl Tryd.func30 (by kernel_rfl) rfl #[.string a0, .int .i64 a2_0] rfl (by (try simp only [List.map_toArray, List.map_cons, List.map_nil]); first | done | rfl | (simp only [List.length_drop, List.length_take]; rfl)) ?_; (with_reducible refine (silkwormref01_Fit.calls kj28 a0 a2_0 t510 _ A37.out).mono ?_); rintro e w43 ⟨rfl, hb⟩; refine ⟨_, rfl, ?_⟩; have n0_ := Aside0.mk (blk_below (g := gb496) (o := .cells #[.int .i64 a2_0, .int .i64 a2_1, .int .i64 a2_2] 52 (0, 0)) (by (with_reducible repeat (first | refine blk_drewN ?_ _ | refine blk_drew ?_ | refine blk_alloc ?_ _)); exact BK496.out) hb); have n1_ := Aside0.mk (below_step (by repeat (first | (with_reducible first | exact HB.out | apply below_alloc | apply pw_below_drewN | apply below_drew1 | refine below_set ?_ GE496.out) | exact HB.out)) hb); clear BK496; clear HB; have BK496 := n0_; have HB := n1_; clear n0_ n1_; (try clear hb); (try clear hb2); (try clear hk); (try clear hi)))
                      go_ret
                      exact ⟨by first | rfl | (simp [errW_none, errW_some] <;> rfl) | (simp [*, errW_none, errW_some] <;> rfl), by repeat (first | (with_reducible first | exact HB.out | apply below_alloc | apply pw_below_drewN | apply below_drew1 | refine below_set ?_ GE496.out) | exact HB.out)⟩
                  · rw [if_neg c38] at H
                    have c38b0 : (t497.toList == t510.toList) = false := beq_eq_false_iff_ne.mpr c38
                    have c38b1 : (t497.toList != t510.toList) = true := bne_iff_ne.mpr c38
                    obtain rfl := Option.some.inj H
                    have hcz44_0 : wc.cell? ⟨gb496, 0, none⟩ = some (.int .i64 a2_0) := (blk_cell BK496.out 0).trans rfl
                    have hcz44_1 : wc.cell? ⟨gb496, 1, none⟩ = some (.int .i64 a2_1) := (blk_cell BK496.out 1).trans rfl
                    have hcz44_2 : wc.cell? ⟨gb496, 2, none⟩ = some (.int .i64 a2_2) := (blk_cell BK496.out 2).trans rfl
                    have hfz44_0 := blk_frozen BK496.out 0
                    have hfz44_1 := blk_frozen BK496.out 1
                    have hfz44_2 := blk_frozen BK496.out 2
                    go_wp2_with (first | ((with_reducible refine gate_callee (f := 30) rfl ?_); refine goesL_ (some 95) rfl rfl Tryd.func30 (by kernel_rfl) rfl #[.string a0, .int .i64 a2_0] rfl (by (try simp only [List.map_toArray, List.map_cons, List.map_nil]); first | done | rfl | (simp only [List.length_drop, List.length_take]; rfl)) ?_; (with_reducible refine (silkwormref01_Fit.calls kj28 a0 a2_0 t510 _ A37.out).mono ?_); rintro e w45 ⟨rfl, hb⟩; refine ⟨_, rfl, ?_⟩; have n0_ := Aside0.mk (blk_below (g := gb496) (o := .cells #[.int .i64 a2_0, .int .i64 a2_1, .int .i64 a2_2] 52 (0, 0)) (by (with_reducible repeat (first | refine blk_drewN ?_ _ | refine blk_drew ?_ | refine blk_alloc ?_ _)); exact BK496.out) hb); have n1_ := Aside0.mk (below_step (by repeat (first | (with_reducible first | exact HB.out | apply below_alloc | apply pw_below_drewN | apply below_drew1 | refine below_set ?_ GE496.out) | exact HB.out)) hb); clear BK496; clear HB; have BK496 := n0_; have HB := n1_; clear n0_ n1_; (try clear hb); (try clear hb2); (try clear hk); (try clear hi)))
                    go_ret
                    exact ⟨by first | rfl | (simp [errW_none, errW_some] <;> rfl) | (simp [*, errW_none, errW_some] <;> rfl), by repeat (first | (with_reducible first | exact HB.out | apply below_alloc | apply pw_below_drewN | apply below_drew1 | refine below_set ?_ GE496.out) | exact HB.out)⟩
                · replace c36 := Bool.eq_false_iff.mpr c36
                  subst c36
                  have H1 : (if t497.toList = ([] : List UInt8) then (if t498 = 10 then (silkwormlaw01_LogicParts.j2 kj28 a0 a1 t499 t500 t501 t502 t503 t504 t505 t506 false a2_0 a2_1 a2_2) else (some false)) else (some false)) = some r := by rw [if_neg (show ¬ (false = true) by decide)] at H; exact H
                  clear H
                  have H := H1
                  clear H1
                  by_cases c46 : t497.toList = ([] : List UInt8)
                  · rw [if_pos c46] at H
                    have c46b0 : (t497.toList == ([] : List UInt8)) = true := beq_iff_eq.mpr c46
                    have c46b1 : (t497.toList != ([] : List UInt8)) = false := bne_eq_false_iff_eq.mpr c46
                    clear c46
                    by_cases c47 : t498 = 10
                    · rw [if_pos c47] at H
                      have c47b0 : (t498 == 10) = true := beq_iff_eq.mpr c47
                      have c47b1 : (t498 != 10) = false := bne_eq_false_iff_eq.mpr c47
                      clear c47
                      have H' := Aside0.mk H
                      clear H
                      go_wp2
                      go_meet
                      case rel => exact ⟨_, H', ⟨by have := HJ9.out; have := HJ28.out; first | omega | exact Nat.le_refl _⟩, ⟨by (with_reducible repeat (first | refine blk_drewN ?_ _ | refine blk_drew ?_ | refine blk_alloc ?_ _)); exact BK496.out⟩, ⟨by repeat (first | (with_reducible first | exact HB.out | apply below_alloc | apply pw_below_drewN | apply below_drew1 | refine below_set ?_ GE496.out) | exact HB.out)⟩⟩
                    · rw [if_neg c47] at H
                      have c47b0 : (t498 == 10) = false := beq_eq_false_iff_ne.mpr c47
                      have c47b1 : (t498 != 10) = true := bne_iff_ne.mpr c47
                      obtain rfl := Option.some.inj H
                      go_wp2
                      go_ret
                      exact ⟨by first | rfl | (simp [errW_none, errW_some] <;> rfl) | (simp [*, errW_none, errW_some] <;> rfl), by repeat (first | (with_reducible first | exact HB.out | apply below_alloc | apply pw_below_drewN | apply below_drew1 | refine below_set ?_ GE496.out) | exact HB.out)⟩
                  · rw [if_neg c46] at H
                    have c46b0 : (t497.toList == ([] : List UInt8)) = false := beq_eq_false_iff_ne.mpr c46
                    have c46b1 : (t497.toList != ([] : List UInt8)) = true := bne_iff_ne.mpr c46
                    obtain rfl := Option.some.inj H
                    go_wp2
                    go_ret
                    exact ⟨by first | rfl | (simp [errW_none, errW_some] <;> rfl) | (simp [*, errW_none, errW_some] <;> rfl), by repeat (first | (with_reducible first | exact HB.out | apply below_alloc | apply pw_below_drewN | apply below_drew1 | refine below_set ?_ GE496.out) | exact HB.out)⟩
        case rest => as_aux_lemma =>
          clear HC28
          try clear c1
          try clear c2
          try clear p2
          try clear c3
          try clear c4
          try clear c14
          try clear c17
          try clear c20
          try clear c20b0
          try clear c20b1
          try clear c20b2
          try clear c22
          try clear c27
          try clear c30
          try clear c30b0
          try clear c32
          try clear c33
          try clear c34
          try clear c34b0
          try clear c34b1
          try clear c35
          try clear c35b0
          try clear c35b1
          try clear c36
          try clear c38
          try clear c38b0
          try clear c38b1
          try clear c39
          try clear c39b0
          try clear c39b1
          try clear c46
          try clear c46b0
          try clear c46b1
          try clear c47
          try clear c47b0
          try clear c47b1
          try clear hcz12_0
          try clear hcz12_1
          try clear hcz12_2
          try clear hcz14_0
          try clear hcz14_1
          try clear hcz14_2
          try clear hcz31_0
          try clear hcz31_1
          try clear hcz31_2
          try clear hcz32_0
          try clear hcz32_1
          try clear hcz32_2
          try clear hcz40_0
          try clear hcz40_1
          try clear hcz40_2
          try clear hcz42_0
          try clear hcz42_1
          try clear hcz42_2
          try clear hcz44_0
          try clear hcz44_1
          try clear hcz44_2
          try clear hfz12_0
          try clear hfz12_1
          try clear hfz12_2
          try clear hfz14_0
          try clear hfz14_1
          try clear hfz14_2
          try clear hfz31_0
          try clear hfz31_1
          try clear hfz31_2
          try clear hfz32_0
          try clear hfz32_1
          try clear hfz32_2
          try clear hfz40_0
          try clear hfz40_1
          try clear hfz40_2
          try clear hfz42_0
          try clear hfz42_1
          try clear hfz42_2
          try clear hfz44_0
          try clear hfz44_1
          try clear hfz44_2
          try clear p2
          obtain ⟨kq, HA, HJ27, BK496, HB⟩ := hcut
          cases kq with
          | zero => exact absurd HA.out (by simp [silkwormlaw01_LogicParts.j2])
          | succ kj27 =>
            have H := HA.out
            clear HA
            simp only [silkwormlaw01_LogicParts.j2] at H
            by_cases c48 : t507 = true
            · subst c48
              have H1 : (if a2_2 < 0 then (silkwormlaw01_LogicParts.j3 kj27 a0 a1 t499 t500 t501 t502 t503 t504 t505 t506 true a2_0 a2_1 a2_2) else (if a2_1 < a2_2 then (silkwormlaw01_LogicParts.j3 kj27 a0 a1 t499 t500 t501 t502 t503 t504 t505 t506 true a2_0 a2_1 a2_2) else (silkwormlaw01_LogicParts.j3 kj27 a0 a1 t499 t500 t501 t502 t503 t504 t505 t506 (decide (a2_1 ≥ (a0.size : Int))) a2_0 a2_1 a2_2))) = some r := by rw [if_pos rfl] at H; exact H
              clear H
              have H := H1
              clear H1
              have HC49 := Aside0.mk H
              clear H
              go_upto_region 19 with (fail)
              go_cut [152] (fun v152 wc => ∃ (kq : Nat) (x152_48 : Bool), v152 = .bool x152_48 ∧ Aside0 (silkwormlaw01_LogicParts.j3 kq a0 a1 t499 t500 t501 t502 t503 t504 t505 t506 x152_48 a2_0 a2_1 a2_2 = some r) ∧ Aside0 (kq ≤ kj27) ∧ Aside0 (wc.heap[gb496]? = some (.cells #[.int .i64 a2_0, .int .i64 a2_1, .int .i64 a2_2] 52 (0, 0))) ∧ Aside0 (Below w.heap.size w wc))
              case first => as_aux_lemma =>
                have H := HC49.out
                clear HC49
                by_cases c50 : a2_2 < 0
                · rw [if_pos c50] at H
                  have c50b0 : decide (a2_2 < 0) = true := decide_eq_true c50
                  clear c50
                  (first | rw [c50b0] | (simp only [i64_w, i32_w]; rw [c50b0]) | skip)
                  have H' := Aside0.mk H
                  clear H
                  have hcz51_0 : wc.cell? ⟨gb496, 0, none⟩ = some (.int .i64 a2_0) := (blk_cell BK496.out 0).trans rfl
                  have hcz51_1 : wc.cell? ⟨gb496, 1, none⟩ = some (.int .i64 a2_1) := (blk_cell BK496.out 1).trans rfl
                  have hcz51_2 : wc.cell? ⟨gb496, 2, none⟩ = some (.int .i64 a2_2) := (blk_cell BK496.out 2).trans rfl
                  have hfz51_0 := blk_frozen BK496.out 0
                  have hfz51_1 := blk_frozen BK496.out 1
                  have hfz51_2 := blk_frozen BK496.out 2
                  go_wp2
                  go_meet
                  case rel => exact ⟨_, (true), (by first | rfl | (simp; done) | (simp [*]; done)), H', ⟨by have := HJ9.out; have := HJ27.out; first | omega | exact Nat.le_refl _⟩, ⟨by (with_reducible repeat (first | refine blk_drewN ?_ _ | refine blk_drew ?_ | refine blk_alloc ?_ _)); exact BK496.out⟩, ⟨by repeat (first | (with_reducible first | exact HB.out | apply below_alloc | apply pw_below_drewN | apply below_drew1 | refine below_set ?_ GE496.out) | exact HB.out)⟩⟩
                · rw [if_neg c50] at H
                  have c50b0 : decide (a2_2 < 0) = false := decide_eq_false c50
                  clear c50
                  (first | rw [c50b0] | (simp only [i64_w, i32_w]; rw [c50b0]) | skip)
                  by_cases c52 : a2_1 < a2_2
                  · rw [if_pos c52] at H
                    have c52b0 : decide (a2_1 < a2_2) = true := decide_eq_true c52
                    clear c52
                    have H' := Aside0.mk H
                    clear H
                    have hcz53_0 : wc.cell? ⟨gb496, 0, none⟩ = some (.int .i64 a2_0) := (blk_cell BK496.out 0).trans rfl
                    have hcz53_1 : wc.cell? ⟨gb496, 1, none⟩ = some (.int .i64 a2_1) := (blk_cell BK496.out 1).trans rfl
                    have hcz53_2 : wc.cell? ⟨gb496, 2, none⟩ = some (.int .i64 a2_2) := (blk_cell BK496.out 2).trans rfl
                    have hfz53_0 := blk_frozen BK496.out 0
                    have hfz53_1 := blk_frozen BK496.out 1
                    have hfz53_2 := blk_frozen BK496.out 2
                    go_wp2
                    go_meet
                    case rel => exact ⟨_, (true), (by first | rfl | (simp; done) | (simp [*]; done)), H', ⟨by have := HJ9.out; have := HJ27.out; first | omega | exact Nat.le_refl _⟩, ⟨by (with_reducible repeat (first | refine blk_drewN ?_ _ | refine blk_drew ?_ | refine blk_alloc ?_ _)); exact BK496.out⟩, ⟨by repeat (first | (with_reducible first | exact HB.out | apply below_alloc | apply pw_below_drewN | apply below_drew1 | refine below_set ?_ GE496.out) | exact HB.out)⟩⟩
                  · rw [if_neg c52] at H
                    have c52b0 : decide (a2_1 < a2_2) = false := decide_eq_false c52
                    clear c52
                    have H' := Aside0.mk H
                    clear H
                    have hcz54_0 : wc.cell? ⟨gb496, 0, none⟩ = some (.int .i64 a2_0) := (blk_cell BK496.out 0).trans rfl
                    have hcz54_1 : wc.cell? ⟨gb496, 1, none⟩ = some (.int .i64 a2_1) := (blk_cell BK496.out 1).trans rfl
                    have hcz54_2 : wc.cell? ⟨gb496, 2, none⟩ = some (.int .i64 a2_2) := (blk_cell BK496.out 2).trans rfl
                    have hfz54_0 := blk_frozen BK496.out 0
                    have hfz54_1 := blk_frozen BK496.out 1
                    have hfz54_2 := blk_frozen BK496.out 2
                    go_wp2
                    go_meet
                    case rel => exact ⟨_, (decide (a2_1 ≥ (a0.size : Int))), (by first | rfl | (simp; done) | (simp [*]; done)), H', ⟨by have := HJ9.out; have := HJ27.out; first | omega | exact Nat.le_refl _⟩, ⟨by (with_reducible repeat (first | refine blk_drewN ?_ _ | refine blk_drew ?_ | refine blk_alloc ?_ _)); exact BK496.out⟩, ⟨by repeat (first | (with_reducible first | exact HB.out | apply below_alloc | apply pw_below_drewN | apply below_drew1 | refine below_set ?_ GE496.out) | exact HB.out)⟩⟩
              case rest => as_aux_lemma =>
                clear HC49
                try clear c1
                try clear c2
                try clear p2
                try clear c3
                try clear c4
                try clear c5
                try clear c14
                try clear c17
                try clear c20
                try clear c20b0
                try clear c20b1
                try clear c20b2
                try clear c22
                try clear c27
                try clear c30
                try clear c30b0
                try clear c32
                try clear c33
                try clear c34
                try clear c34b0
                try clear c34b1
                try clear c35
                try clear c35b0
                try clear c35b1
                try clear c36
                try clear c38
                try clear c38b0
                try clear c38b1
                try clear c39
                try clear c39b0
                try clear c39b1
                try clear c46
                try clear c46b0
                try clear c46b1
                try clear c47
                try clear c47b0
                try clear c47b1
                try clear c48
                try clear c50
                try clear c50b0
                try clear c52
                try clear c52b0
                try clear hcz12_0
                try clear hcz12_1
                try clear hcz12_2
                try clear hcz14_0
                try clear hcz14_1
                try clear hcz14_2
                try clear hcz31_0
                try clear hcz31_1
                try clear hcz31_2
                try clear hcz32_0
                try clear hcz32_1
                try clear hcz32_2
                try clear hcz40_0
                try clear hcz40_1
                try clear hcz40_2
                try clear hcz42_0
                try clear hcz42_1
                try clear hcz42_2
                try clear hcz44_0
                try clear hcz44_1
                try clear hcz44_2
                try clear hcz51_0
                try clear hcz51_1
                try clear hcz51_2
                try clear hcz53_0
                try clear hcz53_1
                try clear hcz53_2
                try clear hcz54_0
                try clear hcz54_1
                try clear hcz54_2
                try clear hfz12_0
                try clear hfz12_1
                try clear hfz12_2
                try clear hfz14_0
                try clear hfz14_1
                try clear hfz14_2
                try clear hfz31_0
                try clear hfz31_1
                try clear hfz31_2
                try clear hfz32_0
                try clear hfz32_1
                try clear hfz32_2
                try clear hfz40_0
                try clear hfz40_1
                try clear hfz40_2
                try clear hfz42_0
                try clear hfz42_1
                try clear hfz42_2
                try clear hfz44_0
                try clear hfz44_1
                try clear hfz44_2
                try clear hfz51_0
                try clear hfz51_1
                try clear hfz51_2
                try clear hfz53_0
                try clear hfz53_1
                try clear hfz53_2
                try clear hfz54_0
                try clear hfz54_1
                try clear hfz54_2
                try clear p2
                obtain ⟨kq, x152_48, rfl, HA, HJ48, BK496, HB⟩ := hcut
                cases kq with
                | zero => exact absurd HA.out (by simp [silkwormlaw01_LogicParts.j3])
                | succ kj48 =>
                  have H := HA.out
                  clear HA
                  simp only [silkwormlaw01_LogicParts.j3] at H
                  have HC55 := Aside0.mk H
                  clear H
                  go_upto_if 152 with (fail)
                  go_cut [] (fun wc => ∃ (kq : Nat), Aside0 (silkwormlaw01_LogicParts.j4 kq a0 a1 t501 t502 t503 t504 t505 t506 = some r) ∧ Aside0 (kq ≤ kj48) ∧ Aside0 (wc.heap[gb496]? = some (.cells #[.int .i64 a2_0, .int .i64 a2_1, .int .i64 a2_2] 52 (0, 0))) ∧ Aside0 (Below w.heap.size w wc))
                  case first => as_aux_lemma =>
                    have H := HC55.out
                    clear HC55
                    by_cases c56 : x152_48 = true
                    · subst c56
                      have H1 : (if t499.toList = ([] : List UInt8) then (if t500 = 1 then (silkwormlaw01_LogicParts.j4 kj48 a0 a1 t501 t502 t503 t504 t505 t506) else (some false)) else (some false)) = some r := by rw [if_pos rfl] at H; exact H
                      clear H
                      have H := H1
                      clear H1
                      by_cases c57 : t499.toList = ([] : List UInt8)
                      · rw [if_pos c57] at H
                        have c57b0 : (t499.toList == ([] : List UInt8)) = true := beq_iff_eq.mpr c57
                        have c57b1 : (t499.toList != ([] : List UInt8)) = false := bne_eq_false_iff_eq.mpr c57
                        clear c57
                        (first | rw [c57b0] | (simp only [i64_w, i32_w]; rw [c57b0]) | skip)
                        by_cases c58 : t500 = 1
                        · rw [if_pos c58] at H
                          have c58b0 : (t500 == 1) = true := beq_iff_eq.mpr c58
                          have c58b1 : (t500 != 1) = false := bne_eq_false_iff_eq.mpr c58
                          clear c58
                          have H' := Aside0.mk H
                          clear H
                          go_wp2
                          go_meet
                          case rel => exact ⟨_, H', ⟨by have := HJ9.out; have := HJ27.out; have := HJ48.out; first | omega | exact Nat.le_refl _⟩, ⟨by (with_reducible repeat (first | refine blk_drewN ?_ _ | refine blk_drew ?_ | refine blk_alloc ?_ _)); exact BK496.out⟩, ⟨by repeat (first | (with_reducible first | exact HB.out | apply below_alloc | apply pw_below_drewN | apply below_drew1 | refine below_set ?_ GE496.out) | exact HB.out)⟩⟩
                        · rw [if_neg c58] at H
                          have c58b0 : (t500 == 1) = false := beq_eq_false_iff_ne.mpr c58
                          have c58b1 : (t500 != 1) = true := bne_iff_ne.mpr c58
                          obtain rfl := Option.some.inj H
                          go_wp2
                          go_ret
                          exact ⟨by first | rfl | (simp [errW_none, errW_some] <;> rfl) | (simp [*, errW_none, errW_some] <;> rfl), by repeat (first | (with_reducible first | exact HB.out | apply below_alloc | apply pw_below_drewN | apply below_drew1 | refine below_set ?_ GE496.out) | exact HB.out)⟩
                      · rw [if_neg c57] at H
                        have c57b0 : (t499.toList == ([] : List UInt8)) = false := beq_eq_false_iff_ne.mpr c57
                        have c57b1 : (t499.toList != ([] : List UInt8)) = true := bne_iff_ne.mpr c57
                        (first | rw [c57b0] | (simp only [i64_w, i32_w]; rw [c57b0]) | skip)
                        obtain rfl := Option.some.inj H
                        go_wp2
                        go_ret
                        exact ⟨by first | rfl | (simp [errW_none, errW_some] <;> rfl) | (simp [*, errW_none, errW_some] <;> rfl), by repeat (first | (with_reducible first | exact HB.out | apply below_alloc | apply pw_below_drewN | apply below_drew1 | refine below_set ?_ GE496.out) | exact HB.out)⟩
                    · replace c56 := Bool.eq_false_iff.mpr c56
                      subst c56
                      have H1 : (if 0 ≤ (wrap64 ((wrap64 ((a0.size : Int) - 1)) - a2_1)) then (if (wrap64 ((wrap64 ((a0.size : Int) - 1)) - a2_1)) ≤ (wrap64 ((a0.size : Int) - a2_2)) then (if (wrap64 ((a0.size : Int) - a2_2)) ≤ (a0.size : Int) then (if t499.toList = (a0.extract ((wrap64 ((wrap64 ((a0.size : Int) - 1)) - a2_1)) : Int).toNat ((wrap64 ((a0.size : Int) - a2_2)) : Int).toNat).toList then (if t500 = 0 then (silkwormlaw01_LogicParts.j4 kj48 a0 a1 t501 t502 t503 t504 t505 t506) else (some false)) else (some false)) else (none)) else (none)) else (none)) = some r := by rw [if_neg (show ¬ (false = true) by decide)] at H; exact H
                      clear H
                      have H := H1
                      clear H1
                      obtain ⟨ji59, hji59⟩ : ∃ j_ : Int, (wrap64 ((wrap64 ((a0.size : Int) - 1)) - a2_1)) = j_ := ⟨_, rfl⟩
                      replace H : (if 0 ≤ (ji59) then (if (ji59) ≤ (wrap64 ((a0.size : Int) - a2_2)) then (if (wrap64 ((a0.size : Int) - a2_2)) ≤ (a0.size : Int) then (if t499.toList = (a0.extract ((ji59) : Int).toNat ((wrap64 ((a0.size : Int) - a2_2)) : Int).toNat).toList then (if t500 = 0 then (silkwormlaw01_LogicParts.j4 kj48 a0 a1 t501 t502 t503 t504 t505 t506) else (some false)) else (some false)) else (none)) else (none)) else (none)) = some r := by first | (rw [hji59] at H; exact H) | (simp only [hji59] at H ⊢; exact H)
                      have hji59w : (IntKind.i64.wrap ((wrap64 ((a0.size : Int) - 1)) - a2_1)) = ji59 := (i64_w _).trans hji59
                      by_cases c60 : 0 ≤ (ji59)
                      · rw [if_pos c60] at H
                        have c60b0 := eq_true c60
                        have c60b1 : decide (0 ≤ (ji59)) = true := decide_eq_true c60
                        clear c60
                        by_cases c61 : (ji59) ≤ (wrap64 ((a0.size : Int) - a2_2))
                        · rw [if_pos c61] at H
                          have c61b0 := eq_true c61
                          have c61b1 : decide ((ji59) ≤ (wrap64 ((a0.size : Int) - a2_2))) = true := decide_eq_true c61
                          clear c61
                          by_cases c62 : (wrap64 ((a0.size : Int) - a2_2)) ≤ (a0.size : Int)
                          · rw [if_pos c62] at H
                            have c62b0 := eq_true c62
                            have c62b1 : decide ((wrap64 ((a0.size : Int) - a2_2)) ≤ (a0.size : Int)) = true := decide_eq_true c62
                            clear c62
                            by_cases c63 : t499.toList = (a0.extract ((ji59) : Int).toNat ((wrap64 ((a0.size : Int) - a2_2)) : Int).toNat).toList
                            · rw [if_pos c63] at H
                              have c63b0 : (t499.toList == (a0.extract ((ji59) : Int).toNat ((wrap64 ((a0.size : Int) - a2_2)) : Int).toNat).toList) = true := beq_iff_eq.mpr c63
                              have c63b1 : (t499.toList != (a0.extract ((ji59) : Int).toNat ((wrap64 ((a0.size : Int) - a2_2)) : Int).toNat).toList) = false := bne_eq_false_iff_eq.mpr c63
                              clear c63
                              by_cases c64 : t500 = 0
                              · rw [if_pos c64] at H
                                have c64b0 : (t500 == 0) = true := beq_iff_eq.mpr c64
                                have c64b1 : (t500 != 0) = false := bne_eq_false_iff_eq.mpr c64
                                clear c64
                                have H' := Aside0.mk H
                                clear H
                                have hcz65_0 : wc.cell? ⟨gb496, 0, none⟩ = some (.int .i64 a2_0) := (blk_cell BK496.out 0).trans rfl
                                have hcz65_1 : wc.cell? ⟨gb496, 1, none⟩ = some (.int .i64 a2_1) := (blk_cell BK496.out 1).trans rfl
                                have hcz65_2 : wc.cell? ⟨gb496, 2, none⟩ = some (.int .i64 a2_2) := (blk_cell BK496.out 2).trans rfl
                                have hfz65_0 := blk_frozen BK496.out 0
                                have hfz65_1 := blk_frozen BK496.out 1
                                have hfz65_2 := blk_frozen BK496.out 2
                                go_wp2
                                go_meet
                                case rel => exact ⟨_, H', ⟨by have := HJ9.out; have := HJ27.out; have := HJ48.out; first | omega | exact Nat.le_refl _⟩, ⟨by (with_reducible repeat (first | refine blk_drewN ?_ _ | refine blk_drew ?_ | refine blk_alloc ?_ _)); exact BK496.out⟩, ⟨by repeat (first | (with_reducible first | exact HB.out | apply below_alloc | apply pw_below_drewN | apply below_drew1 | refine below_set ?_ GE496.out) | exact HB.out)⟩⟩
                              · rw [if_neg c64] at H
                                have c64b0 : (t500 == 0) = false := beq_eq_false_iff_ne.mpr c64
                                have c64b1 : (t500 != 0) = true := bne_iff_ne.mpr c64
                                obtain rfl := Option.some.inj H
                                have hcz66_0 : wc.cell? ⟨gb496, 0, none⟩ = some (.int .i64 a2_0) := (blk_cell BK496.out 0).trans rfl
                                have hcz66_1 : wc.cell? ⟨gb496, 1, none⟩ = some (.int .i64 a2_1) := (blk_cell BK496.out 1).trans rfl
                                have hcz66_2 : wc.cell? ⟨gb496, 2, none⟩ = some (.int .i64 a2_2) := (blk_cell BK496.out 2).trans rfl
                                have hfz66_0 := blk_frozen BK496.out 0
                                have hfz66_1 := blk_frozen BK496.out 1
                                have hfz66_2 := blk_frozen BK496.out 2
                                go_wp2
                                go_ret
                                exact ⟨by first | rfl | (simp [errW_none, errW_some] <;> rfl) | (simp only [← hji59]; first | rfl | (simp [errW_none, errW_some] <;> rfl)) | (simp [*, errW_none, errW_some] <;> rfl), by repeat (first | (with_reducible first | exact HB.out | apply below_alloc | apply pw_below_drewN | apply below_drew1 | refine below_set ?_ GE496.out) | exact HB.out)⟩
                            · rw [if_neg c63] at H
                              have c63b0 : (t499.toList == (a0.extract ((ji59) : Int).toNat ((wrap64 ((a0.size : Int) - a2_2)) : Int).toNat).toList) = false := beq_eq_false_iff_ne.mpr c63
                              have c63b1 : (t499.toList != (a0.extract ((ji59) : Int).toNat ((wrap64 ((a0.size : Int) - a2_2)) : Int).toNat).toList) = true := bne_iff_ne.mpr c63
                              obtain rfl := Option.some.inj H
                              have hcz67_0 : wc.cell? ⟨gb496, 0, none⟩ = some (.int .i64 a2_0) := (blk_cell BK496.out 0).trans rfl
                              have hcz67_1 : wc.cell? ⟨gb496, 1, none⟩ = some (.int .i64 a2_1) := (blk_cell BK496.out 1).trans rfl
                              have hcz67_2 : wc.cell? ⟨gb496, 2, none⟩ = some (.int .i64 a2_2) := (blk_cell BK496.out 2).trans rfl
                              have hfz67_0 := blk_frozen BK496.out 0
                              have hfz67_1 := blk_frozen BK496.out 1
                              have hfz67_2 := blk_frozen BK496.out 2
                              go_wp2
                              go_ret
                              exact ⟨by first | rfl | (simp [errW_none, errW_some] <;> rfl) | (simp only [← hji59]; first | rfl | (simp [errW_none, errW_some] <;> rfl)) | (simp [*, errW_none, errW_some] <;> rfl), by repeat (first | (with_reducible first | exact HB.out | apply below_alloc | apply pw_below_drewN | apply below_drew1 | refine below_set ?_ GE496.out) | exact HB.out)⟩
                          · rw [if_neg c62] at H
                            exact absurd H (by simp)
                        · rw [if_neg c61] at H
                          exact absurd H (by simp)
                      · rw [if_neg c60] at H
                        exact absurd H (by simp)
                  case rest => as_aux_lemma =>
                    clear HC55
                    try clear c1
                    try clear c2
                    try clear p2
                    try clear c3
                    try clear c4
                    try clear c5
                    try clear c6
                    try clear p6
                    try clear c14
                    try clear c17
                    try clear c20
                    try clear c20b0
                    try clear c20b1
                    try clear c20b2
                    try clear c22
                    try clear c27
                    try clear c30
                    try clear c30b0
                    try clear c32
                    try clear c33
                    try clear c34
                    try clear c34b0
                    try clear c34b1
                    try clear c35
                    try clear c35b0
                    try clear c35b1
                    try clear c36
                    try clear c38
                    try clear c38b0
                    try clear c38b1
                    try clear c39
                    try clear c39b0
                    try clear c39b1
                    try clear c46
                    try clear c46b0
                    try clear c46b1
                    try clear c47
                    try clear c47b0
                    try clear c47b1
                    try clear c48
                    try clear c50
                    try clear c50b0
                    try clear c52
                    try clear c52b0
                    try clear c56
                    try clear c57
                    try clear c57b0
                    try clear c57b1
                    try clear c58
                    try clear c58b0
                    try clear c58b1
                    try clear c60
                    try clear c60b0
                    try clear c60b1
                    try clear c61
                    try clear c61b0
                    try clear c61b1
                    try clear c62
                    try clear c62b0
                    try clear c62b1
                    try clear c63
                    try clear c63b0
                    try clear c63b1
                    try clear c64
                    try clear c64b0
                    try clear c64b1
                    try clear p64
                    try clear hcz12_0
                    try clear hcz12_1
                    try clear hcz12_2
                    try clear hcz14_0
                    try clear hcz14_1
                    try clear hcz14_2
                    try clear hcz31_0
                    try clear hcz31_1
                    try clear hcz31_2
                    try clear hcz32_0
                    try clear hcz32_1
                    try clear hcz32_2
                    try clear hcz40_0
                    try clear hcz40_1
                    try clear hcz40_2
                    try clear hcz42_0
                    try clear hcz42_1
                    try clear hcz42_2
                    try clear hcz44_0
                    try clear hcz44_1
                    try clear hcz44_2
                    try clear hcz51_0
                    try clear hcz51_1
                    try clear hcz51_2
                    try clear hcz53_0
                    try clear hcz53_1
                    try clear hcz53_2
                    try clear hcz54_0
                    try clear hcz54_1
                    try clear hcz54_2
                    try clear hcz65_0
                    try clear hcz65_1
                    try clear hcz65_2
                    try clear hcz66_0
                    try clear hcz66_1
                    try clear hcz66_2
                    try clear hcz67_0
                    try clear hcz67_1
                    try clear hcz67_2
                    try clear hfz12_0
                    try clear hfz12_1
                    try clear hfz12_2
                    try clear hfz14_0
                    try clear hfz14_1
                    try clear hfz14_2
                    try clear hfz31_0
                    try clear hfz31_1
                    try clear hfz31_2
                    try clear hfz32_0
                    try clear hfz32_1
                    try clear hfz32_2
                    try clear hfz40_0
                    try clear hfz40_1
                    try clear hfz40_2
                    try clear hfz42_0
                    try clear hfz42_1
                    try clear hfz42_2
                    try clear hfz44_0
                    try clear hfz44_1
                    try clear hfz44_2
                    try clear hfz51_0
                    try clear hfz51_1
                    try clear hfz51_2
                    try clear hfz53_0
                    try clear hfz53_1
                    try clear hfz53_2
                    try clear hfz54_0
                    try clear hfz54_1
                    try clear hfz54_2
                    try clear hfz65_0
                    try clear hfz65_1
                    try clear hfz65_2
                    try clear hfz66_0
                    try clear hfz66_1
                    try clear hfz66_2
                    try clear hfz67_0
                    try clear hfz67_1
                    try clear hfz67_2
                    try clear p2
                    obtain ⟨kq, HA, HJ54, BK496, HB⟩ := hcut
                    cases kq with
                    | zero => exact absurd HA.out (by simp [silkwormlaw01_LogicParts.j4])
                    | succ kj54 =>
                      have H := HA.out
                      clear HA
                      simp only [silkwormlaw01_LogicParts.j4] at H
                      replace H := Option.bind_eq_some_iff.mp H
                      obtain ⟨t512, A680, H⟩ := H
                      replace H : (if t512 = true then ((silkwormref01_Bit.f kj54 a0 a1).bind fun t513 => (if t501.toList = t513.toList then (if t502 = 0 then (silkwormlaw01_LogicParts.j5 kj54 a0 t503 t504 t505 t506) else (some false)) else (some false))) else (if t501.toList = ([] : List UInt8) then (if t502 = 10 then (silkwormlaw01_LogicParts.j5 kj54 a0 t503 t504 t505 t506) else (some false)) else (some false))) = some r := H
                      have A68 := Aside0.mk A680
                      clear A680
                      have HC69 := Aside0.mk H
                      clear H
                      go_upto_if 180 with (first | ((with_reducible refine gate_callee (f := 17) rfl ?_); refine goesL_ (some 179) rfl rfl Tryd.func17 (by kernel_rfl) rfl #[.string a1] rfl (by (try simp only [List.map_toArray, List.map_cons, List.map_nil]); first | done | rfl | (simp only [List.length_drop, List.length_take]; rfl)) ?_; (with_reducible refine (silkwormref01_May.calls kj54 a1 t512 _ A68.out).mono ?_); rintro e w' ⟨rfl, ⟨nd, rfl⟩⟩; refine ⟨_, rfl, ?_⟩))
                      (try simp only [Act.put, List.setIfInBounds_toArray, List.set_cons_zero, List.set_cons_succ])
                      go_cut [] (fun wc => ∃ (kq : Nat), Aside0 (silkwormlaw01_LogicParts.j5 kq a0 t503 t504 t505 t506 = some r) ∧ Aside0 (kq ≤ kj54) ∧ Aside0 (wc.heap[gb496]? = some (.cells #[.int .i64 a2_0, .int .i64 a2_1, .int .i64 a2_2] 52 (0, 0))) ∧ Aside0 (Below w.heap.size w wc))
                      case first => as_aux_lemma =>
                        have H := HC69.out
                        clear HC69
                        by_cases c70 : t512 = true
                        · subst c70
                          have H1 : ((silkwormref01_Bit.f kj54 a0 a1).bind fun t513 => (if t501.toList = t513.toList then (if t502 = 0 then (silkwormlaw01_LogicParts.j5 kj54 a0 t503 t504 t505 t506) else (some false)) else (some false))) = some r := by rw [if_pos rfl] at H; exact H
                          clear H
                          have H := H1
                          clear H1
                          replace H := Option.bind_eq_some_iff.mp H
                          obtain ⟨t513, A710, H⟩ := H
                          replace H : (if t501.toList = t513.toList then (if t502 = 0 then (silkwormlaw01_LogicParts.j5 kj54 a0 t503 t504 t505 t506) else (some false)) else (some false)) = some r := H
                          have A71 := Aside0.mk A710
                          clear A710
                          by_cases c72 : t501.toList = t513.toList
                          · rw [if_pos c72] at H
                            have c72b0 : (t501.toList == t513.toList) = true := beq_iff_eq.mpr c72
                            have c72b1 : (t501.toList != t513.toList) = false := bne_eq_false_iff_eq.mpr c72
                            clear c72
                            (first | rw [c72b0] | (simp only [i64_w, i32_w]; rw [c72b0]) | skip)
                            by_cases c73 : t502 = 0
                            · rw [if_pos c73] at H
                              have c73b0 : (t502 == 0) = true := beq_iff_eq.mpr c73
                              have c73b1 : (t502 != 0) = false := bne_eq_false_iff_eq.mpr c73
                              clear c73
                              have H' := Aside0.mk H
                              clear H
                              go_wp2_with (first | ((with_reducible refine gate_callee (f := 37) rfl ?_); refine goesL_ (some 190) rfl rfl Tryd.func37 (by kernel_rfl) rfl #[.string a0, .string a1] rfl (by (try simp only [List.map_toArray, List.map_cons, List.map_nil]); first | done | rfl | (simp only [List.length_drop, List.length_take]; rfl)) ?_; (with_reducible refine (silkwormref01_Bit.calls kj54 a0 a1 t513 _ A71.out).mono ?_); rintro e w74 ⟨rfl, hb⟩; refine ⟨_, rfl, ?_⟩; have n0_ := Aside0.mk (blk_below (g := gb496) (o := .cells #[.int .i64 a2_0, .int .i64 a2_1, .int .i64 a2_2] 52 (0, 0)) (by (with_reducible repeat (first | refine blk_drewN ?_ _ | refine blk_drew ?_ | refine blk_alloc ?_ _)); exact BK496.out) hb); have n1_ := Aside0.mk (below_step (by repeat (first | (with_reducible first | exact HB.out | apply below_alloc | apply pw_below_drewN | apply below_drew1 | refine below_set ?_ GE496.out) | exact HB.out)) hb); clear BK496; clear HB; have BK496 := n0_; have HB := n1_; clear n0_ n1_; (try clear hb); (try clear hb2); (try clear hk); (try clear hi)))
                              go_meet
                              case rel => exact ⟨_, H', ⟨by have := HJ9.out; have := HJ27.out; have := HJ48.out; have := HJ54.out; first | omega | exact Nat.le_refl _⟩, ⟨by (with_reducible repeat (first | refine blk_drewN ?_ _ | refine blk_drew ?_ | refine blk_alloc ?_ _)); exact BK496.out⟩, ⟨by repeat (first | (with_reducible first | exact HB.out | apply below_alloc | apply pw_below_drewN | apply below_drew1 | refine below_set ?_ GE496.out) | exact HB.out)⟩⟩
                            · rw [if_neg c73] at H
                              have c73b0 : (t502 == 0) = false := beq_eq_false_iff_ne.mpr c73
                              have c73b1 : (t502 != 0) = true := bne_iff_ne.mpr c73
                              obtain rfl := Option.some.inj H
                              go_wp2_with (first | ((with_reducible refine gate_callee (f := 37) rfl ?_); refine goesL_ (some 190) rfl rfl Tryd.func37 (by kernel_rfl) rfl #[.string a0, .string a1] rfl (by (try simp only [List.map_toArray, List.map_cons, List.map_nil]); first | done | rfl | (simp only [List.length_drop, List.length_take]; rfl)) ?_; (with_reducible refine (silkwormref01_Bit.calls kj54 a0 a1 t513 _ A71.out).mono ?_); rintro e w75 ⟨rfl, hb⟩; refine ⟨_, rfl, ?_⟩; have n0_ := Aside0.mk (blk_below (g := gb496) (o := .cells #[.int .i64 a2_0, .int .i64 a2_1, .int .i64 a2_2] 52 (0, 0)) (by (with_reducible repeat (first | refine blk_drewN ?_ _ | refine blk_drew ?_ | refine blk_alloc ?_ _)); exact BK496.out) hb); have n1_ := Aside0.mk (below_step (by repeat (first | (with_reducible first | exact HB.out | apply below_alloc | apply pw_below_drewN | apply below_drew1 | refine below_set ?_ GE496.out) | exact HB.out)) hb); clear BK496; clear HB; have BK496 := n0_; have HB := n1_; clear n0_ n1_; (try clear hb); (try clear hb2); (try clear hk); (try clear hi)))
                              go_ret
                              exact ⟨by first | rfl | (simp [errW_none, errW_some] <;> rfl) | (simp [*, errW_none, errW_some] <;> rfl), by repeat (first | (with_reducible first | exact HB.out | apply below_alloc | apply pw_below_drewN | apply below_drew1 | refine below_set ?_ GE496.out) | exact HB.out)⟩
                          · rw [if_neg c72] at H
                            have c72b0 : (t501.toList == t513.toList) = false := beq_eq_false_iff_ne.mpr c72
                            have c72b1 : (t501.toList != t513.toList) = true := bne_iff_ne.mpr c72
                            (first | rw [c72b0] | (simp only [i64_w, i32_w]; rw [c72b0]) | skip)
                            obtain rfl := Option.some.inj H
                            go_wp2_with (first | ((with_reducible refine gate_callee (f := 37) rfl ?_); refine goesL_ (some 190) rfl rfl Tryd.func37 (by kernel_rfl) rfl #[.string a0, .string a1] rfl (by (try simp only [List.map_toArray, List.map_cons, List.map_nil]); first | done | rfl | (simp only [List.length_drop, List.length_take]; rfl)) ?_; (with_reducible refine (silkwormref01_Bit.calls kj54 a0 a1 t513 _ A71.out).mono ?_); rintro e w76 ⟨rfl, hb⟩; refine ⟨_, rfl, ?_⟩; have n0_ := Aside0.mk (blk_below (g := gb496) (o := .cells #[.int .i64 a2_0, .int .i64 a2_1, .int .i64 a2_2] 52 (0, 0)) (by (with_reducible repeat (first | refine blk_drewN ?_ _ | refine blk_drew ?_ | refine blk_alloc ?_ _)); exact BK496.out) hb); have n1_ := Aside0.mk (below_step (by repeat (first | (with_reducible first | exact HB.out | apply below_alloc | apply pw_below_drewN | apply below_drew1 | refine below_set ?_ GE496.out) | exact HB.out)) hb); clear BK496; clear HB; have BK496 := n0_; have HB := n1_; clear n0_ n1_; (try clear hb); (try clear hb2); (try clear hk); (try clear hi)))
                            go_ret
                            exact ⟨by first | rfl | (simp [errW_none, errW_some] <;> rfl) | (simp [*, errW_none, errW_some] <;> rfl), by repeat (first | (with_reducible first | exact HB.out | apply below_alloc | apply pw_below_drewN | apply below_drew1 | refine below_set ?_ GE496.out) | exact HB.out)⟩
                        · replace c70 := Bool.eq_false_iff.mpr c70
                          subst c70
                          have H1 : (if t501.toList = ([] : List UInt8) then (if t502 = 10 then (silkwormlaw01_LogicParts.j5 kj54 a0 t503 t504 t505 t506) else (some false)) else (some false)) = some r := by rw [if_neg (show ¬ (false = true) by decide)] at H; exact H
                          clear H
                          have H := H1
                          clear H1
                          by_cases c77 : t501.toList = ([] : List UInt8)
                          · rw [if_pos c77] at H
                            have c77b0 : (t501.toList == ([] : List UInt8)) = true := beq_iff_eq.mpr c77
                            have c77b1 : (t501.toList != ([] : List UInt8)) = false := bne_eq_false_iff_eq.mpr c77
                            clear c77
                            by_cases c78 : t502 = 10
                            · rw [if_pos c78] at H
                              have c78b0 : (t502 == 10) = true := beq_iff_eq.mpr c78
                              have c78b1 : (t502 != 10) = false := bne_eq_false_iff_eq.mpr c78
                              clear c78
                              have H' := Aside0.mk H
                              clear H
                              go_wp2
                              go_meet
                              case rel => exact ⟨_, H', ⟨by have := HJ9.out; have := HJ27.out; have := HJ48.out; have := HJ54.out; first | omega | exact Nat.le_refl _⟩, ⟨by (with_reducible repeat (first | refine blk_drewN ?_ _ | refine blk_drew ?_ | refine blk_alloc ?_ _)); exact BK496.out⟩, ⟨by repeat (first | (with_reducible first | exact HB.out | apply below_alloc | apply pw_below_drewN | apply below_drew1 | refine below_set ?_ GE496.out) | exact HB.out)⟩⟩
                            · rw [if_neg c78] at H
                              have c78b0 : (t502 == 10) = false := beq_eq_false_iff_ne.mpr c78
                              have c78b1 : (t502 != 10) = true := bne_iff_ne.mpr c78
                              obtain rfl := Option.some.inj H
                              go_wp2
                              go_ret
                              exact ⟨by first | rfl | (simp [errW_none, errW_some] <;> rfl) | (simp [*, errW_none, errW_some] <;> rfl), by repeat (first | (with_reducible first | exact HB.out | apply below_alloc | apply pw_below_drewN | apply below_drew1 | refine below_set ?_ GE496.out) | exact HB.out)⟩
                          · rw [if_neg c77] at H
                            have c77b0 : (t501.toList == ([] : List UInt8)) = false := beq_eq_false_iff_ne.mpr c77
                            have c77b1 : (t501.toList != ([] : List UInt8)) = true := bne_iff_ne.mpr c77
                            obtain rfl := Option.some.inj H
                            go_wp2
                            go_ret
                            exact ⟨by first | rfl | (simp [errW_none, errW_some] <;> rfl) | (simp [*, errW_none, errW_some] <;> rfl), by repeat (first | (with_reducible first | exact HB.out | apply below_alloc | apply pw_below_drewN | apply below_drew1 | refine below_set ?_ GE496.out) | exact HB.out)⟩
                      case rest => as_aux_lemma =>
                        clear HC69
                        try clear c1
                        try clear c2
                        try clear p2
                        try clear c3
                        try clear c4
                        try clear c5
                        try clear c6
                        try clear p6
                        try clear c7
                        try clear c14
                        try clear c17
                        try clear c20
                        try clear c20b0
                        try clear c20b1
                        try clear c20b2
                        try clear c22
                        try clear c27
                        try clear c30
                        try clear c30b0
                        try clear c32
                        try clear c33
                        try clear c34
                        try clear c34b0
                        try clear c34b1
                        try clear c35
                        try clear c35b0
                        try clear c35b1
                        try clear c36
                        try clear c37
                        try clear c38
                        try clear c38b0
                        try clear c38b1
                        try clear c39
                        try clear c39b0
                        try clear c39b1
                        try clear c46
                        try clear c46b0
                        try clear c46b1
                        try clear c47
                        try clear c47b0
                        try clear c47b1
                        try clear c48
                        try clear c50
                        try clear c50b0
                        try clear c52
                        try clear c52b0
                        try clear c56
                        try clear c57
                        try clear c57b0
                        try clear c57b1
                        try clear c58
                        try clear c58b0
                        try clear c58b1
                        try clear c60
                        try clear c60b0
                        try clear c60b1
                        try clear c61
                        try clear c61b0
                        try clear c61b1
                        try clear c62
                        try clear c62b0
                        try clear c62b1
                        try clear c63
                        try clear c63b0
                        try clear c63b1
                        try clear c64
                        try clear c64b0
                        try clear c64b1
                        try clear p64
                        try clear c70
                        try clear c72
                        try clear c72b0
                        try clear c72b1
                        try clear c73
                        try clear c73b0
                        try clear c73b1
                        try clear c77
                        try clear c77b0
                        try clear c77b1
                        try clear c78
                        try clear c78b0
                        try clear c78b1
                        try clear hcz12_0
                        try clear hcz12_1
                        try clear hcz12_2
                        try clear hcz14_0
                        try clear hcz14_1
                        try clear hcz14_2
                        try clear hcz31_0
                        try clear hcz31_1
                        try clear hcz31_2
                        try clear hcz32_0
                        try clear hcz32_1
                        try clear hcz32_2
                        try clear hcz40_0
                        try clear hcz40_1
                        try clear hcz40_2
                        try clear hcz42_0
                        try clear hcz42_1
                        try clear hcz42_2
                        try clear hcz44_0
                        try clear hcz44_1
                        try clear hcz44_2
                        try clear hcz51_0
                        try clear hcz51_1
                        try clear hcz51_2
                        try clear hcz53_0
                        try clear hcz53_1
                        try clear hcz53_2
                        try clear hcz54_0
                        try clear hcz54_1
                        try clear hcz54_2
                        try clear hcz65_0
                        try clear hcz65_1
                        try clear hcz65_2
                        try clear hcz66_0
                        try clear hcz66_1
                        try clear hcz66_2
                        try clear hcz67_0
                        try clear hcz67_1
                        try clear hcz67_2
                        try clear hfz12_0
                        try clear hfz12_1
                        try clear hfz12_2
                        try clear hfz14_0
                        try clear hfz14_1
                        try clear hfz14_2
                        try clear hfz31_0
                        try clear hfz31_1
                        try clear hfz31_2
                        try clear hfz32_0
                        try clear hfz32_1
                        try clear hfz32_2
                        try clear hfz40_0
                        try clear hfz40_1
                        try clear hfz40_2
                        try clear hfz42_0
                        try clear hfz42_1
                        try clear hfz42_2
                        try clear hfz44_0
                        try clear hfz44_1
                        try clear hfz44_2
                        try clear hfz51_0
                        try clear hfz51_1
                        try clear hfz51_2
                        try clear hfz53_0
                        try clear hfz53_1
                        try clear hfz53_2
                        try clear hfz54_0
                        try clear hfz54_1
                        try clear hfz54_2
                        try clear hfz65_0
                        try clear hfz65_1
                        try clear hfz65_2
                        try clear hfz66_0
                        try clear hfz66_1
                        try clear hfz66_2
                        try clear hfz67_0
                        try clear hfz67_1
                        try clear hfz67_2
                        try clear p2
                        try clear p6
                        try clear p64
                        obtain ⟨kq, HA, HJ68, BK496, HB⟩ := hcut
                        cases kq with
                        | zero => exact absurd HA.out (by simp [silkwormlaw01_LogicParts.j5])
                        | succ kj68 =>
                          have H := HA.out
                          clear HA
                          simp only [silkwormlaw01_LogicParts.j5] at H
                          replace H := Option.bind_eq_some_iff.mp H
                          obtain ⟨t514, A790, H⟩ := H
                          replace H : (if t514 = true then ((silkwormref01_Number.f kj68 a0).bind fun t515 => (if t515 < 0 then (if t503 = 0 then (silkwormlaw01_LogicParts.j6 kj68 a0 t505 t506 (t504 != 61)) else (silkwormlaw01_LogicParts.j6 kj68 a0 t505 t506 true)) else ((silkwormref01_Number.f kj68 a0).bind fun t518 => (if t503 = t518 then (silkwormlaw01_LogicParts.j7 kj68 a0 t505 t506 (t504 != 0)) else (silkwormlaw01_LogicParts.j7 kj68 a0 t505 t506 true))))) else (if t503 = 0 then (silkwormlaw01_LogicParts.j8 kj68 a0 t505 t506 (t504 != 60)) else (silkwormlaw01_LogicParts.j8 kj68 a0 t505 t506 true))) = some r := H
                          have A79 := Aside0.mk A790
                          clear A790
                          by_cases c80 : t514 = true
                          · subst c80
                            have H1 : ((silkwormref01_Number.f kj68 a0).bind fun t515 => (if t515 < 0 then (if t503 = 0 then (silkwormlaw01_LogicParts.j6 kj68 a0 t505 t506 (t504 != 61)) else (silkwormlaw01_LogicParts.j6 kj68 a0 t505 t506 true)) else ((silkwormref01_Number.f kj68 a0).bind fun t518 => (if t503 = t518 then (silkwormlaw01_LogicParts.j7 kj68 a0 t505 t506 (t504 != 0)) else (silkwormlaw01_LogicParts.j7 kj68 a0 t505 t506 true))))) = some r := by rw [if_pos rfl] at H; exact H
                            clear H
                            have H := H1
                            clear H1
                            replace H := Option.bind_eq_some_iff.mp H
                            obtain ⟨t515, A810, H⟩ := H
                            replace H : (if t515 < 0 then (if t503 = 0 then (silkwormlaw01_LogicParts.j6 kj68 a0 t505 t506 (t504 != 61)) else (silkwormlaw01_LogicParts.j6 kj68 a0 t505 t506 true)) else ((silkwormref01_Number.f kj68 a0).bind fun t518 => (if t503 = t518 then (silkwormlaw01_LogicParts.j7 kj68 a0 t505 t506 (t504 != 0)) else (silkwormlaw01_LogicParts.j7 kj68 a0 t505 t506 true)))) = some r := H
                            have A81 := Aside0.mk A810
                            clear A810
                            by_cases c82 : t515 < 0
                            · rw [if_pos c82] at H
                              have c82b0 : decide (t515 < 0) = true := decide_eq_true c82
                              clear c82
                              have HC83 := Aside0.mk H
                              clear H
                              go_upto_region 33 with (first | ((with_reducible refine gate_callee (f := 22) rfl ?_); refine goesL_ (some 198) rfl rfl Tryd.func22 (by kernel_rfl) rfl #[.string a0] rfl (by (try simp only [List.map_toArray, List.map_cons, List.map_nil]); first | done | rfl | (simp only [List.length_drop, List.length_take]; rfl)) ?_; (with_reducible refine (silkwormref01_Known.calls kj68 a0 true _ A79.out).mono ?_); rintro e w' ⟨rfl, ⟨nd, rfl⟩⟩; refine ⟨_, rfl, ?_⟩) | ((with_reducible refine gate_callee (f := 38) rfl ?_); refine goesL_ (some 208) rfl rfl Tryd.func38 (by kernel_rfl) rfl #[.string a0] rfl (by (try simp only [List.map_toArray, List.map_cons, List.map_nil]); first | done | rfl | (simp only [List.length_drop, List.length_take]; rfl)) ?_; (with_reducible refine (silkwormref01_Number.calls kj68 a0 t515 _ A81.out).mono ?_); rintro e w' ⟨rfl, ⟨nd, rfl⟩⟩; refine ⟨_, rfl, ?_⟩))
                              (try simp only [Act.put, List.setIfInBounds_toArray, List.set_cons_zero, List.set_cons_succ])
                              go_cut [215] (fun v215 wc => ∃ (kq : Nat) (x215_82 : Bool), v215 = .bool x215_82 ∧ Aside0 (silkwormlaw01_LogicParts.j6 kq a0 t505 t506 x215_82 = some r) ∧ Aside0 (kq ≤ kj68) ∧ Aside0 (wc.heap[gb496]? = some (.cells #[.int .i64 a2_0, .int .i64 a2_1, .int .i64 a2_2] 52 (0, 0))) ∧ Aside0 (Below w.heap.size w wc))
                              case first => as_aux_lemma =>
                                have H := HC83.out
                                clear HC83
                                by_cases c84 : t503 = 0
                                · rw [if_pos c84] at H
                                  have c84b0 : (t503 == 0) = true := beq_iff_eq.mpr c84
                                  have c84b1 : (t503 != 0) = false := bne_eq_false_iff_eq.mpr c84
                                  clear c84
                                  (first | rw [c84b0] | (simp only [i64_w, i32_w]; rw [c84b0]) | skip)
                                  have H' := Aside0.mk H
                                  clear H
                                  go_wp2
                                  go_meet
                                  case rel => exact ⟨_, ((t504 != 61)), (by first | rfl | (simp; done) | (simp [*]; done)), H', ⟨by have := HJ9.out; have := HJ27.out; have := HJ48.out; have := HJ54.out; have := HJ68.out; first | omega | exact Nat.le_refl _⟩, ⟨by (with_reducible repeat (first | refine blk_drewN ?_ _ | refine blk_drew ?_ | refine blk_alloc ?_ _)); exact BK496.out⟩, ⟨by repeat (first | (with_reducible first | exact HB.out | apply below_alloc | apply pw_below_drewN | apply below_drew1 | refine below_set ?_ GE496.out) | exact HB.out)⟩⟩
                                · rw [if_neg c84] at H
                                  have c84b0 : (t503 == 0) = false := beq_eq_false_iff_ne.mpr c84
                                  have c84b1 : (t503 != 0) = true := bne_iff_ne.mpr c84
                                  (first | rw [c84b0] | (simp only [i64_w, i32_w]; rw [c84b0]) | skip)
                                  have H' := Aside0.mk H
                                  clear H
                                  go_wp2
                                  go_meet
                                  case rel => exact ⟨_, (true), (by first | rfl | (simp; done) | (simp [*]; done)), H', ⟨by have := HJ9.out; have := HJ27.out; have := HJ48.out; have := HJ54.out; have := HJ68.out; first | omega | exact Nat.le_refl _⟩, ⟨by (with_reducible repeat (first | refine blk_drewN ?_ _ | refine blk_drew ?_ | refine blk_alloc ?_ _)); exact BK496.out⟩, ⟨by repeat (first | (with_reducible first | exact HB.out | apply below_alloc | apply pw_below_drewN | apply below_drew1 | refine below_set ?_ GE496.out) | exact HB.out)⟩⟩
                              case rest => as_aux_lemma =>
                                clear HC83
                                try clear c1
                                try clear c2
                                try clear p2
                                try clear c3
                                try clear c4
                                try clear c5
                                try clear c6
                                try clear p6
                                try clear c7
                                try clear c8
                                try clear c14
                                try clear c17
                                try clear c20
                                try clear c20b0
                                try clear c20b1
                                try clear c20b2
                                try clear c22
                                try clear c27
                                try clear c30
                                try clear c30b0
                                try clear c32
                                try clear c33
                                try clear c34
                                try clear c34b0
                                try clear c34b1
                                try clear c35
                                try clear c35b0
                                try clear c35b1
                                try clear c36
                                try clear c37
                                try clear c38
                                try clear c38b0
                                try clear c38b1
                                try clear c39
                                try clear c39b0
                                try clear c39b1
                                try clear c46
                                try clear c46b0
                                try clear c46b1
                                try clear c47
                                try clear c47b0
                                try clear c47b1
                                try clear c48
                                try clear c50
                                try clear c50b0
                                try clear c52
                                try clear c52b0
                                try clear c56
                                try clear c57
                                try clear c57b0
                                try clear c57b1
                                try clear c58
                                try clear c58b0
                                try clear c58b1
                                try clear c60
                                try clear c60b0
                                try clear c60b1
                                try clear c61
                                try clear c61b0
                                try clear c61b1
                                try clear c62
                                try clear c62b0
                                try clear c62b1
                                try clear c63
                                try clear c63b0
                                try clear c63b1
                                try clear c64
                                try clear c64b0
                                try clear c64b1
                                try clear p64
                                try clear c70
                                try clear c72
                                try clear c72b0
                                try clear c72b1
                                try clear c73
                                try clear c73b0
                                try clear c73b1
                                try clear c77
                                try clear c77b0
                                try clear c77b1
                                try clear c78
                                try clear c78b0
                                try clear c78b1
                                try clear c80
                                try clear c82
                                try clear c82b0
                                try clear c84
                                try clear c84b0
                                try clear c84b1
                                try clear hcz12_0
                                try clear hcz12_1
                                try clear hcz12_2
                                try clear hcz14_0
                                try clear hcz14_1
                                try clear hcz14_2
                                try clear hcz31_0
                                try clear hcz31_1
                                try clear hcz31_2
                                try clear hcz32_0
                                try clear hcz32_1
                                try clear hcz32_2
                                try clear hcz40_0
                                try clear hcz40_1
                                try clear hcz40_2
                                try clear hcz42_0
                                try clear hcz42_1
                                try clear hcz42_2
                                try clear hcz44_0
                                try clear hcz44_1
                                try clear hcz44_2
                                try clear hcz51_0
                                try clear hcz51_1
                                try clear hcz51_2
                                try clear hcz53_0
                                try clear hcz53_1
                                try clear hcz53_2
                                try clear hcz54_0
                                try clear hcz54_1
                                try clear hcz54_2
                                try clear hcz65_0
                                try clear hcz65_1
                                try clear hcz65_2
                                try clear hcz66_0
                                try clear hcz66_1
                                try clear hcz66_2
                                try clear hcz67_0
                                try clear hcz67_1
                                try clear hcz67_2
                                try clear hfz12_0
                                try clear hfz12_1
                                try clear hfz12_2
                                try clear hfz14_0
                                try clear hfz14_1
                                try clear hfz14_2
                                try clear hfz31_0
                                try clear hfz31_1
                                try clear hfz31_2
                                try clear hfz32_0
                                try clear hfz32_1
                                try clear hfz32_2
                                try clear hfz40_0
                                try clear hfz40_1
                                try clear hfz40_2
                                try clear hfz42_0
                                try clear hfz42_1
                                try clear hfz42_2
                                try clear hfz44_0
                                try clear hfz44_1
                                try clear hfz44_2
                                try clear hfz51_0
                                try clear hfz51_1
                                try clear hfz51_2
                                try clear hfz53_0
                                try clear hfz53_1
                                try clear hfz53_2
                                try clear hfz54_0
                                try clear hfz54_1
                                try clear hfz54_2
                                try clear hfz65_0
                                try clear hfz65_1
                                try clear hfz65_2
                                try clear hfz66_0
                                try clear hfz66_1
                                try clear hfz66_2
                                try clear hfz67_0
                                try clear hfz67_1
                                try clear hfz67_2
                                try clear p2
                                try clear p6
                                try clear p64
                                obtain ⟨kq, x215_82, rfl, HA, HJ82, BK496, HB⟩ := hcut
                                cases kq with
                                | zero => exact absurd HA.out (by simp [silkwormlaw01_LogicParts.j6])
                                | succ kj82 =>
                                  have H := HA.out
                                  clear HA
                                  simp only [silkwormlaw01_LogicParts.j6] at H
                                  by_cases c85 : x215_82 = true
                                  · subst c85
                                    have H1 : (some false) = some r := by rw [if_pos rfl] at H; exact H
                                    clear H
                                    have H := H1
                                    clear H1
                                    obtain rfl := Option.some.inj H
                                    go_wp2
                                    go_ret
                                    exact ⟨by first | rfl | (simp [errW_none, errW_some] <;> rfl) | (simp [*, errW_none, errW_some] <;> rfl), by repeat (first | (with_reducible first | exact HB.out | apply below_alloc | apply pw_below_drewN | apply below_drew1 | refine below_set ?_ GE496.out) | exact HB.out)⟩
                                  · replace c85 := Bool.eq_false_iff.mpr c85
                                    subst c85
                                    have H1 : ((silkwormref01_Truth.f kj82 a0).bind fun t516 => (if t505 = t516 then (if t506 = 0 then ((silkwormlaw01_awake.f kj82).bind fun t517 => (some t517)) else (some false)) else (some false))) = some r := by rw [if_neg (show ¬ (false = true) by decide)] at H; exact H
                                    clear H
                                    have H := H1
                                    clear H1
                                    replace H := Option.bind_eq_some_iff.mp H
                                    obtain ⟨t516, A860, H⟩ := H
                                    replace H : (if t505 = t516 then (if t506 = 0 then ((silkwormlaw01_awake.f kj82).bind fun t517 => (some t517)) else (some false)) else (some false)) = some r := H
                                    have A86 := Aside0.mk A860
                                    clear A860
                                    by_cases c87 : t505 = t516
                                    · rw [if_pos c87] at H
                                      have c87b0 : (t505 == t516) = true := beq_iff_eq.mpr c87
                                      have c87b1 : (t505 != t516) = false := bne_eq_false_iff_eq.mpr c87
                                      clear c87
                                      by_cases c88 : t506 = 0
                                      · rw [if_pos c88] at H
                                        have c88b0 : (t506 == 0) = true := beq_iff_eq.mpr c88
                                        have c88b1 : (t506 != 0) = false := bne_eq_false_iff_eq.mpr c88
                                        clear c88
                                        replace H := Option.bind_eq_some_iff.mp H
                                        obtain ⟨t517, A890, H⟩ := H
                                        replace H : (some t517) = some r := H
                                        have A89 := Aside0.mk A890
                                        clear A890
                                        obtain rfl := Option.some.inj H
                                        go_wp2_with (first | ((with_reducible refine gate_callee (f := 39) rfl ?_); refine goesL_ (some 227) rfl rfl Tryd.func39 (by kernel_rfl) rfl #[.string a0] rfl (by (try simp only [List.map_toArray, List.map_cons, List.map_nil]); first | done | rfl | (simp only [List.length_drop, List.length_take]; rfl)) ?_; (with_reducible refine (silkwormref01_Truth.calls kj82 a0 t516 _ A86.out).mono ?_); rintro e w' ⟨rfl, ⟨nd, rfl⟩⟩; refine ⟨_, rfl, ?_⟩) | (go_at_call 19; (with_reducible refine (silkwormlaw01_awake.calls kj82  t517 _ A89.out).mono ?_); rintro e w90 ⟨rfl, hb⟩; have n0_ := Aside0.mk (blk_below (g := gb496) (o := .cells #[.int .i64 a2_0, .int .i64 a2_1, .int .i64 a2_2] 52 (0, 0)) (by (with_reducible repeat (first | refine blk_drewN ?_ _ | refine blk_drew ?_ | refine blk_alloc ?_ _)); exact BK496.out) hb); have n1_ := Aside0.mk (below_step (by repeat (first | (with_reducible first | exact HB.out | apply below_alloc | apply pw_below_drewN | apply below_drew1 | refine below_set ?_ GE496.out) | exact HB.out)) hb); clear BK496; clear HB; have BK496 := n0_; have HB := n1_; clear n0_ n1_; (try clear hb); (try clear hb2); (try clear hk); (try clear hi)))
                                        go_ret
                                        exact ⟨by first | rfl | (simp [errW_none, errW_some] <;> rfl) | (simp [*, errW_none, errW_some] <;> rfl), by repeat (first | (with_reducible first | exact HB.out | apply below_alloc | apply pw_below_drewN | apply below_drew1 | refine below_set ?_ GE496.out) | exact HB.out)⟩
                                      · rw [if_neg c88] at H
                                        have c88b0 : (t506 == 0) = false := beq_eq_false_iff_ne.mpr c88
                                        have c88b1 : (t506 != 0) = true := bne_iff_ne.mpr c88
                                        obtain rfl := Option.some.inj H
                                        go_wp2_with (first | ((with_reducible refine gate_callee (f := 39) rfl ?_); refine goesL_ (some 227) rfl rfl Tryd.func39 (by kernel_rfl) rfl #[.string a0] rfl (by (try simp only [List.map_toArray, List.map_cons, List.map_nil]); first | done | rfl | (simp only [List.length_drop, List.length_take]; rfl)) ?_; (with_reducible refine (silkwormref01_Truth.calls kj82 a0 t516 _ A86.out).mono ?_); rintro e w' ⟨rfl, ⟨nd, rfl⟩⟩; refine ⟨_, rfl, ?_⟩))
                                        go_ret
                                        exact ⟨by first | rfl | (simp [errW_none, errW_some] <;> rfl) | (simp [*, errW_none, errW_some] <;> rfl), by repeat (first | (with_reducible first | exact HB.out | apply below_alloc | apply pw_below_drewN | apply below_drew1 | refine below_set ?_ GE496.out) | exact HB.out)⟩
                                    · rw [if_neg c87] at H
                                      have c87b0 : (t505 == t516) = false := beq_eq_false_iff_ne.mpr c87
                                      have c87b1 : (t505 != t516) = true := bne_iff_ne.mpr c87
                                      obtain rfl := Option.some.inj H
                                      go_wp2_with (first | ((with_reducible refine gate_callee (f := 39) rfl ?_); refine goesL_ (some 227) rfl rfl Tryd.func39 (by kernel_rfl) rfl #[.string a0] rfl (by (try simp only [List.map_toArray, List.map_cons, List.map_nil]); first | done | rfl | (simp only [List.length_drop, List.length_take]; rfl)) ?_; (with_reducible refine (silkwormref01_Truth.calls kj82 a0 t516 _ A86.out).mono ?_); rintro e w' ⟨rfl, ⟨nd, rfl⟩⟩; refine ⟨_, rfl, ?_⟩))
                                      go_ret
                                      exact ⟨by first | rfl | (simp [errW_none, errW_some] <;> rfl) | (simp [*, errW_none, errW_some] <;> rfl), by repeat (first | (with_reducible first | exact HB.out | apply below_alloc | apply pw_below_drewN | apply below_drew1 | refine below_set ?_ GE496.out) | exact HB.out)⟩
                            · rw [if_neg c82] at H
                              have c82b0 : decide (t515 < 0) = false := decide_eq_false c82
                              clear c82
                              have HC91 := Aside0.mk H
                              clear H
                              go_upto_region 35 with (first | ((with_reducible refine gate_callee (f := 22) rfl ?_); refine goesL_ (some 198) rfl rfl Tryd.func22 (by kernel_rfl) rfl #[.string a0] rfl (by (try simp only [List.map_toArray, List.map_cons, List.map_nil]); first | done | rfl | (simp only [List.length_drop, List.length_take]; rfl)) ?_; (with_reducible refine (silkwormref01_Known.calls kj68 a0 true _ A79.out).mono ?_); rintro e w' ⟨rfl, ⟨nd, rfl⟩⟩; refine ⟨_, rfl, ?_⟩) | ((with_reducible refine gate_callee (f := 38) rfl ?_); refine goesL_ (some 208) rfl rfl Tryd.func38 (by kernel_rfl) rfl #[.string a0] rfl (by (try simp only [List.map_toArray, List.map_cons, List.map_nil]); first | done | rfl | (simp only [List.length_drop, List.length_take]; rfl)) ?_; (with_reducible refine (silkwormref01_Number.calls kj68 a0 t515 _ A81.out).mono ?_); rintro e w' ⟨rfl, ⟨nd, rfl⟩⟩; refine ⟨_, rfl, ?_⟩))
                              (try simp only [Act.put, List.setIfInBounds_toArray, List.set_cons_zero, List.set_cons_succ])
                              go_cut [216] (fun v216 wc => ∃ (kq : Nat) (x216_90 : Bool), v216 = .bool x216_90 ∧ Aside0 (silkwormlaw01_LogicParts.j7 kq a0 t505 t506 x216_90 = some r) ∧ Aside0 (kq ≤ kj68) ∧ Aside0 (wc.heap[gb496]? = some (.cells #[.int .i64 a2_0, .int .i64 a2_1, .int .i64 a2_2] 52 (0, 0))) ∧ Aside0 (Below w.heap.size w wc))
                              case first => as_aux_lemma =>
                                have H := HC91.out
                                clear HC91
                                replace H := Option.bind_eq_some_iff.mp H
                                obtain ⟨t518, A920, H⟩ := H
                                replace H : (if t503 = t518 then (silkwormlaw01_LogicParts.j7 kj68 a0 t505 t506 (t504 != 0)) else (silkwormlaw01_LogicParts.j7 kj68 a0 t505 t506 true)) = some r := H
                                have A92 := Aside0.mk A920
                                clear A920
                                by_cases c93 : t503 = t518
                                · rw [if_pos c93] at H
                                  have c93b0 : (t503 == t518) = true := beq_iff_eq.mpr c93
                                  have c93b1 : (t503 != t518) = false := bne_eq_false_iff_eq.mpr c93
                                  clear c93
                                  (first | rw [c93b0] | (simp only [i64_w, i32_w]; rw [c93b0]) | skip)
                                  have H' := Aside0.mk H
                                  clear H
                                  go_wp2_with (first | ((with_reducible refine gate_callee (f := 38) rfl ?_); refine goesL_ (some 219) rfl rfl Tryd.func38 (by kernel_rfl) rfl #[.string a0] rfl (by (try simp only [List.map_toArray, List.map_cons, List.map_nil]); first | done | rfl | (simp only [List.length_drop, List.length_take]; rfl)) ?_; (with_reducible refine (silkwormref01_Number.calls kj68 a0 t518 _ A92.out).mono ?_); rintro e w' ⟨rfl, ⟨nd, rfl⟩⟩; refine ⟨_, rfl, ?_⟩))
                                  go_meet
                                  case rel => exact ⟨_, ((t504 != 0)), (by first | rfl | (simp; done) | (simp [*]; done)), H', ⟨by have := HJ9.out; have := HJ27.out; have := HJ48.out; have := HJ54.out; have := HJ68.out; first | omega | exact Nat.le_refl _⟩, ⟨by (with_reducible repeat (first | refine blk_drewN ?_ _ | refine blk_drew ?_ | refine blk_alloc ?_ _)); exact BK496.out⟩, ⟨by repeat (first | (with_reducible first | exact HB.out | apply below_alloc | apply pw_below_drewN | apply below_drew1 | refine below_set ?_ GE496.out) | exact HB.out)⟩⟩
                                · rw [if_neg c93] at H
                                  have c93b0 : (t503 == t518) = false := beq_eq_false_iff_ne.mpr c93
                                  have c93b1 : (t503 != t518) = true := bne_iff_ne.mpr c93
                                  (first | rw [c93b0] | (simp only [i64_w, i32_w]; rw [c93b0]) | skip)
                                  have H' := Aside0.mk H
                                  clear H
                                  go_wp2_with (first | ((with_reducible refine gate_callee (f := 38) rfl ?_); refine goesL_ (some 219) rfl rfl Tryd.func38 (by kernel_rfl) rfl #[.string a0] rfl (by (try simp only [List.map_toArray, List.map_cons, List.map_nil]); first | done | rfl | (simp only [List.length_drop, List.length_take]; rfl)) ?_; (with_reducible refine (silkwormref01_Number.calls kj68 a0 t518 _ A92.out).mono ?_); rintro e w' ⟨rfl, ⟨nd, rfl⟩⟩; refine ⟨_, rfl, ?_⟩))
                                  go_meet
                                  case rel => exact ⟨_, (true), (by first | rfl | (simp; done) | (simp [*]; done)), H', ⟨by have := HJ9.out; have := HJ27.out; have := HJ48.out; have := HJ54.out; have := HJ68.out; first | omega | exact Nat.le_refl _⟩, ⟨by (with_reducible repeat (first | refine blk_drewN ?_ _ | refine blk_drew ?_ | refine blk_alloc ?_ _)); exact BK496.out⟩, ⟨by repeat (first | (with_reducible first | exact HB.out | apply below_alloc | apply pw_below_drewN | apply below_drew1 | refine below_set ?_ GE496.out) | exact HB.out)⟩⟩
                              case rest => as_aux_lemma =>
                                clear HC91
                                try clear c1
                                try clear c2
                                try clear p2
                                try clear c3
                                try clear c4
                                try clear c5
                                try clear c6
                                try clear p6
                                try clear c7
                                try clear c8
                                try clear c9
                                try clear c14
                                try clear c17
                                try clear c20
                                try clear c20b0
                                try clear c20b1
                                try clear c20b2
                                try clear c22
                                try clear c27
                                try clear c30
                                try clear c30b0
                                try clear c32
                                try clear c33
                                try clear c34
                                try clear c34b0
                                try clear c34b1
                                try clear c35
                                try clear c35b0
                                try clear c35b1
                                try clear c36
                                try clear c37
                                try clear c38
                                try clear c38b0
                                try clear c38b1
                                try clear c39
                                try clear c39b0
                                try clear c39b1
                                try clear c46
                                try clear c46b0
                                try clear c46b1
                                try clear c47
                                try clear c47b0
                                try clear c47b1
                                try clear c48
                                try clear c50
                                try clear c50b0
                                try clear c52
                                try clear c52b0
                                try clear c56
                                try clear c57
                                try clear c57b0
                                try clear c57b1
                                try clear c58
                                try clear c58b0
                                try clear c58b1
                                try clear c60
                                try clear c60b0
                                try clear c60b1
                                try clear c61
                                try clear c61b0
                                try clear c61b1
                                try clear c62
                                try clear c62b0
                                try clear c62b1
                                try clear c63
                                try clear c63b0
                                try clear c63b1
                                try clear c64
                                try clear c64b0
                                try clear c64b1
                                try clear p64
                                try clear c70
                                try clear c72
                                try clear c72b0
                                try clear c72b1
                                try clear c73
                                try clear c73b0
                                try clear c73b1
                                try clear c77
                                try clear c77b0
                                try clear c77b1
                                try clear c78
                                try clear c78b0
                                try clear c78b1
                                try clear c80
                                try clear c82
                                try clear c82b0
                                try clear c84
                                try clear c84b0
                                try clear c84b1
                                try clear c85
                                try clear c87
                                try clear c87b0
                                try clear c87b1
                                try clear c88
                                try clear c88b0
                                try clear c88b1
                                try clear c93
                                try clear c93b0
                                try clear c93b1
                                try clear hcz12_0
                                try clear hcz12_1
                                try clear hcz12_2
                                try clear hcz14_0
                                try clear hcz14_1
                                try clear hcz14_2
                                try clear hcz31_0
                                try clear hcz31_1
                                try clear hcz31_2
                                try clear hcz32_0
                                try clear hcz32_1
                                try clear hcz32_2
                                try clear hcz40_0
                                try clear hcz40_1
                                try clear hcz40_2
                                try clear hcz42_0
                                try clear hcz42_1
                                try clear hcz42_2
                                try clear hcz44_0
                                try clear hcz44_1
                                try clear hcz44_2
                                try clear hcz51_0
                                try clear hcz51_1
                                try clear hcz51_2
                                try clear hcz53_0
                                try clear hcz53_1
                                try clear hcz53_2
                                try clear hcz54_0
                                try clear hcz54_1
                                try clear hcz54_2
                                try clear hcz65_0
                                try clear hcz65_1
                                try clear hcz65_2
                                try clear hcz66_0
                                try clear hcz66_1
                                try clear hcz66_2
                                try clear hcz67_0
                                try clear hcz67_1
                                try clear hcz67_2
                                try clear hfz12_0
                                try clear hfz12_1
                                try clear hfz12_2
                                try clear hfz14_0
                                try clear hfz14_1
                                try clear hfz14_2
                                try clear hfz31_0
                                try clear hfz31_1
                                try clear hfz31_2
                                try clear hfz32_0
                                try clear hfz32_1
                                try clear hfz32_2
                                try clear hfz40_0
                                try clear hfz40_1
                                try clear hfz40_2
                                try clear hfz42_0
                                try clear hfz42_1
                                try clear hfz42_2
                                try clear hfz44_0
                                try clear hfz44_1
                                try clear hfz44_2
                                try clear hfz51_0
                                try clear hfz51_1
                                try clear hfz51_2
                                try clear hfz53_0
                                try clear hfz53_1
                                try clear hfz53_2
                                try clear hfz54_0
                                try clear hfz54_1
                                try clear hfz54_2
                                try clear hfz65_0
                                try clear hfz65_1
                                try clear hfz65_2
                                try clear hfz66_0
                                try clear hfz66_1
                                try clear hfz66_2
                                try clear hfz67_0
                                try clear hfz67_1
                                try clear hfz67_2
                                try clear p2
                                try clear p6
                                try clear p64
                                obtain ⟨kq, x216_90, rfl, HA, HJ90, BK496, HB⟩ := hcut
                                cases kq with
                                | zero => exact absurd HA.out (by simp [silkwormlaw01_LogicParts.j7])
                                | succ kj90 =>
                                  have H := HA.out
                                  clear HA
                                  simp only [silkwormlaw01_LogicParts.j7] at H
                                  by_cases c94 : x216_90 = true
                                  · subst c94
                                    have H1 : (some false) = some r := by rw [if_pos rfl] at H; exact H
                                    clear H
                                    have H := H1
                                    clear H1
                                    obtain rfl := Option.some.inj H
                                    go_wp2
                                    go_ret
                                    exact ⟨by first | rfl | (simp [errW_none, errW_some] <;> rfl) | (simp [*, errW_none, errW_some] <;> rfl), by repeat (first | (with_reducible first | exact HB.out | apply below_alloc | apply pw_below_drewN | apply below_drew1 | refine below_set ?_ GE496.out) | exact HB.out)⟩
                                  · replace c94 := Bool.eq_false_iff.mpr c94
                                    subst c94
                                    have H1 : ((silkwormref01_Truth.f kj90 a0).bind fun t519 => (if t505 = t519 then (if t506 = 0 then ((silkwormlaw01_awake.f kj90).bind fun t520 => (some t520)) else (some false)) else (some false))) = some r := by rw [if_neg (show ¬ (false = true) by decide)] at H; exact H
                                    clear H
                                    have H := H1
                                    clear H1
                                    replace H := Option.bind_eq_some_iff.mp H
                                    obtain ⟨t519, A950, H⟩ := H
                                    replace H : (if t505 = t519 then (if t506 = 0 then ((silkwormlaw01_awake.f kj90).bind fun t520 => (some t520)) else (some false)) else (some false)) = some r := H
                                    have A95 := Aside0.mk A950
                                    clear A950
                                    by_cases c96 : t505 = t519
                                    · rw [if_pos c96] at H
                                      have c96b0 : (t505 == t519) = true := beq_iff_eq.mpr c96
                                      have c96b1 : (t505 != t519) = false := bne_eq_false_iff_eq.mpr c96
                                      clear c96
                                      by_cases c97 : t506 = 0
                                      · rw [if_pos c97] at H
                                        have c97b0 : (t506 == 0) = true := beq_iff_eq.mpr c97
                                        have c97b1 : (t506 != 0) = false := bne_eq_false_iff_eq.mpr c97
                                        clear c97
                                        replace H := Option.bind_eq_some_iff.mp H
                                        obtain ⟨t520, A980, H⟩ := H
                                        replace H : (some t520) = some r := H
                                        have A98 := Aside0.mk A980
                                        clear A980
                                        obtain rfl := Option.some.inj H
                                        go_wp2_with (first | ((with_reducible refine gate_callee (f := 39) rfl ?_); refine goesL_ (some 227) rfl rfl Tryd.func39 (by kernel_rfl) rfl #[.string a0] rfl (by (try simp only [List.map_toArray, List.map_cons, List.map_nil]); first | done | rfl | (simp only [List.length_drop, List.length_take]; rfl)) ?_; (with_reducible refine (silkwormref01_Truth.calls kj90 a0 t519 _ A95.out).mono ?_); rintro e w' ⟨rfl, ⟨nd, rfl⟩⟩; refine ⟨_, rfl, ?_⟩) | (go_at_call 19; (with_reducible refine (silkwormlaw01_awake.calls kj90  t520 _ A98.out).mono ?_); rintro e w99 ⟨rfl, hb⟩; have n0_ := Aside0.mk (blk_below (g := gb496) (o := .cells #[.int .i64 a2_0, .int .i64 a2_1, .int .i64 a2_2] 52 (0, 0)) (by (with_reducible repeat (first | refine blk_drewN ?_ _ | refine blk_drew ?_ | refine blk_alloc ?_ _)); exact BK496.out) hb); have n1_ := Aside0.mk (below_step (by repeat (first | (with_reducible first | exact HB.out | apply below_alloc | apply pw_below_drewN | apply below_drew1 | refine below_set ?_ GE496.out) | exact HB.out)) hb); clear BK496; clear HB; have BK496 := n0_; have HB := n1_; clear n0_ n1_; (try clear hb); (try clear hb2); (try clear hk); (try clear hi)))
                                        go_ret
                                        exact ⟨by first | rfl | (simp [errW_none, errW_some] <;> rfl) | (simp [*, errW_none, errW_some] <;> rfl), by repeat (first | (with_reducible first | exact HB.out | apply below_alloc | apply pw_below_drewN | apply below_drew1 | refine below_set ?_ GE496.out) | exact HB.out)⟩
                                      · rw [if_neg c97] at H
                                        have c97b0 : (t506 == 0) = false := beq_eq_false_iff_ne.mpr c97
                                        have c97b1 : (t506 != 0) = true := bne_iff_ne.mpr c97
                                        obtain rfl := Option.some.inj H
                                        go_wp2_with (first | ((with_reducible refine gate_callee (f := 39) rfl ?_); refine goesL_ (some 227) rfl rfl Tryd.func39 (by kernel_rfl) rfl #[.string a0] rfl (by (try simp only [List.map_toArray, List.map_cons, List.map_nil]); first | done | rfl | (simp only [List.length_drop, List.length_take]; rfl)) ?_; (with_reducible refine (silkwormref01_Truth.calls kj90 a0 t519 _ A95.out).mono ?_); rintro e w' ⟨rfl, ⟨nd, rfl⟩⟩; refine ⟨_, rfl, ?_⟩))
                                        go_ret
                                        exact ⟨by first | rfl | (simp [errW_none, errW_some] <;> rfl) | (simp [*, errW_none, errW_some] <;> rfl), by repeat (first | (with_reducible first | exact HB.out | apply below_alloc | apply pw_below_drewN | apply below_drew1 | refine below_set ?_ GE496.out) | exact HB.out)⟩
                                    · rw [if_neg c96] at H
                                      have c96b0 : (t505 == t519) = false := beq_eq_false_iff_ne.mpr c96
                                      have c96b1 : (t505 != t519) = true := bne_iff_ne.mpr c96
                                      obtain rfl := Option.some.inj H
                                      go_wp2_with (first | ((with_reducible refine gate_callee (f := 39) rfl ?_); refine goesL_ (some 227) rfl rfl Tryd.func39 (by kernel_rfl) rfl #[.string a0] rfl (by (try simp only [List.map_toArray, List.map_cons, List.map_nil]); first | done | rfl | (simp only [List.length_drop, List.length_take]; rfl)) ?_; (with_reducible refine (silkwormref01_Truth.calls kj90 a0 t519 _ A95.out).mono ?_); rintro e w' ⟨rfl, ⟨nd, rfl⟩⟩; refine ⟨_, rfl, ?_⟩))
                                      go_ret
                                      exact ⟨by first | rfl | (simp [errW_none, errW_some] <;> rfl) | (simp [*, errW_none, errW_some] <;> rfl), by repeat (first | (with_reducible first | exact HB.out | apply below_alloc | apply pw_below_drewN | apply below_drew1 | refine below_set ?_ GE496.out) | exact HB.out)⟩
                          · replace c80 := Bool.eq_false_iff.mpr c80
                            subst c80
                            have H1 : (if t503 = 0 then (silkwormlaw01_LogicParts.j8 kj68 a0 t505 t506 (t504 != 60)) else (silkwormlaw01_LogicParts.j8 kj68 a0 t505 t506 true)) = some r := by rw [if_neg (show ¬ (false = true) by decide)] at H; exact H
                            clear H
                            have H := H1
                            clear H1
                            have HC100 := Aside0.mk H
                            clear H
                            go_upto_region 30 with (first | ((with_reducible refine gate_callee (f := 22) rfl ?_); refine goesL_ (some 198) rfl rfl Tryd.func22 (by kernel_rfl) rfl #[.string a0] rfl (by (try simp only [List.map_toArray, List.map_cons, List.map_nil]); first | done | rfl | (simp only [List.length_drop, List.length_take]; rfl)) ?_; (with_reducible refine (silkwormref01_Known.calls kj68 a0 false _ A79.out).mono ?_); rintro e w' ⟨rfl, ⟨nd, rfl⟩⟩; refine ⟨_, rfl, ?_⟩))
                            (try simp only [Act.put, List.setIfInBounds_toArray, List.set_cons_zero, List.set_cons_succ])
                            go_cut [205] (fun v205 wc => ∃ (kq : Nat) (x205_99 : Bool), v205 = .bool x205_99 ∧ Aside0 (silkwormlaw01_LogicParts.j8 kq a0 t505 t506 x205_99 = some r) ∧ Aside0 (kq ≤ kj68) ∧ Aside0 (wc.heap[gb496]? = some (.cells #[.int .i64 a2_0, .int .i64 a2_1, .int .i64 a2_2] 52 (0, 0))) ∧ Aside0 (Below w.heap.size w wc))
                            case first => as_aux_lemma =>
                              have H := HC100.out
                              clear HC100
                              by_cases c101 : t503 = 0
                              · rw [if_pos c101] at H
                                have c101b0 : (t503 == 0) = true := beq_iff_eq.mpr c101
                                have c101b1 : (t503 != 0) = false := bne_eq_false_iff_eq.mpr c101
                                clear c101
                                (first | rw [c101b0] | (simp only [i64_w, i32_w]; rw [c101b0]) | skip)
                                have H' := Aside0.mk H
                                clear H
                                go_wp2
                                go_meet
                                case rel => exact ⟨_, ((t504 != 60)), (by first | rfl | (simp; done) | (simp [*]; done)), H', ⟨by have := HJ9.out; have := HJ27.out; have := HJ48.out; have := HJ54.out; have := HJ68.out; first | omega | exact Nat.le_refl _⟩, ⟨by (with_reducible repeat (first | refine blk_drewN ?_ _ | refine blk_drew ?_ | refine blk_alloc ?_ _)); exact BK496.out⟩, ⟨by repeat (first | (with_reducible first | exact HB.out | apply below_alloc | apply pw_below_drewN | apply below_drew1 | refine below_set ?_ GE496.out) | exact HB.out)⟩⟩
                              · rw [if_neg c101] at H
                                have c101b0 : (t503 == 0) = false := beq_eq_false_iff_ne.mpr c101
                                have c101b1 : (t503 != 0) = true := bne_iff_ne.mpr c101
                                (first | rw [c101b0] | (simp only [i64_w, i32_w]; rw [c101b0]) | skip)
                                have H' := Aside0.mk H
                                clear H
                                go_wp2
                                go_meet
                                case rel => exact ⟨_, (true), (by first | rfl | (simp; done) | (simp [*]; done)), H', ⟨by have := HJ9.out; have := HJ27.out; have := HJ48.out; have := HJ54.out; have := HJ68.out; first | omega | exact Nat.le_refl _⟩, ⟨by (with_reducible repeat (first | refine blk_drewN ?_ _ | refine blk_drew ?_ | refine blk_alloc ?_ _)); exact BK496.out⟩, ⟨by repeat (first | (with_reducible first | exact HB.out | apply below_alloc | apply pw_below_drewN | apply below_drew1 | refine below_set ?_ GE496.out) | exact HB.out)⟩⟩
                            case rest => as_aux_lemma =>
                              clear HC100
                              try clear c1
                              try clear c2
                              try clear p2
                              try clear c3
                              try clear c4
                              try clear c5
                              try clear c6
                              try clear p6
                              try clear c7
                              try clear c8
                              try clear c9
                              try clear c10
                              try clear c14
                              try clear c17
                              try clear c20
                              try clear c20b0
                              try clear c20b1
                              try clear c20b2
                              try clear c22
                              try clear c27
                              try clear c30
                              try clear c30b0
                              try clear c32
                              try clear c33
                              try clear c34
                              try clear c34b0
                              try clear c34b1
                              try clear c35
                              try clear c35b0
                              try clear c35b1
                              try clear c36
                              try clear c37
                              try clear c38
                              try clear c38b0
                              try clear c38b1
                              try clear c39
                              try clear c39b0
                              try clear c39b1
                              try clear c46
                              try clear c46b0
                              try clear c46b1
                              try clear c47
                              try clear c47b0
                              try clear c47b1
                              try clear c48
                              try clear c50
                              try clear c50b0
                              try clear c52
                              try clear c52b0
                              try clear c56
                              try clear c57
                              try clear c57b0
                              try clear c57b1
                              try clear c58
                              try clear c58b0
                              try clear c58b1
                              try clear c60
                              try clear c60b0
                              try clear c60b1
                              try clear c61
                              try clear c61b0
                              try clear c61b1
                              try clear c62
                              try clear c62b0
                              try clear c62b1
                              try clear c63
                              try clear c63b0
                              try clear c63b1
                              try clear c64
                              try clear c64b0
                              try clear c64b1
                              try clear p64
                              try clear c70
                              try clear c72
                              try clear c72b0
                              try clear c72b1
                              try clear c73
                              try clear c73b0
                              try clear c73b1
                              try clear c77
                              try clear c77b0
                              try clear c77b1
                              try clear c78
                              try clear c78b0
                              try clear c78b1
                              try clear c80
                              try clear c82
                              try clear c82b0
                              try clear c84
                              try clear c84b0
                              try clear c84b1
                              try clear c85
                              try clear c87
                              try clear c87b0
                              try clear c87b1
                              try clear c88
                              try clear c88b0
                              try clear c88b1
                              try clear c93
                              try clear c93b0
                              try clear c93b1
                              try clear c94
                              try clear c96
                              try clear c96b0
                              try clear c96b1
                              try clear c97
                              try clear c97b0
                              try clear c97b1
                              try clear c101
                              try clear c101b0
                              try clear c101b1
                              try clear hcz12_0
                              try clear hcz12_1
                              try clear hcz12_2
                              try clear hcz14_0
                              try clear hcz14_1
                              try clear hcz14_2
                              try clear hcz31_0
                              try clear hcz31_1
                              try clear hcz31_2
                              try clear hcz32_0
                              try clear hcz32_1
                              try clear hcz32_2
                              try clear hcz40_0
                              try clear hcz40_1
                              try clear hcz40_2
                              try clear hcz42_0
                              try clear hcz42_1
                              try clear hcz42_2
                              try clear hcz44_0
                              try clear hcz44_1
                              try clear hcz44_2
                              try clear hcz51_0
                              try clear hcz51_1
                              try clear hcz51_2
                              try clear hcz53_0
                              try clear hcz53_1
                              try clear hcz53_2
                              try clear hcz54_0
                              try clear hcz54_1
                              try clear hcz54_2
                              try clear hcz65_0
                              try clear hcz65_1
                              try clear hcz65_2
                              try clear hcz66_0
                              try clear hcz66_1
                              try clear hcz66_2
                              try clear hcz67_0
                              try clear hcz67_1
                              try clear hcz67_2
                              try clear hfz12_0
                              try clear hfz12_1
                              try clear hfz12_2
                              try clear hfz14_0
                              try clear hfz14_1
                              try clear hfz14_2
                              try clear hfz31_0
                              try clear hfz31_1
                              try clear hfz31_2
                              try clear hfz32_0
                              try clear hfz32_1
                              try clear hfz32_2
                              try clear hfz40_0
                              try clear hfz40_1
                              try clear hfz40_2
                              try clear hfz42_0
                              try clear hfz42_1
                              try clear hfz42_2
                              try clear hfz44_0
                              try clear hfz44_1
                              try clear hfz44_2
                              try clear hfz51_0
                              try clear hfz51_1
                              try clear hfz51_2
                              try clear hfz53_0
                              try clear hfz53_1
                              try clear hfz53_2
                              try clear hfz54_0
                              try clear hfz54_1
                              try clear hfz54_2
                              try clear hfz65_0
                              try clear hfz65_1
                              try clear hfz65_2
                              try clear hfz66_0
                              try clear hfz66_1
                              try clear hfz66_2
                              try clear hfz67_0
                              try clear hfz67_1
                              try clear hfz67_2
                              try clear p2
                              try clear p6
                              try clear p64
                              obtain ⟨kq, x205_99, rfl, HA, HJ99, BK496, HB⟩ := hcut
                              cases kq with
                              | zero => exact absurd HA.out (by simp [silkwormlaw01_LogicParts.j8])
                              | succ kj99 =>
                                have H := HA.out
                                clear HA
                                simp only [silkwormlaw01_LogicParts.j8] at H
                                by_cases c102 : x205_99 = true
                                · subst c102
                                  have H1 : (some false) = some r := by rw [if_pos rfl] at H; exact H
                                  clear H
                                  have H := H1
                                  clear H1
                                  obtain rfl := Option.some.inj H
                                  go_wp2
                                  go_ret
                                  exact ⟨by first | rfl | (simp [errW_none, errW_some] <;> rfl) | (simp [*, errW_none, errW_some] <;> rfl), by repeat (first | (with_reducible first | exact HB.out | apply below_alloc | apply pw_below_drewN | apply below_drew1 | refine below_set ?_ GE496.out) | exact HB.out)⟩
                                · replace c102 := Bool.eq_false_iff.mpr c102
                                  subst c102
                                  have H1 : ((silkwormref01_Truth.f kj99 a0).bind fun t521 => (if t505 = t521 then (if t506 = 0 then ((silkwormlaw01_awake.f kj99).bind fun t522 => (some t522)) else (some false)) else (some false))) = some r := by rw [if_neg (show ¬ (false = true) by decide)] at H; exact H
                                  clear H
                                  have H := H1
                                  clear H1
                                  replace H := Option.bind_eq_some_iff.mp H
                                  obtain ⟨t521, A1030, H⟩ := H
                                  replace H : (if t505 = t521 then (if t506 = 0 then ((silkwormlaw01_awake.f kj99).bind fun t522 => (some t522)) else (some false)) else (some false)) = some r := H
                                  have A103 := Aside0.mk A1030
                                  clear A1030
                                  by_cases c104 : t505 = t521
                                  · rw [if_pos c104] at H
                                    have c104b0 : (t505 == t521) = true := beq_iff_eq.mpr c104
                                    have c104b1 : (t505 != t521) = false := bne_eq_false_iff_eq.mpr c104
                                    clear c104
                                    by_cases c105 : t506 = 0
                                    · rw [if_pos c105] at H
                                      have c105b0 : (t506 == 0) = true := beq_iff_eq.mpr c105
                                      have c105b1 : (t506 != 0) = false := bne_eq_false_iff_eq.mpr c105
                                      clear c105
                                      replace H := Option.bind_eq_some_iff.mp H
                                      obtain ⟨t522, A1060, H⟩ := H
                                      replace H : (some t522) = some r := H
                                      have A106 := Aside0.mk A1060
                                      clear A1060
                                      obtain rfl := Option.some.inj H
                                      go_wp2_with (first | ((with_reducible refine gate_callee (f := 39) rfl ?_); refine goesL_ (some 227) rfl rfl Tryd.func39 (by kernel_rfl) rfl #[.string a0] rfl (by (try simp only [List.map_toArray, List.map_cons, List.map_nil]); first | done | rfl | (simp only [List.length_drop, List.length_take]; rfl)) ?_; (with_reducible refine (silkwormref01_Truth.calls kj99 a0 t521 _ A103.out).mono ?_); rintro e w' ⟨rfl, ⟨nd, rfl⟩⟩; refine ⟨_, rfl, ?_⟩) | (go_at_call 19; (with_reducible refine (silkwormlaw01_awake.calls kj99  t522 _ A106.out).mono ?_); rintro e w107 ⟨rfl, hb⟩; have n0_ := Aside0.mk (blk_below (g := gb496) (o := .cells #[.int .i64 a2_0, .int .i64 a2_1, .int .i64 a2_2] 52 (0, 0)) (by (with_reducible repeat (first | refine blk_drewN ?_ _ | refine blk_drew ?_ | refine blk_alloc ?_ _)); exact BK496.out) hb); have n1_ := Aside0.mk (below_step (by repeat (first | (with_reducible first | exact HB.out | apply below_alloc | apply pw_below_drewN | apply below_drew1 | refine below_set ?_ GE496.out) | exact HB.out)) hb); clear BK496; clear HB; have BK496 := n0_; have HB := n1_; clear n0_ n1_; (try clear hb); (try clear hb2); (try clear hk); (try clear hi)))
                                      go_ret
                                      exact ⟨by first | rfl | (simp [errW_none, errW_some] <;> rfl) | (simp [*, errW_none, errW_some] <;> rfl), by repeat (first | (with_reducible first | exact HB.out | apply below_alloc | apply pw_below_drewN | apply below_drew1 | refine below_set ?_ GE496.out) | exact HB.out)⟩
                                    · rw [if_neg c105] at H
                                      have c105b0 : (t506 == 0) = false := beq_eq_false_iff_ne.mpr c105
                                      have c105b1 : (t506 != 0) = true := bne_iff_ne.mpr c105
                                      obtain rfl := Option.some.inj H
                                      go_wp2_with (first | ((with_reducible refine gate_callee (f := 39) rfl ?_); refine goesL_ (some 227) rfl rfl Tryd.func39 (by kernel_rfl) rfl #[.string a0] rfl (by (try simp only [List.map_toArray, List.map_cons, List.map_nil]); first | done | rfl | (simp only [List.length_drop, List.length_take]; rfl)) ?_; (with_reducible refine (silkwormref01_Truth.calls kj99 a0 t521 _ A103.out).mono ?_); rintro e w' ⟨rfl, ⟨nd, rfl⟩⟩; refine ⟨_, rfl, ?_⟩))
                                      go_ret
                                      exact ⟨by first | rfl | (simp [errW_none, errW_some] <;> rfl) | (simp [*, errW_none, errW_some] <;> rfl), by repeat (first | (with_reducible first | exact HB.out | apply below_alloc | apply pw_below_drewN | apply below_drew1 | refine below_set ?_ GE496.out) | exact HB.out)⟩
                                  · rw [if_neg c104] at H
                                    have c104b0 : (t505 == t521) = false := beq_eq_false_iff_ne.mpr c104
                                    have c104b1 : (t505 != t521) = true := bne_iff_ne.mpr c104
                                    obtain rfl := Option.some.inj H
                                    go_wp2_with (first | ((with_reducible refine gate_callee (f := 39) rfl ?_); refine goesL_ (some 227) rfl rfl Tryd.func39 (by kernel_rfl) rfl #[.string a0] rfl (by (try simp only [List.map_toArray, List.map_cons, List.map_nil]); first | done | rfl | (simp only [List.length_drop, List.length_take]; rfl)) ?_; (with_reducible refine (silkwormref01_Truth.calls kj99 a0 t521 _ A103.out).mono ?_); rintro e w' ⟨rfl, ⟨nd, rfl⟩⟩; refine ⟨_, rfl, ?_⟩))
                                    go_ret
                                    exact ⟨by first | rfl | (simp [errW_none, errW_some] <;> rfl) | (simp [*, errW_none, errW_some] <;> rfl), by repeat (first | (with_reducible first | exact HB.out | apply below_alloc | apply pw_below_drewN | apply below_drew1 | refine below_set ?_ GE496.out) | exact HB.out)⟩
            · replace c48 := Bool.eq_false_iff.mpr c48
              subst c48
              have H1 : (if t499.toList = ([] : List UInt8) then (if t500 = 10 then (if t501.toList = ([] : List UInt8) then (if t502 = 10 then (if t503 = 0 then (if t504 = 10 then (if t505 = 0 then (if t506 = 10 then ((silkwormlaw01_awake.f kj27).bind fun t511 => (some t511)) else (some false)) else (some false)) else (some false)) else (some false)) else (some false)) else (some false)) else (some false)) else (some false)) = some r := by rw [if_neg (show ¬ (false = true) by decide)] at H; exact H
              clear H
              have H := H1
              clear H1
              by_cases c108 : t499.toList = ([] : List UInt8)
              · rw [if_pos c108] at H
                have c108b0 : (t499.toList == ([] : List UInt8)) = true := beq_iff_eq.mpr c108
                have c108b1 : (t499.toList != ([] : List UInt8)) = false := bne_eq_false_iff_eq.mpr c108
                clear c108
                by_cases c109 : t500 = 10
                · rw [if_pos c109] at H
                  have c109b0 : (t500 == 10) = true := beq_iff_eq.mpr c109
                  have c109b1 : (t500 != 10) = false := bne_eq_false_iff_eq.mpr c109
                  clear c109
                  by_cases c110 : t501.toList = ([] : List UInt8)
                  · rw [if_pos c110] at H
                    have c110b0 : (t501.toList == ([] : List UInt8)) = true := beq_iff_eq.mpr c110
                    have c110b1 : (t501.toList != ([] : List UInt8)) = false := bne_eq_false_iff_eq.mpr c110
                    clear c110
                    by_cases c111 : t502 = 10
                    · rw [if_pos c111] at H
                      have c111b0 : (t502 == 10) = true := beq_iff_eq.mpr c111
                      have c111b1 : (t502 != 10) = false := bne_eq_false_iff_eq.mpr c111
                      clear c111
                      by_cases c112 : t503 = 0
                      · rw [if_pos c112] at H
                        have c112b0 : (t503 == 0) = true := beq_iff_eq.mpr c112
                        have c112b1 : (t503 != 0) = false := bne_eq_false_iff_eq.mpr c112
                        clear c112
                        by_cases c113 : t504 = 10
                        · rw [if_pos c113] at H
                          have c113b0 : (t504 == 10) = true := beq_iff_eq.mpr c113
                          have c113b1 : (t504 != 10) = false := bne_eq_false_iff_eq.mpr c113
                          clear c113
                          by_cases c114 : t505 = 0
                          · rw [if_pos c114] at H
                            have c114b0 : (t505 == 0) = true := beq_iff_eq.mpr c114
                            have c114b1 : (t505 != 0) = false := bne_eq_false_iff_eq.mpr c114
                            clear c114
                            by_cases c115 : t506 = 10
                            · rw [if_pos c115] at H
                              have c115b0 : (t506 == 10) = true := beq_iff_eq.mpr c115
                              have c115b1 : (t506 != 10) = false := bne_eq_false_iff_eq.mpr c115
                              clear c115
                              replace H := Option.bind_eq_some_iff.mp H
                              obtain ⟨t511, A1160, H⟩ := H
                              replace H : (some t511) = some r := H
                              have A116 := Aside0.mk A1160
                              clear A1160
                              obtain rfl := Option.some.inj H
                              go_wp2_with (first | (go_at_call 19; (with_reducible refine (silkwormlaw01_awake.calls kj27  t511 _ A116.out).mono ?_); rintro e w117 ⟨rfl, hb⟩; have n0_ := Aside0.mk (blk_below (g := gb496) (o := .cells #[.int .i64 a2_0, .int .i64 a2_1, .int .i64 a2_2] 52 (0, 0)) (by (with_reducible repeat (first | refine blk_drewN ?_ _ | refine blk_drew ?_ | refine blk_alloc ?_ _)); exact BK496.out) hb); have n1_ := Aside0.mk (below_step (by repeat (first | (with_reducible first | exact HB.out | apply below_alloc | apply pw_below_drewN | apply below_drew1 | refine below_set ?_ GE496.out) | exact HB.out)) hb); clear BK496; clear HB; have BK496 := n0_; have HB := n1_; clear n0_ n1_; (try clear hb); (try clear hb2); (try clear hk); (try clear hi)))
                              go_ret
                              exact ⟨by first | rfl | (simp [errW_none, errW_some] <;> rfl) | (simp [*, errW_none, errW_some] <;> rfl), by repeat (first | (with_reducible first | exact HB.out | apply below_alloc | apply pw_below_drewN | apply below_drew1 | refine below_set ?_ GE496.out) | exact HB.out)⟩
                            · rw [if_neg c115] at H
                              have c115b0 : (t506 == 10) = false := beq_eq_false_iff_ne.mpr c115
                              have c115b1 : (t506 != 10) = true := bne_iff_ne.mpr c115
                              obtain rfl := Option.some.inj H
                              go_wp2
                              go_ret
                              exact ⟨by first | rfl | (simp [errW_none, errW_some] <;> rfl) | (simp [*, errW_none, errW_some] <;> rfl), by repeat (first | (with_reducible first | exact HB.out | apply below_alloc | apply pw_below_drewN | apply below_drew1 | refine below_set ?_ GE496.out) | exact HB.out)⟩
                          · rw [if_neg c114] at H
                            have c114b0 : (t505 == 0) = false := beq_eq_false_iff_ne.mpr c114
                            have c114b1 : (t505 != 0) = true := bne_iff_ne.mpr c114
                            obtain rfl := Option.some.inj H
                            go_wp2
                            go_ret
                            exact ⟨by first | rfl | (simp [errW_none, errW_some] <;> rfl) | (simp [*, errW_none, errW_some] <;> rfl), by repeat (first | (with_reducible first | exact HB.out | apply below_alloc | apply pw_below_drewN | apply below_drew1 | refine below_set ?_ GE496.out) | exact HB.out)⟩
                        · rw [if_neg c113] at H
                          have c113b0 : (t504 == 10) = false := beq_eq_false_iff_ne.mpr c113
                          have c113b1 : (t504 != 10) = true := bne_iff_ne.mpr c113
                          obtain rfl := Option.some.inj H
                          go_wp2
                          go_ret
                          exact ⟨by first | rfl | (simp [errW_none, errW_some] <;> rfl) | (simp [*, errW_none, errW_some] <;> rfl), by repeat (first | (with_reducible first | exact HB.out | apply below_alloc | apply pw_below_drewN | apply below_drew1 | refine below_set ?_ GE496.out) | exact HB.out)⟩
                      · rw [if_neg c112] at H
                        have c112b0 : (t503 == 0) = false := beq_eq_false_iff_ne.mpr c112
                        have c112b1 : (t503 != 0) = true := bne_iff_ne.mpr c112
                        obtain rfl := Option.some.inj H
                        go_wp2
                        go_ret
                        exact ⟨by first | rfl | (simp [errW_none, errW_some] <;> rfl) | (simp [*, errW_none, errW_some] <;> rfl), by repeat (first | (with_reducible first | exact HB.out | apply below_alloc | apply pw_below_drewN | apply below_drew1 | refine below_set ?_ GE496.out) | exact HB.out)⟩
                    · rw [if_neg c111] at H
                      have c111b0 : (t502 == 10) = false := beq_eq_false_iff_ne.mpr c111
                      have c111b1 : (t502 != 10) = true := bne_iff_ne.mpr c111
                      obtain rfl := Option.some.inj H
                      go_wp2
                      go_ret
                      exact ⟨by first | rfl | (simp [errW_none, errW_some] <;> rfl) | (simp [*, errW_none, errW_some] <;> rfl), by repeat (first | (with_reducible first | exact HB.out | apply below_alloc | apply pw_below_drewN | apply below_drew1 | refine below_set ?_ GE496.out) | exact HB.out)⟩
                  · rw [if_neg c110] at H
                    have c110b0 : (t501.toList == ([] : List UInt8)) = false := beq_eq_false_iff_ne.mpr c110
                    have c110b1 : (t501.toList != ([] : List UInt8)) = true := bne_iff_ne.mpr c110
                    obtain rfl := Option.some.inj H
                    go_wp2
                    go_ret
                    exact ⟨by first | rfl | (simp [errW_none, errW_some] <;> rfl) | (simp [*, errW_none, errW_some] <;> rfl), by repeat (first | (with_reducible first | exact HB.out | apply below_alloc | apply pw_below_drewN | apply below_drew1 | refine below_set ?_ GE496.out) | exact HB.out)⟩
                · rw [if_neg c109] at H
                  have c109b0 : (t500 == 10) = false := beq_eq_false_iff_ne.mpr c109
                  have c109b1 : (t500 != 10) = true := bne_iff_ne.mpr c109
                  obtain rfl := Option.some.inj H
                  go_wp2
                  go_ret
                  exact ⟨by first | rfl | (simp [errW_none, errW_some] <;> rfl) | (simp [*, errW_none, errW_some] <;> rfl), by repeat (first | (with_reducible first | exact HB.out | apply below_alloc | apply pw_below_drewN | apply below_drew1 | refine below_set ?_ GE496.out) | exact HB.out)⟩
              · rw [if_neg c108] at H
                have c108b0 : (t499.toList == ([] : List UInt8)) = false := beq_eq_false_iff_ne.mpr c108
                have c108b1 : (t499.toList != ([] : List UInt8)) = true := bne_iff_ne.mpr c108
                obtain rfl := Option.some.inj H
                go_wp2
                go_ret
                exact ⟨by first | rfl | (simp [errW_none, errW_some] <;> rfl) | (simp [*, errW_none, errW_some] <;> rfl), by repeat (first | (with_reducible first | exact HB.out | apply below_alloc | apply pw_below_drewN | apply below_drew1 | refine below_set ?_ GE496.out) | exact HB.out)⟩

end Go.Proofs.YtblhfodkbjdeoaaDoor.PLg
