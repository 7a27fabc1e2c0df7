/- What Rise answers, the program's and the reference's. -/
import Derived.Test.YtblhfodkbjdeoaaDoorPureR
import Derived.Test.YtblhfodkbjdeoaaDoorPLgx15
namespace Go.Proofs.YtblhfodkbjdeoaaDoor.PureL
open Go.RowKit Go.Proofs.YtblhfodkbjdeoaaDoorW.PrintWords Go.Proofs.YtblhfodkbjdeoaaDoorW.PrintLast Go.Proofs.YtblhfodkbjdeoaaDoorW.PrintMore Go.Proofs.YtblhfodkbjdeoaaDoor.Vec Go.Proofs.YtblhfodkbjdeoaaDoor.PLg
set_option linter.unusedVariables false

/-! ### Rise -/
def lastB (s : ByteArray) : Int := (V s).getD (s.size - 1) 0
def riseS (a b : ByteArray) : Bool := isVec a && isVec b && (if lastB a = 48 then lastB b != 48 else if lastB a = 49 then false else lastB b == 49)
theorem bt_last (s : ByteArray) (h : 1 ≤ s.size) (hs : s.size ≤ 256) : bt s (wrap64 ((s.size : Int) - 1)) = lastB s := by
  rw [w64_in (by omega) (by omega)]
  have : (s.size : Int) - 1 = ((s.size - 1 : Nat) : Int) := by omega
  rw [this, bt_V]
  rfl
theorem ev_rise (a b : ByteArray) (sa : a.size ≤ 140737488355328) (sb : b.size ≤ 140737488355328) : Ev (fun k => logic_Rise.f k a b) (riseS a b) := by
  unfold logic_Rise.f riseS
  refine Ev.bind (checks2 a b sa sb) ?_
  by_cases hv : isVec a = true ∧ isVec b = true
  · have za := vec_size hv.1
    have zb := vec_size hv.2
    rw [if_pos hv, hv.1, hv.2, bt_last a za.1 za.2, bt_last b zb.1 zb.2, w64_in (x := (a.size : Int) - 1) (by omega) (by omega), w64_in (x := (b.size : Int) - 1) (by omega) (by omega)]
    refine ev_pos rfl (ev_pos (by omega) (ev_pos (by omega) (ev_pos (by omega) (ev_pos (by omega) (ev_some fun _ => ?_)))))
    generalize lastB a = x
    generalize lastB b = y
    by_cases h0 : x = 48
    · simp [h0]
    by_cases h1 : x = 49
    · simp [h1]
    simp [h0, h1]
  · rw [if_neg hv]
    refine ev_neg (by decide) (ev_some fun _ => ?_)
    have : (isVec a && isVec b) = false := by
      rw [Bool.eq_false_iff, Ne, Bool.and_eq_true]
      exact hv
    rw [this, Bool.false_and]
theorem ev_Rise (a b : ByteArray) (sa : a.size ≤ 140737488355328) (sb : b.size ≤ 140737488355328) : Ev (fun k => silkwormref01_Rise.f k a b) (riseS a b) := by
  unfold silkwormref01_Rise.f riseS
  refine Ev.bind (ev_may a sa) ?_
  by_cases ha : isVec a = true
  · refine ev_pos ha (Ev.bind (ev_may b sb) ?_)
    by_cases hb : isVec b = true
    · have za := vec_size ha
      have zb := vec_size hb
      rw [ha, hb, bt_last a za.1 za.2, bt_last b zb.1 zb.2, w64_in (x := (a.size : Int) - 1) (by omega) (by omega), w64_in (x := (b.size : Int) - 1) (by omega) (by omega)]
      refine ev_pos rfl (ev_pos (by omega) (ev_pos (by omega) (ev_pos (by omega) (ev_pos (by omega) (ev_some fun _ => ?_)))))
      generalize lastB a = x
      generalize lastB b = y
      by_cases h0 : x = 48
      · by_cases h2 : y = 48 <;> simp [h0, h2]
      by_cases h1 : x = 49
      · simp [h1]
      simp [h0, h1]
    · refine ev_neg hb (ev_some fun _ => ?_)
      rw [Bool.not_eq_true] at hb
      rw [hb, Bool.and_false, Bool.false_and]
  · refine ev_neg ha (ev_some fun _ => ?_)
    rw [Bool.not_eq_true] at ha
    rw [ha, Bool.false_and, Bool.false_and]
end Go.Proofs.YtblhfodkbjdeoaaDoor.PureL
