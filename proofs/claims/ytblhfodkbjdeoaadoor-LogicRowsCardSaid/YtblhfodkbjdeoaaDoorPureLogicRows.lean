/- The pure statement of the law LogicRows. -/
import Derived.Test.YtblhfodkbjdeoaaDoorPureR
import Derived.Test.YtblhfodkbjdeoaaDoorPureU
import Derived.Test.YtblhfodkbjdeoaaDoorPLgx12
namespace Go.Proofs.YtblhfodkbjdeoaaDoor.Pure
open Go.RowKit Go.Proofs.YtblhfodkbjdeoaaDoorW.PrintWords Go.Proofs.YtblhfodkbjdeoaaDoorW.PrintLast Go.Proofs.YtblhfodkbjdeoaaDoorW.PrintMore Go.Proofs.YtblhfodkbjdeoaaDoor.Vec Go.Proofs.YtblhfodkbjdeoaaDoor.PLg Go.Proofs.YtblhfodkbjdeoaaDoor.PureL
set_option linter.unusedVariables false

theorem known_append (a b : List Int) : known (a ++ b) = (known a && known b) := by
  unfold known
  exact List.all_append
theorem known_fit {l : List Int} {w : Nat} (h : l.length ≤ w) : known (fit l w) = known l := by
  unfold fit
  by_cases hl : l.length < w
  · rw [if_pos hl, known_append, rep_known, Bool.true_and]
  · rw [if_neg hl, show l.length - w = 0 by omega, List.drop_zero]
theorem cmp_bin (op : Int) (a b : ByteArray) (va : isVec a = true) (vb : isVec b = true) (h1 : 17 ≤ op) (h2 : op ≤ 22) :
    binS op a b = (strOfNums (cmp op (fit (V a) (max (V a).length (V b).length)) (fit (V b) (max (V a).length (V b).length))), 0) := by
  unfold binS bin bin2
  rw [if_neg (by omega), if_pos ⟨va, vb⟩, if_neg (by omega), if_neg (by omega), if_neg (by omega), if_neg (by omega), if_neg (by omega), if_neg (by omega), if_neg (by omega)]
theorem tell_list (c : Bool) : (strOfNums [tell c]).toList = [if c = true then 49 else 48] := by cases c <;> decide +kernel
theorem x_list : (strOfNums [120]).toList = [120] := by decide +kernel

theorem rows_known (a b : ByteArray) (va : isVec a = true) (vb : isVec b = true) (hk : known (V (a ++ b)) = true) (r : Nat) (hr : r < 3) (c : Bool) (x7 : Int)
    (hp : binS (rd [17, 21, 19] (r : Int)) a b = (strOfNums [tell c], 0)) (hq : binS (rd [20, 22, 18] (r : Int)) a b = (strOfNums [tell (!c)], 0))
    (nx : Ev (fun k => silkwormlaw01_LogicRows.l0 k a b [17, 21, 19] [20, 22, 18] (if c = true then wrap64 (x7 + 1) else x7) ((r + 1 : Nat) : Int)) true) :
    Ev (fun k => silkwormlaw01_LogicRows.l0 k a b [17, 21, 19] [20, 22, 18] x7 (r : Int)) true := by
  have za := vec_size va
  have zb := vec_size vb
  refine Ev.step (fun k => silkwormlaw01_LogicRows.l0.eq_2 _ _ _ _ _ _ k) ?_
  have h3 : (r : Int) < 3 := by omega
  refine ev_pos h3 (ev_pos (by omega) (ev_pos (by simpa using h3) ?_))
  have ep := ev_binary (rd [17, 21, 19] (r : Int)) a b (by omega) (by omega)
  have eq := ev_binary (rd [20, 22, 18] (r : Int)) a b (by omega) (by omega)
  rw [hp] at ep
  rw [hq] at eq
  have ek := ev_Known (a ++ b) (by rw [ByteArray.size_append]; omega)
  rw [hk] at ek
  have e1 : wrap64 ((r : Int) + 1) = ((r + 1 : Nat) : Int) := by rw [w64_in (by omega) (by omega)]; rfl
  refine Ev.bind ep (ev_pos (by simpa using h3) (Ev.bind eq (ev_pos rfl (ev_pos rfl (ev_pos (by omega) (Ev.bind ek (ev_pos rfl (Ev.bind ek (ev_pos rfl ?_)))))))))
  have hne : ((strOfNums [tell c]).toList == (strOfNums [tell (!c)]).toList) = false := by rw [tell_list, tell_list]; cases c <;> decide
  dsimp only
  rw [hne]
  refine Ev.step (fun k => silkwormlaw01_LogicRows.j2.eq_2 _ _ _ _ _ _ _ _ k) (ev_neg (by decide) ?_)
  rw [tell_list, e1]
  cases c
  · exact ev_neg (by decide) nx
  · exact ev_pos rfl nx
theorem rows_unknown (a b : ByteArray) (va : isVec a = true) (vb : isVec b = true) (hk : known (V (a ++ b)) = false) (r : Nat) (hr : r < 3) (x7 : Int)
    (hp : binS (rd [17, 21, 19] (r : Int)) a b = (strOfNums [120], 0)) (hq : binS (rd [20, 22, 18] (r : Int)) a b = (strOfNums [120], 0))
    (nx : Ev (fun k => silkwormlaw01_LogicRows.l0 k a b [17, 21, 19] [20, 22, 18] x7 ((r + 1 : Nat) : Int)) true) :
    Ev (fun k => silkwormlaw01_LogicRows.l0 k a b [17, 21, 19] [20, 22, 18] x7 (r : Int)) true := by
  have za := vec_size va
  have zb := vec_size vb
  refine Ev.step (fun k => silkwormlaw01_LogicRows.l0.eq_2 _ _ _ _ _ _ k) ?_
  have h3 : (r : Int) < 3 := by omega
  refine ev_pos h3 (ev_pos (by omega) (ev_pos (by simpa using h3) ?_))
  have ep := ev_binary (rd [17, 21, 19] (r : Int)) a b (by omega) (by omega)
  have eq := ev_binary (rd [20, 22, 18] (r : Int)) a b (by omega) (by omega)
  rw [hp] at ep
  rw [hq] at eq
  have ek := ev_Known (a ++ b) (by rw [ByteArray.size_append]; omega)
  rw [hk] at ek
  have e1 : wrap64 ((r : Int) + 1) = ((r + 1 : Nat) : Int) := by rw [w64_in (by omega) (by omega)]; rfl
  refine Ev.bind ep (ev_pos (by simpa using h3) (Ev.bind eq (ev_pos rfl (ev_pos rfl (ev_pos (by omega) (Ev.bind ek (ev_neg (by decide) ?_)))))))
  refine ev_pos x_list (ev_pos x_list (Ev.bind ek (ev_neg (by decide) ?_)))
  refine Ev.step (fun k => silkwormlaw01_LogicRows.j2.eq_2 _ _ _ _ _ _ _ _ k) (ev_neg (by decide) ?_)
  rw [e1]
  exact ev_neg (by rw [x_list]; decide) nx
theorem rows_end (a b : ByteArray) (va : isVec a = true) (vb : isVec b = true) (x7 : Int) (h : ((x7 == 1) == known (V (a ++ b))) = true) :
    Ev (fun k => silkwormlaw01_LogicRows.l0 k a b [17, 21, 19] [20, 22, 18] x7 3) true := by
  have za := vec_size va
  have zb := vec_size vb
  refine Ev.step (fun k => silkwormlaw01_LogicRows.l0.eq_2 _ _ _ _ _ _ k) (ev_neg (by decide) (ev_pos (by omega) ?_))
  exact Ev.bind (ev_Known (a ++ b) (by rw [ByteArray.size_append]; omega)) (ev_pos h (ev_awake' rfl))

theorem LogicRows : silkwormlaw01_LogicRows.Pure := by
  intro a b wa wb
  suffices h : Ev (fun k => silkwormlaw01_LogicRows.f k a b) true from h.rounds
  unfold silkwormlaw01_LogicRows.f
  refine Ev.bind (ev_may a (by omega)) ?_
  by_cases va : isVec a = true
  rotate_left
  · exact ev_neg va (Ev.step (fun k => silkwormlaw01_LogicRows.j0.eq_2 _ _ _ k) (ev_pos rfl (ev_awake' rfl)))
  refine ev_pos va (Ev.bind (ev_may b (by omega)) ?_)
  by_cases vb : isVec b = true
  rotate_left
  · rw [Bool.not_eq_true] at vb
    rw [vb]
    exact Ev.step (fun k => silkwormlaw01_LogicRows.j0.eq_2 _ _ _ k) (ev_pos rfl (ev_awake' rfl))
  rw [vb]
  refine Ev.step (fun k => silkwormlaw01_LogicRows.j0.eq_2 _ _ _ k) (ev_neg (by decide) ?_)
  have hb : ∀ op : Int, 17 ≤ op → op ≤ 22 → _ := fun op h1 h2 => cmp_bin op a b va vb h1 h2
  generalize hA : fit (V a) (max (V a).length (V b).length) = A at hb
  generalize hB : fit (V b) (max (V a).length (V b).length) = B at hb
  have kA : known A = known (V a) := by rw [← hA]; exact known_fit (by omega)
  have kB : known B = known (V b) := by rw [← hB]; exact known_fit (by omega)
  have kab : known (V (a ++ b)) = (known A && known B) := by rw [kA, kB, ← known_append]; exact congrArg known (bytesOf_append a b)
  by_cases hk : known A = true ∧ known B = true
  · have hK : known (V (a ++ b)) = true := by rw [kab, hk.1, hk.2]; rfl
    have two : ∀ (p q : Int) (c : Bool), 17 ≤ p → p ≤ 22 → 17 ≤ q → q ≤ 22 → cmp p A B = [tell c] → cmp q A B = [tell (!c)] → binS p a b = (strOfNums [tell c], 0) ∧ binS q a b = (strOfNums [tell (!c)], 0) := by
      intro p q c p1 p2 q1 q2 hp hq
      rw [hb p p1 p2, hb q q1 q2, hp, hq]
      exact ⟨rfl, rfl⟩
    have c0 := two 17 20 (decide (numb A < numb B)) (by decide) (by decide) (by decide) (by decide) (cmp_known 17 hk.1 hk.2) ((cmp_known 20 hk.1 hk.2).trans (by
      rw [show (decide (numb B ≤ numb A)) = !decide (numb A < numb B) by rw [Bool.eq_iff_iff]; simp]; rfl))
    have c1 := two 21 22 (decide (numb A = numb B)) (by decide) (by decide) (by decide) (by decide) (cmp_known 21 hk.1 hk.2) (cmp_known 22 hk.1 hk.2)
    have c2 := two 19 18 (decide (numb B < numb A)) (by decide) (by decide) (by decide) (by decide) (cmp_known 19 hk.1 hk.2) ((cmp_known 18 hk.1 hk.2).trans (by
      rw [show (decide (numb A ≤ numb B)) = !decide (numb B < numb A) by rw [Bool.eq_iff_iff]; simp]; rfl))
    refine rows_known a b va vb hK 0 (by decide) _ 0 c0.1 c0.2 (rows_known a b va vb hK 1 (by decide) _ _ c1.1 c1.2 (rows_known a b va vb hK 2 (by decide) _ _ c2.1 c2.2 (rows_end a b va vb _ ?_)))
    rw [hK]
    have w0 : wrap64 (0 + 1) = 1 := w64_in (by decide) (by decide)
    have fin : ∀ (p q r : Bool), (p, q, r) = (true, false, false) ∨ (p, q, r) = (false, true, false) ∨ (p, q, r) = (false, false, true) →
        (((if r = true then wrap64 ((if q = true then wrap64 ((if p = true then wrap64 (0 + 1) else 0) + 1) else (if p = true then wrap64 (0 + 1) else 0)) + 1) else (if q = true then wrap64 ((if p = true then wrap64 (0 + 1) else 0) + 1) else (if p = true then wrap64 (0 + 1) else 0))) == (1 : Int)) == true) = true := by
      intro p q r ho
      rw [w0]
      rcases ho with e | e | e <;> cases e <;> first | rfl | (show ((wrap64 (0 + 1) == (1 : Int)) == true) = true; rw [w0]; rfl)
    refine fin _ _ _ ?_
    rcases Int.lt_trichotomy (numb A) (numb B) with h | h | h
    · rw [show decide (numb A < numb B) = true from decide_eq_true h, show decide (numb A = numb B) = false from decide_eq_false (by omega), show decide (numb B < numb A) = false from decide_eq_false (by omega)]
      exact .inl rfl
    · rw [show decide (numb A < numb B) = false from decide_eq_false (by omega), show decide (numb A = numb B) = true from decide_eq_true h, show decide (numb B < numb A) = false from decide_eq_false (by omega)]
      exact .inr (.inl rfl)
    · rw [show decide (numb A < numb B) = false from decide_eq_false (by omega), show decide (numb A = numb B) = false from decide_eq_false (by omega), show decide (numb B < numb A) = true from decide_eq_true h]
      exact .inr (.inr rfl)
  · have hK : known (V (a ++ b)) = false := by
      rw [kab]
      cases h1 : known A <;> cases h2 : known B <;> simp_all
    have one : ∀ (p : Int), 17 ≤ p → p ≤ 22 → binS p a b = (strOfNums [120], 0) := by
      intro p p1 p2
      rw [hb p p1 p2, cmp_unknown p hk]
    refine rows_unknown a b va vb hK 0 (by decide) 0 (one 17 (by decide) (by decide)) (one 20 (by decide) (by decide)) (rows_unknown a b va vb hK 1 (by decide) 0 (one 21 (by decide) (by decide)) (one 22 (by decide) (by decide))
      (rows_unknown a b va vb hK 2 (by decide) 0 (one 19 (by decide) (by decide)) (one 18 (by decide) (by decide)) (rows_end a b va vb 0 ?_)))
    rw [hK]
    rfl
end Go.Proofs.YtblhfodkbjdeoaaDoor.Pure
