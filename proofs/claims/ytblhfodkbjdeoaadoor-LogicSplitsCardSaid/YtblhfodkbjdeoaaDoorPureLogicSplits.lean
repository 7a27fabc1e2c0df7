/- What Part and Bit answer, and the pure statement of the law LogicSplits. -/
import Derived.Test.YtblhfodkbjdeoaaDoorPureR
import Derived.Test.YtblhfodkbjdeoaaDoorPureT
import Derived.Test.YtblhfodkbjdeoaaDoorPLgx23
namespace Go.Proofs.YtblhfodkbjdeoaaDoor.Pure
open Go.RowKit Go.Proofs.YtblhfodkbjdeoaaDoorW.PrintWords Go.Proofs.YtblhfodkbjdeoaaDoorW.PrintLast Go.Proofs.YtblhfodkbjdeoaaDoorW.PrintMore Go.Proofs.YtblhfodkbjdeoaaDoor.Vec Go.Proofs.YtblhfodkbjdeoaaDoor.PLg Go.Proofs.YtblhfodkbjdeoaaDoor.PureL
set_option linter.unusedVariables false

theorem part_of (a : ByteArray) (ha : isVec a = true) (h l : Nat) (h1 : l ≤ h) (h2 : h < a.size) : logic_Part.f a (h : Int) (l : Int) = some (a.extract (a.size - 1 - h) (a.size - l), 0) := by
  have za := vec_size ha
  unfold logic_Part.f
  rw [check a (by omega), Option.bind_some, if_pos ha, if_pos rfl, if_neg (by omega), if_neg (by omega), if_neg (by omega)]
  have e1 : wrap64 (wrap64 ((a.size : Int) - 1) - (h : Int)) = ((a.size - 1 - h : Nat) : Int) := by
    rw [w64_in (x := (a.size : Int) - 1) (by omega) (by omega), w64_in (by omega) (by omega)]; omega
  have e2 : wrap64 ((a.size : Int) - (l : Int)) = ((a.size - l : Nat) : Int) := by rw [w64_in (by omega) (by omega)]; omega
  rw [e1, e2, if_pos (by omega), if_pos (by omega), if_pos (by omega), Int.toNat_natCast, Int.toNat_natCast]
theorem bit_of (a : ByteArray) (ha : isVec a = true) (m : Nat) (hm : m < a.size) : Ev (fun k => logic_Bit.f k a (strOfNums (ofL 9 (m : Int)))) (a.extract (a.size - 1 - m) (a.size - m), 0) := by
  have za := vec_size ha
  have kb := ofL_known 9 (m : Int)
  have vb := V_str (known_bits kb)
  have hv : isVec (strOfNums (ofL 9 (m : Int))) = true := ofL_vec (by decide) (by decide) _
  have sb : (strOfNums (ofL 9 (m : Int))).size = 9 := by rw [str_size, ofL_length]
  unfold logic_Bit.f
  refine Ev.bind (checks2 a _ (by omega) (by omega)) ?_
  rw [if_pos ⟨ha, hv⟩]
  refine ev_pos rfl (ev_now (ev_known _ (vec_bits hv) (by omega)) ?_)
  rw [vb, kb]
  have en := ev_number (strOfNums (ofL 9 (m : Int))) (by rw [vb]; exact kb) (by omega) (a.size : Int) (by omega) (by omega)
  rw [vb, numb_ofL, show ((m : Int) % 2 ^ 9) = (m : Int) from Int.emod_eq_of_lt (by omega) (by omega), show min (m : Int) (a.size : Int) = (m : Int) by omega] at en
  refine ev_pos rfl (Ev.bind en (ev_neg (by omega) ?_))
  have e1 : wrap64 (wrap64 ((a.size : Int) - 1) - (m : Int)) = ((a.size - 1 - m : Nat) : Int) := by
    rw [w64_in (x := (a.size : Int) - 1) (by omega) (by omega), w64_in (by omega) (by omega)]; omega
  have e2 : wrap64 ((a.size : Int) - (m : Int)) = ((a.size - m : Nat) : Int) := by rw [w64_in (by omega) (by omega)]; omega
  rw [e1, e2, Int.toNat_natCast, Int.toNat_natCast]
  exact ev_pos (by omega) (ev_pos (by omega) (ev_pos (by omega) (ev_some fun _ => rfl)))
theorem whole (a : ByteArray) (i : Nat) (hi : i ≤ a.size) : a.extract 0 i ++ a.extract i a.size = a := by
  apply bytesOf_inj
  have e : (bytesOf a).take a.size = bytesOf a := List.take_of_length_le (by rw [← size_len]; exact Nat.le_refl _)
  rw [bytesOf_append, bytesOf_extract, bytesOf_extract, e, List.drop_zero, List.take_append_drop]
theorem all_of (a : ByteArray) : a.extract 0 a.size = a := by
  apply bytesOf_inj
  rw [bytesOf_extract, List.drop_zero, List.take_of_length_le (by rw [← size_len]; exact Nat.le_refl _)]
theorem bne_self' {l : List UInt8} : (l != l) = false := by simp
theorem splits_j0 (a : ByteArray) (ha : isVec a = true) (m : Nat) (hm : m < a.size) : Ev (fun k => silkwormlaw01_LogicSplits.j0 k a (a.size : Int) (m : Int)) true := by
  have za := vec_size ha
  have p1 := part_of a ha m 0 (by omega) hm
  have p2 := part_of a ha m m (by omega) hm
  have e0 : ((0 : Nat) : Int) = 0 := rfl
  rw [e0] at p1
  have e3 := ev_of (m : Int) 9
  have e3' : ofS (m : Int) 9 = (strOfNums (ofL 9 (m : Int)), 0) := by
    unfold ofS
    rw [if_neg (by omega)]
    rfl
  rw [e3'] at e3
  refine Ev.step (fun k => silkwormlaw01_LogicSplits.j0.eq_2 _ _ _ k) (ev_now p1 (ev_now p2 (Ev.bind e3 (Ev.bind (bit_of a ha m hm) (ev_pos rfl (ev_pos rfl (ev_pos rfl (ev_pos rfl ?_))))))))
  rw [bne_self']
  refine Ev.step (fun k => silkwormlaw01_LogicSplits.j1.eq_2 _ _ _ _ _ k) (ev_neg (by decide) ?_)
  have w1 : wrap64 ((a.size : Int) - 1) = ((a.size - 1 : Nat) : Int) := by rw [w64_in (by omega) (by omega)]; omega
  have w2 : wrap64 ((m : Int) + 1) = ((m + 1 : Nat) : Int) := by rw [w64_in (by omega) (by omega)]; rfl
  rw [w1, w2]
  by_cases hl : (m : Int) = ((a.size - 1 : Nat) : Int)
  · have hl' : m = a.size - 1 := by omega
    refine ev_pos hl (ev_pos ?_ (ev_awake' rfl))
    rw [show a.size - 1 - m = 0 by omega, Nat.sub_zero, all_of]
  · have p3 := part_of a ha (a.size - 1) (m + 1) (by omega) (by omega)
    refine ev_neg hl (ev_now p3 (ev_pos rfl (ev_pos ?_ (ev_pos ?_ (ev_awake' rfl)))))
    · simp only [ByteArray.size_extract]; omega
    · simp only []
      rw [show a.size - 1 - (a.size - 1) = 0 by omega, Nat.sub_zero, show a.size - (m + 1) = a.size - 1 - m by omega, whole a _ (by omega)]

theorem LogicSplits : silkwormlaw01_LogicSplits.Pure := by
  intro a n wa wn
  suffices h : Ev (fun k => silkwormlaw01_LogicSplits.f k a n) true from h.rounds
  unfold silkwormlaw01_LogicSplits.f
  refine Ev.bind (ev_may a (by omega)) ?_
  by_cases ha : isVec a = true
  rotate_left
  · exact ev_neg ha (ev_awake' rfl)
  have za := vec_size ha
  have hlt : (Int.tmod n (a.size : Int)).natAbs < a.size := by
    have := Int.natAbs_tmod n (a.size : Int)
    rw [this, Int.natAbs_natCast]
    exact Nat.mod_lt _ (by omega)
  refine ev_pos ha (ev_neg (by omega) ?_)
  by_cases hn : Int.tmod n (a.size : Int) < 0
  · refine ev_pos hn ?_
    have e : wrap64 (-(Int.tmod n (a.size : Int))) = (((Int.tmod n (a.size : Int)).natAbs : Nat) : Int) := by
      rw [w64_in (by omega) (by omega)]; omega
    rw [e]
    exact splits_j0 a ha _ hlt
  · refine ev_neg hn ?_
    have e : Int.tmod n (a.size : Int) = (((Int.tmod n (a.size : Int)).natAbs : Nat) : Int) := by omega
    rw [e]
    exact splits_j0 a ha _ hlt
end Go.Proofs.YtblhfodkbjdeoaaDoor.Pure
