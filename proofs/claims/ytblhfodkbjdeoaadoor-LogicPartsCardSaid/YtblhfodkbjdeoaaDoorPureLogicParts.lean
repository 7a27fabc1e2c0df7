/- What Fit, Part, Bit and Truth answer, the reference's Bit, and the pure statement of the law LogicParts. -/
import Derived.Test.YtblhfodkbjdeoaaDoorPureR
import Derived.Test.YtblhfodkbjdeoaaDoorPureT
import Derived.Test.YtblhfodkbjdeoaaDoorPLgx26
namespace Go.Proofs.YtblhfodkbjdeoaaDoor.Pure
open Go.RowKit Go.Proofs.YtblhfodkbjdeoaaDoorW.PrintWords Go.Proofs.YtblhfodkbjdeoaaDoor.Vec Go.Proofs.YtblhfodkbjdeoaaDoor.PLg Go.Proofs.YtblhfodkbjdeoaaDoor.PureL
set_option linter.unusedVariables false

def fitS (a : ByteArray) (n : Int) : ByteArray × Int := if n < 1 ∨ 256 < n then (⟨#[]⟩, 1) else if isVec a = true then (strOfNums (fit (V a) n.toNat), 0) else (⟨#[]⟩, 10)
theorem ev_FitL (a : ByteArray) (n : Int) (sa : a.size ≤ 140737488355328) : Ev (fun k => logic_Fit.f k a n) (fitS a n) := by
  unfold logic_Fit.f fitS
  have bad : Ev (fun k => logic_Fit.j0 k a n true) (⟨#[]⟩, 1) := Ev.step (fun k => logic_Fit.j0.eq_2 _ _ _ k) (ev_pos rfl (ev_some fun _ => rfl))
  by_cases h1 : n < 1
  · rw [if_pos (.inl h1)]
    exact ev_pos h1 bad
  refine ev_neg h1 ?_
  by_cases h2 : n > 256
  · rw [if_pos (.inr h2), show decide (n > 256) = true from decide_eq_true h2]
    exact bad
  rw [if_neg (by omega), show decide (n > 256) = false from decide_eq_false h2]
  refine Ev.step (fun k => logic_Fit.j0.eq_2 _ _ _ k) (ev_neg (by decide) (ev_now (check a sa) ?_))
  by_cases hv : isVec a = true
  · have za := vec_size hv
    rw [if_pos hv, if_pos hv]
    obtain ⟨w, rfl⟩ := Int.eq_ofNat_of_zero_le (show 0 ≤ n by omega)
    rw [Int.toNat_natCast]
    exact ev_pos rfl (ev_now (ev_fit a w (by omega) (by omega)) (ev_some fun _ => rfl))
  · rw [if_neg hv, if_neg hv]
    exact ev_neg (by decide) (ev_some fun _ => rfl)
def partS (a : ByteArray) (h l : Int) : ByteArray × Int :=
  if isVec a = true then (if l < 0 ∨ h < l ∨ (a.size : Int) ≤ h then (⟨#[]⟩, 1) else (a.extract (a.size - 1 - h.toNat) (a.size - l.toNat), 0)) else (⟨#[]⟩, 10)
theorem ev_Part (a : ByteArray) (h l : Int) (sa : a.size ≤ 140737488355328) : logic_Part.f a h l = some (partS a h l) := by
  unfold logic_Part.f partS
  rw [check a sa, Option.bind_some]
  by_cases hv : isVec a = true
  · have za := vec_size hv
    rw [if_pos hv, if_pos rfl, if_pos hv]
    by_cases h1 : l < 0
    · rw [if_pos h1, if_pos (.inl h1)]
    rw [if_neg h1]
    by_cases h2 : h < l
    · rw [if_pos h2, if_pos (.inr (.inl h2))]
    rw [if_neg h2]
    by_cases h3 : h ≥ (a.size : Int)
    · rw [if_pos h3, if_pos (.inr (.inr h3))]
    rw [if_neg h3]
    have e1 : wrap64 (wrap64 ((a.size : Int) - 1) - h) = ((a.size - 1 - h.toNat : Nat) : Int) := by
      rw [w64_in (x := (a.size : Int) - 1) (by omega) (by omega), w64_in (by omega) (by omega)]; omega
    have e2 : wrap64 ((a.size : Int) - l) = ((a.size - l.toNat : Nat) : Int) := by rw [w64_in (by omega) (by omega)]; omega
    rw [e1, e2, if_pos (by omega), if_pos (by omega), if_pos (by omega), if_neg (by omega), Int.toNat_natCast, Int.toNat_natCast]
  · rw [if_neg hv, if_neg (by decide), if_neg hv]
theorem extract_one (a : ByteArray) (i : Nat) (h : i < a.size) : a.extract i (i + 1) = strOfNums [(V a).getD i 0] := by
  have hi : i < (V a).length := by rw [← size_len]; exact h
  apply bytesOf_inj
  rw [bytesOf_extract, List.drop_take, List.drop_eq_getElem_cons hi, Nat.add_sub_cancel_left, bytesOf_str, getD_lt _ _ hi]
  · rfl
  · intro b hb
    rw [List.mem_singleton.1 hb, getD_lt _ _ hi]
    exact bytesOf_byte a _ (List.getElem_mem hi)
def bitS (a b : ByteArray) : ByteArray × Int := if isVec a = true ∧ isVec b = true then (strOfNums (bitAt (V a) (V b)), 0) else (⟨#[]⟩, 10)
theorem ev_BitL (a b : ByteArray) (sa : a.size ≤ 140737488355328) (sb : b.size ≤ 140737488355328) : Ev (fun k => logic_Bit.f k a b) (bitS a b) := by
  unfold logic_Bit.f bitS
  refine Ev.bind (checks2 a b sa sb) ?_
  by_cases hv : isVec a = true ∧ isVec b = true
  · have za := vec_size hv.1
    have zb := vec_size hv.2
    rw [if_pos hv, if_pos hv]
    refine ev_pos rfl (ev_now (ev_known b (vec_bits hv.2) (by omega)) ?_)
    unfold bitAt
    by_cases kb : known (V b) = true
    · rw [if_pos kb]
      have nb := numb_range kb
      refine ev_pos kb (Ev.bind (ev_number b kb (by omega) (a.size : Int) (by omega) (by omega)) ?_)
      by_cases hn : numb (V b) < ((V a).length : Int)
      · rw [if_pos hn]
        rw [← size_len] at hn ⊢
        rw [show min (numb (V b)) (a.size : Int) = numb (V b) by omega]
        have e1 : wrap64 (wrap64 ((a.size : Int) - 1) - numb (V b)) = ((a.size - 1 - (numb (V b)).toNat : Nat) : Int) := by
          rw [w64_in (x := (a.size : Int) - 1) (by omega) (by omega), w64_in (by omega) (by omega)]; omega
        have e2 : wrap64 ((a.size : Int) - numb (V b)) = ((a.size - 1 - (numb (V b)).toNat + 1 : Nat) : Int) := by rw [w64_in (by omega) (by omega)]; omega
        rw [e1, e2, Int.toNat_natCast, Int.toNat_natCast]
        refine ev_neg (by omega) (ev_pos (by omega) (ev_pos (by omega) (ev_pos (by omega) (ev_some fun _ => ?_))))
        rw [extract_one a _ (by omega)]
      · rw [if_neg hn]
        rw [← size_len] at hn
        exact ev_pos (by omega) (ev_some fun _ => rfl)
    · rw [if_neg kb]
      exact ev_neg kb (ev_some fun _ => rfl)
  · rw [if_neg hv, if_neg hv]
    exact ev_neg (by decide) (ev_some fun _ => rfl)
def truthS (a : ByteArray) : Int × Int := if isVec a = true then (truth (V a), 0) else (0, 10)
theorem ev_TruthL (a : ByteArray) (sa : a.size ≤ 140737488355328) : logic_Truth.f a = some (truthS a) := by
  unfold logic_Truth.f truthS
  rw [check a sa, Option.bind_some]
  by_cases hv : isVec a = true
  · have za := vec_size hv
    rw [if_pos hv, if_pos rfl, if_pos hv, ev_truth a (vec_bits hv) (by omega), Option.bind_some]
  · rw [if_neg hv, if_neg (by decide), if_neg hv]
theorem ev_BitR (a b : ByteArray) (va : isVec a = true) (vb : isVec b = true) : Ev (fun k => silkwormref01_Bit.f k a b) (strOfNums (bitAt (V a) (V b))) := by
  have za := vec_size va
  have zb := vec_size vb
  unfold silkwormref01_Bit.f bitAt
  refine Ev.bind (ev_Known b (by omega)) ?_
  by_cases kb : known (V b) = true
  · rw [if_pos kb]
    have nb := numb_range kb
    refine ev_pos kb (Ev.bind (ev_Number b kb (by omega)) ?_)
    unfold numR
    by_cases hbig : numb (V b) > 2147483647
    · rw [if_pos hbig]
      refine ev_pos (by decide) (ev_some fun _ => ?_)
      rw [if_neg (by rw [← size_len]; omega)]
      rfl
    · rw [if_neg hbig]
      refine ev_neg (by omega) ?_
      by_cases hn : numb (V b) < ((V a).length : Int)
      · rw [if_pos hn]
        rw [← size_len] at hn ⊢
        have e1 : wrap64 (wrap64 ((a.size : Int) - 1) - numb (V b)) = ((a.size - 1 - (numb (V b)).toNat : Nat) : Int) := by
          rw [w64_in (x := (a.size : Int) - 1) (by omega) (by omega), w64_in (by omega) (by omega)]; omega
        rw [e1]
        refine ev_neg (by omega) (ev_pos (by omega) (ev_pos (by omega) (ev_now rfl (ev_some fun _ => ?_))))
        rw [bt_V]
      · rw [if_neg hn]
        rw [← size_len] at hn
        exact ev_pos (by omega) (ev_some fun _ => rfl)
  · rw [if_neg kb]
    exact ev_neg kb (ev_some fun _ => rfl)
theorem parts_j5 (a : ByteArray) (va : isVec a = true) : Ev (fun k => silkwormlaw01_LogicParts.j5 k a (numS a).1 (numS a).2 (truth (V a)) 0) true := by
  have za := vec_size va
  have et := ev_Truth a (by omega)
  refine Ev.step (fun k => silkwormlaw01_LogicParts.j5.eq_2 _ _ _ _ _ k) (Ev.bind (ev_Known a (by omega)) ?_)
  unfold numS
  rw [if_pos va]
  by_cases ka : known (V a) = true
  · have nb := numb_range ka
    rw [if_pos ka]
    have en := ev_Number a ka (by omega)
    unfold numR at en
    refine ev_pos ka (Ev.bind en ?_)
    by_cases hbig : numb (V a) > 2147483647
    · rw [if_pos hbig] at en ⊢
      rw [if_pos hbig]
      refine ev_pos (by decide) (ev_pos rfl ?_)
      exact Ev.step (fun k => silkwormlaw01_LogicParts.j6.eq_2 _ _ _ _ k) (ev_neg (by simp) (Ev.bind et (ev_pos rfl (ev_pos rfl (ev_awake' rfl)))))
    · rw [if_neg hbig] at en ⊢
      rw [if_neg hbig]
      refine ev_neg (by omega) (Ev.bind en (ev_pos rfl ?_))
      exact Ev.step (fun k => silkwormlaw01_LogicParts.j7.eq_2 _ _ _ _ k) (ev_neg (by simp) (Ev.bind et (ev_pos rfl (ev_pos rfl (ev_awake' rfl)))))
  · rw [if_neg ka]
    refine ev_neg ka (ev_pos rfl ?_)
    exact Ev.step (fun k => silkwormlaw01_LogicParts.j8.eq_2 _ _ _ _ k) (ev_neg (by simp) (Ev.bind et (ev_pos rfl (ev_pos rfl (ev_awake' rfl)))))
theorem parts_j4 (a b : ByteArray) (va : isVec a = true) (sb : b.size ≤ 140737488351232) : Ev (fun k => silkwormlaw01_LogicParts.j4 k a b (bitS a b).1 (bitS a b).2 (numS a).1 (numS a).2 (truth (V a)) 0) true := by
  refine Ev.step (fun k => silkwormlaw01_LogicParts.j4.eq_2 _ _ _ _ _ _ _ _ k) (Ev.bind (ev_may b (by omega)) ?_)
  unfold bitS
  by_cases vb : isVec b = true
  · rw [if_pos ⟨va, vb⟩]
    exact ev_pos vb (Ev.bind (ev_BitR a b va vb) (ev_pos rfl (ev_pos rfl (parts_j5 a va))))
  · rw [if_neg (fun h => vb h.2)]
    exact ev_neg vb (ev_pos nil_list (ev_pos rfl (parts_j5 a va)))
theorem parts_j2 (a b : ByteArray) (n0 n1 n2 : Int) (sa : a.size ≤ 140737488351232) (sb : b.size ≤ 140737488351232) :
    Ev (fun k => silkwormlaw01_LogicParts.j2 k a b (partS a n1 n2).1 (partS a n1 n2).2 (bitS a b).1 (bitS a b).2 (numS a).1 (numS a).2 (truthS a).1 (truthS a).2 (isVec a) n0 n1 n2) true := by
  refine Ev.step (fun k => silkwormlaw01_LogicParts.j2.eq_2 _ _ _ _ _ _ _ _ _ _ _ _ _ _ k) ?_
  by_cases va : isVec a = true
  · have za := vec_size va
    refine ev_pos va ?_
    unfold partS truthS
    rw [if_pos va, if_pos va]
    generalize hq : (if n2 < 0 ∨ n1 < n2 ∨ (a.size : Int) ≤ n1 then ((⟨#[]⟩ : ByteArray), (1 : Int)) else (a.extract (a.size - 1 - n1.toNat) (a.size - n2.toNat), 0)) = q
    have bad : ∀ x, x = true → (n2 < 0 ∨ n1 < n2 ∨ (a.size : Int) ≤ n1) → Ev (fun k => silkwormlaw01_LogicParts.j3 k a b q.1 q.2 (bitS a b).1 (bitS a b).2 (numS a).1 (numS a).2 (truth (V a)) 0 x n0 n1 n2) true := by
      intro x hx ho
      rw [if_pos ho] at hq
      subst hq
      exact Ev.step (fun k => silkwormlaw01_LogicParts.j3.eq_2 _ _ _ _ _ _ _ _ _ _ _ _ _ _ k) (ev_pos hx (ev_pos nil_list (ev_pos rfl (parts_j4 a b va sb))))
    by_cases h1 : n2 < 0
    · exact ev_pos h1 (bad true rfl (.inl h1))
    refine ev_neg h1 ?_
    by_cases h2 : n1 < n2
    · exact ev_pos h2 (bad true rfl (.inr (.inl h2)))
    refine ev_neg h2 ?_
    by_cases h3 : n1 ≥ (a.size : Int)
    · exact bad _ (decide_eq_true h3) (.inr (.inr h3))
    rw [if_neg (by omega)] at hq
    subst hq
    rw [show decide (n1 ≥ (a.size : Int)) = false from decide_eq_false h3]
    have e1 : wrap64 (wrap64 ((a.size : Int) - 1) - n1) = ((a.size - 1 - n1.toNat : Nat) : Int) := by
      rw [w64_in (x := (a.size : Int) - 1) (by omega) (by omega), w64_in (by omega) (by omega)]; omega
    have e2 : wrap64 ((a.size : Int) - n2) = ((a.size - n2.toNat : Nat) : Int) := by rw [w64_in (by omega) (by omega)]; omega
    refine Ev.step (fun k => silkwormlaw01_LogicParts.j3.eq_2 _ _ _ _ _ _ _ _ _ _ _ _ _ _ k) (ev_neg (by decide) ?_)
    rw [e1, e2, Int.toNat_natCast, Int.toNat_natCast]
    exact ev_pos (by omega) (ev_pos (by omega) (ev_pos (by omega) (ev_pos rfl (ev_pos rfl (parts_j4 a b va sb)))))
  · refine ev_neg va ?_
    unfold partS bitS numS truthS
    rw [if_neg va, if_neg (fun h => va h.1), if_neg va, if_neg va]
    exact ev_pos nil_list (ev_pos rfl (ev_pos nil_list (ev_pos rfl (ev_pos rfl (ev_pos rfl (ev_pos rfl (ev_pos rfl (ev_awake' rfl))))))))
theorem parts_j1 (a b : ByteArray) (n0 n1 n2 : Int) (sa : a.size ≤ 140737488351232) (sb : b.size ≤ 140737488351232) (x : Bool) (hx : x = true ↔ (n0 < 1 ∨ 256 < n0)) :
    Ev (fun k => silkwormlaw01_LogicParts.j1 k a b (fitS a n0).1 (fitS a n0).2 (partS a n1 n2).1 (partS a n1 n2).2 (bitS a b).1 (bitS a b).2 (numS a).1 (numS a).2 (truthS a).1 (truthS a).2 (isVec a) x n0 n1 n2) true := by
  refine Ev.step (fun k => silkwormlaw01_LogicParts.j1.eq_2 _ _ _ _ _ _ _ _ _ _ _ _ _ _ _ _ _ k) ?_
  have nx := parts_j2 a b n0 n1 n2 sa sb
  by_cases hb : n0 < 1 ∨ 256 < n0
  · have e : fitS a n0 = (⟨#[]⟩, 1) := by unfold fitS; rw [if_pos hb]
    rw [e]
    exact ev_pos (hx.2 hb) (ev_pos nil_list (ev_pos rfl nx))
  refine ev_neg (fun h => hb (hx.1 h)) ?_
  by_cases va : isVec a = true
  · have za := vec_size va
    have e : fitS a n0 = (strOfNums (fit (V a) n0.toNat), 0) := by unfold fitS; rw [if_neg hb, if_pos va]
    rw [e]
    have ef := ev_Fit a n0.toNat (by omega) (by omega)
    rw [Int.toNat_of_nonneg (by omega)] at ef
    exact ev_pos va (Ev.bind ef (ev_pos rfl (ev_pos rfl nx)))
  · have e : fitS a n0 = (⟨#[]⟩, 10) := by unfold fitS; rw [if_neg hb, if_neg va]
    rw [e]
    exact ev_neg va (ev_pos nil_list (ev_pos rfl nx))
theorem parts_j0 (a b : ByteArray) (n0 n1 n2 : Int) (sa : a.size ≤ 140737488351232) (sb : b.size ≤ 140737488351232) (x : Bool) (hx : x = false) :
    Ev (fun k => silkwormlaw01_LogicParts.j0 k a b (fitS a n0).1 (fitS a n0).2 (partS a n1 n2).1 (partS a n1 n2).2 (bitS a b).1 (bitS a b).2 (numS a).1 (numS a).2 (truthS a).1 (truthS a).2 (isVec a) x n0 n1 n2) true := by
  refine Ev.step (fun k => silkwormlaw01_LogicParts.j0.eq_2 _ _ _ _ _ _ _ _ _ _ _ _ _ _ _ _ _ k) (ev_neg (by simp [hx]) ?_)
  by_cases h : n0 < 1
  · exact ev_pos h (parts_j1 a b n0 n1 n2 sa sb true ⟨fun _ => .inl h, fun _ => rfl⟩)
  · exact ev_neg h (parts_j1 a b n0 n1 n2 sa sb _ (by simp; omega))
/-- For each two strings and each three numbers the law's function answers true. -/
theorem LogicParts (a b : ByteArray) (n0 n1 n2 : Int) (sa : a.size ≤ 140737488351232) (sb : b.size ≤ 140737488351232) : ∃ k, silkwormlaw01_LogicParts.f k a b n0 n1 n2 = some true := by
  suffices h : Ev (fun k => silkwormlaw01_LogicParts.f k a b n0 n1 n2) true from h.rounds
  unfold silkwormlaw01_LogicParts.f
  refine Ev.bind (ev_FitL a n0 (by omega)) (ev_now (ev_Part a n1 n2 (by omega)) (Ev.bind (ev_BitL a b (by omega) (by omega)) (Ev.bind (ev_numberS a (by omega)) (ev_now (ev_TruthL a (by omega)) (Ev.bind (ev_may a (by omega)) (ev_now (check a (by omega)) ?_))))))
  by_cases va : isVec a = true
  · have nx := parts_j0 a b n0 n1 n2 sa sb false rfl
    rw [va] at nx ⊢
    exact ev_neg (by decide) (ev_pos rfl nx)
  · have va' : isVec a = false := by simpa using va
    have nx := parts_j0 a b n0 n1 n2 sa sb ((10 : Int) != 10) (by decide)
    have ec := check a (by omega)
    rw [va'] at nx ec ⊢
    exact ev_neg (by decide) (ev_neg (by decide) (ev_now ec nx))
theorem LogicParts_walk (a b : ByteArray) (n0 n1 n2 : Int) (w : World) (sa : a.size ≤ 140737488351232) (sb : b.size ≤ 140737488351232) (g0 : (Lit.int .i64 n0).wf = true) (g1 : (Lit.int .i64 n1).wf = true) (g2 : (Lit.int .i64 n2).wf = true) :
    Calls Tryd.prog 14 #[.string a, .string b, .agg #[.int .i64 n0, .int .i64 n1, .int .i64 n2]] w fun e w' => e = .returned (.bool true) ∧ Below w.heap.size w w' := by
  obtain ⟨k, h⟩ := LogicParts a b n0 n1 n2 sa sb
  refine (silkwormlaw01_LogicParts.calls k a b n0 n1 n2 true w h).mono ?_
  rintro e w' ⟨rfl, hd⟩
  exact ⟨rfl, hd⟩
end Go.Proofs.YtblhfodkbjdeoaaDoor.Pure
