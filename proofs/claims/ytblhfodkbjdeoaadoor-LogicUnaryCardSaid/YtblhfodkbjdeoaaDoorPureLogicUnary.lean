/- What the reference's Unary answers, and the pure statement of the law LogicUnary. -/
import Derived.Test.YtblhfodkbjdeoaaDoorPureQ
import Derived.Test.YtblhfodkbjdeoaaDoorPureU
import Derived.Test.YtblhfodkbjdeoaaDoorPLgx18
namespace Go.Proofs.YtblhfodkbjdeoaaDoor.Pure
open Go.RowKit Go.Proofs.YtblhfodkbjdeoaaDoorW.PrintWords Go.Proofs.YtblhfodkbjdeoaaDoorW.PrintLast Go.Proofs.YtblhfodkbjdeoaaDoorW.PrintMore Go.Proofs.YtblhfodkbjdeoaaDoor.Vec Go.Proofs.YtblhfodkbjdeoaaDoor.PLg Go.Proofs.YtblhfodkbjdeoaaDoor.PureL
set_option linter.unusedVariables false

/-- The reference's answer. -/
def UnS (op : Int) (a : ByteArray) : ByteArray × Bool := if op < 7 ∨ 12 < op then (⟨#[]⟩, false) else (strOfNums (un op (V a)), true)
def foldF (op : Int) : Int → Int → Int := if op = 10 then andB else if op = 11 then orB else xorB
theorem foldF_bit (op x y : Int) : bitB (foldF op x y) = true := by
  unfold foldF
  split
  · exact and_bit x y
  split
  · exact or_bit x y
  · exact xor_bit x y
theorem ev_Fold (op : Int) (a : ByteArray) (ba : ∀ z ∈ V a, bitB z = true) (hs : a.size ≤ 65536) : ∀ (d i : Nat) (x : Int), d + i = a.size → bitB x = true → Ev (fun k => silkwormref01_Unary.l0 k op a x (i : Int)) (strOfNums [((V a).drop i).foldl (foldF op) x], true)
  | 0, i, x, hd, hx => by
    obtain rfl : i = a.size := by omega
    refine Ev.step (fun k => silkwormref01_Unary.l0.eq_2 _ _ _ _ k) (ev_neg (by omega) (ev_some fun _ => ?_))
    rw [List.drop_of_length_le (by rw [size_len]; exact Nat.le_refl _), List.foldl_nil]
    rfl
  | d + 1, i, x, hd, hx => by
    have hi : i < (V a).length := by rw [← size_len]; omega
    have hb : bitB ((V a).getD i 0) = true := (all_getD bitB (V a)).1 (List.all_eq_true.2 ba) i hi
    refine Ev.step (fun k => silkwormref01_Unary.l0.eq_2 _ _ _ _ k) (ev_pos (by omega) ?_)
    rw [bt_V, w64_in (x := (i : Int) + 1) (by omega) (by omega), drop_cons _ hi, List.foldl_cons]
    have ih := ev_Fold op a ba hs d (i + 1) (foldF op x ((V a).getD i 0)) (by omega) (foldF_bit _ _ _)
    by_cases h10 : op = 10
    · have e : foldF op = andB := by unfold foldF; rw [if_pos h10]
      rw [e] at ih ⊢
      exact ev_pos h10 (ev_pos (by omega) (Ev.bind (ev_And _ _) ih))
    refine ev_neg h10 ?_
    by_cases h11 : op = 11
    · have e : foldF op = orB := by unfold foldF; rw [if_neg h10, if_pos h11]
      rw [e] at ih ⊢
      exact ev_pos h11 (ev_pos (by omega) (Ev.bind (ev_Or _ _) ih))
    · have e : foldF op = xorB := by unfold foldF; rw [if_neg h10, if_neg h11]
      rw [e] at ih ⊢
      exact ev_neg h11 (ev_pos (by omega) (Ev.bind (ev_Xor _ _ hx hb) ih))
theorem ev_Unary (op : Int) (a : ByteArray) (hv : isVec a = true) : Ev (fun k => silkwormref01_Unary.f k op a) (UnS op a) := by
  have za := vec_size hv
  have ba := vec_bits hv
  unfold silkwormref01_Unary.f UnS
  by_cases h7 : op = 7
  · rw [if_neg (by omega)]
    refine ev_pos h7 (ev_bind_some (ev_Turned a (by omega)) ?_)
    unfold un
    rw [if_pos h7]
  refine ev_neg h7 ?_
  by_cases h8 : op = 8
  · rw [if_neg (by omega)]
    refine ev_pos h8 (Ev.bind (ev_Truth a (by omega)) (ev_now (ev_Not _) (ev_now rfl (ev_some fun _ => ?_))))
    unfold un
    rw [if_neg h7, if_pos h8]
  refine ev_neg h8 ?_
  by_cases h9 : op = 9
  · rw [if_neg (by omega)]
    have hu : un op (V a) = if known (V a) = true then (sumC (turned (V a)) (List.replicate (V a).length 48) 1).1 else List.replicate (V a).length 120 := by
      unfold un
      rw [if_neg h7, if_neg h8, if_neg (by omega), if_neg (by omega), if_neg (by omega)]
    rw [hu]
    refine ev_pos h9 (Ev.bind (ev_Known a (by omega)) ?_)
    by_cases ka : known (V a) = true
    · rw [if_pos ka]
      refine ev_pos ka (Ev.bind (ev_Turned a (by omega)) (Ev.bind (ev_All 48 a.size (by omega)) ?_))
      have kt := turned_known ka
      have kr := rep_known a.size
      have v1 := V_str (known_bits kt)
      have v2 := V_str (known_bits kr)
      refine Ev.bind (ev_Sum _ _ 1 (by rw [v1]; exact kt) (by rw [v2]; exact kr) (by rw [strOfNums_size, strOfNums_size, List.length_replicate]; unfold turned; rw [List.length_map, size_len]) (by rw [strOfNums_size]; unfold turned; rw [List.length_map, ← size_len]; omega) (.inr rfl)) (ev_some fun _ => ?_)
      rw [v1, v2, size_len]
    · rw [if_neg ka]
      refine ev_neg ka (ev_bind_some (ev_All 120 a.size (by omega)) ?_)
      rw [size_len]
  refine ev_neg h9 ?_
  have j0 : ∀ x : Bool, (x = true ↔ (op = 10 ∨ op = 11 ∨ op = 12)) → Ev (fun k => silkwormref01_Unary.j0 k op a x) (if op < 7 ∨ 12 < op then (⟨#[]⟩, false) else (strOfNums (un op (V a)), true)) := by
    intro x hx
    refine Ev.step (fun k => silkwormref01_Unary.j0.eq_2 _ _ _ k) ?_
    by_cases hs : x = true
    · have ho := hx.1 hs
      rw [if_neg (by omega)]
      refine ev_pos hs (ev_pos (by omega) ?_)
      have h0 : 0 < (V a).length := by rw [← size_len]; omega
      have hb : bitB ((V a).getD 0 0) = true := (all_getD bitB (V a)).1 (List.all_eq_true.2 ba) 0 h0
      have e0 : bt a 0 = (V a).getD 0 0 := bt_V a 0
      rw [e0]
      have hbit : silkwormref01_bit.f ((V a).getD 0 0) = some (if (V a).getD 0 0 = 122 then 120 else (V a).getD 0 0) := by
        unfold silkwormref01_bit.f
        split <;> rfl
      have hfirst : bitB (if (V a).getD 0 0 = 122 then 120 else (V a).getD 0 0) = true := by
        split
        · rfl
        · exact hb
      refine ev_now hbit (ev_congr (ev_Fold op a ba (by omega) (a.size - 1) 1 _ (by omega) hfirst) ?_)
      congr 1
      have hV : V a = (V a).getD 0 0 :: (V a).drop 1 := by
        have := drop_cons (V a) h0
        rwa [List.drop_zero] at this
      have hun : un op (V a) = [(V a).foldl (foldF op) (if op = 10 then 49 else 48)] := by
        unfold un foldF
        rcases ho with rfl | rfl | rfl <;> rfl
      rw [hun]
      congr 2
      conv => rhs; rw [hV, List.foldl_cons]
      congr 1
      unfold foldF
      rcases bit_cases hb with e | e | e | e <;> rw [e] <;> rcases ho with rfl | rfl | rfl <;> rfl
    · have hn : ¬ (op = 10 ∨ op = 11 ∨ op = 12) := fun h => hs (hx.2 h)
      refine ev_neg hs (ev_some fun _ => ?_)
      rw [if_pos (by omega)]
  by_cases h10 : op = 10
  · exact ev_pos h10 (j0 _ (by simp [h10]))
  refine ev_neg h10 ?_
  by_cases h11 : op = 11
  · exact ev_pos h11 (j0 _ (by simp [h11]))
  exact ev_neg h11 (j0 _ (by simp [h10, h11]))

theorem LogicUnary : silkwormlaw01_LogicUnary.Pure := by
  intro op a wo wa
  suffices h : Ev (fun k => silkwormlaw01_LogicUnary.f k op a) true from h.rounds
  unfold silkwormlaw01_LogicUnary.f
  have zero : isVec ⟨#[48]⟩ = true := by decide +kernel
  refine Ev.bind (ev_unary op a (by omega)) (Ev.bind (ev_Unary op ⟨#[48]⟩ zero) ?_)
  unfold unS
  by_cases ho : op < 7 ∨ 12 < op
  · rw [if_pos ho]
    refine ev_neg ?_ (ev_pos nil_list (ev_pos rfl (ev_awake' rfl)))
    unfold UnS
    rw [if_pos ho]
    decide
  rw [if_neg ho]
  refine ev_pos ?_ (Ev.bind (ev_may a (by omega)) ?_)
  · unfold UnS
    rw [if_neg ho]
  by_cases hv : isVec a = true
  · rw [if_pos hv]
    refine ev_pos hv (Ev.bind (ev_Unary op a hv) ?_)
    unfold UnS
    rw [if_neg ho]
    exact ev_pos rfl (ev_pos rfl (ev_awake' rfl))
  · rw [if_neg hv]
    exact ev_neg hv (ev_pos nil_list (ev_pos rfl (ev_awake' rfl)))
end Go.Proofs.YtblhfodkbjdeoaaDoor.Pure
