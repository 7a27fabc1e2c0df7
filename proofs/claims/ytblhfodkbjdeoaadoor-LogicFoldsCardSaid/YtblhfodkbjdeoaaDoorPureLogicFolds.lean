/- The pure statement of the law LogicFolds. -/
import Derived.Test.YtblhfodkbjdeoaaDoorPureR
import Derived.Test.YtblhfodkbjdeoaaDoorPureU
import Derived.Test.YtblhfodkbjdeoaaDoorPLgx21
namespace Go.Proofs.YtblhfodkbjdeoaaDoor.Pure
open Go.RowKit Go.Proofs.YtblhfodkbjdeoaaDoorW.PrintWords Go.Proofs.YtblhfodkbjdeoaaDoorW.PrintLast Go.Proofs.YtblhfodkbjdeoaaDoorW.PrintMore Go.Proofs.YtblhfodkbjdeoaaDoor.Vec Go.Proofs.YtblhfodkbjdeoaaDoor.PLg Go.Proofs.YtblhfodkbjdeoaaDoor.PureL
set_option linter.unusedVariables false

theorem V_one (a : ByteArray) (i : Nat) (h : i < a.size) : V (a.extract i (i + 1)) = [(V a).getD i 0] := by
  have hi : i < (V a).length := by rw [← size_len]; exact h
  show bytesOf _ = _
  rw [bytesOf_extract, List.drop_take, drop_cons _ hi, Nat.add_sub_cancel_left]
  rfl
theorem bin_one (op : Int) (f : Int → Int → Int) (x b : Int) (ho : (op = 23 ∧ f = andB) ∨ (op = 25 ∧ f = orB) ∨ (op = 24 ∧ f = xorB)) : bin op [x] [b] = [f x b] := by
  rcases ho with ⟨rfl, rfl⟩ | ⟨rfl, rfl⟩ | ⟨rfl, rfl⟩ <;> rfl
theorem vec_one {x : Int} (h : bitB x = true) : ∀ z ∈ [x], bitB z = true := by
  intro z hz
  rw [List.mem_singleton.1 hz]; exact h
theorem isVec_one {s : ByteArray} {x : Int} (h : bitB x = true) (hs : V s = [x]) : isVec s = true := by
  rw [isVec_iff, hs]
  exact ⟨Nat.le_refl _, by show (1 : Nat) ≤ 256; decide, vec_one h⟩
theorem binS_one (op : Int) (f : Int → Int → Int) (x : Int) (s : ByteArray) (b : Int) (hx : bitB x = true) (hb : bitB b = true) (hs : V s = [b]) (ho : (op = 23 ∧ f = andB) ∨ (op = 25 ∧ f = orB) ∨ (op = 24 ∧ f = xorB)) : binS op (strOfNums [x]) s = (strOfNums [f x b], 0) := by
  unfold binS
  rw [if_neg (by omega), if_pos ⟨isVec_one hx (V_str (vec_one hx)), isVec_one hb hs⟩, V_str (vec_one hx), hs, bin_one op f x b ho]

theorem folds_l1 (a : ByteArray) (ha : isVec a = true) (r : Int) (f : Int → Int → Int) (hf : ∀ x y, bitB (f x y) = true) (F O : List Int) (S : List ByteArray) (T : Int) (h0 : 0 ≤ r) (hF : r < (F.length : Int)) (hO : r < (O.length : Int))
    (hop : (rd O r = 23 ∧ f = andB) ∨ (rd O r = 25 ∧ f = orB) ∨ (rd O r = 24 ∧ f = xorB)) (hun : unS (rd F r) a = (strOfNums [T], 0)) (next : Ev (fun k => silkwormlaw01_LogicFolds.l0 k a F O S (wrap64 (r + 1))) true) :
    ∀ (d i : Nat) (x : Int), d + i = a.size → bitB x = true → ((V a).drop i).foldl f x = T → Ev (fun k => silkwormlaw01_LogicFolds.l1 k a F O S r (strOfNums [x]) (i : Int)) true
  | 0, i, x, hd, hx, hT => by
    obtain rfl : i = a.size := by omega
    have za := vec_size ha
    rw [List.drop_of_length_le (by rw [size_len]; exact Nat.le_refl _), List.foldl_nil] at hT
    subst hT
    refine Ev.step (fun k => silkwormlaw01_LogicFolds.l1.eq_2 _ _ _ _ _ _ _ k) (ev_neg (by omega) (ev_pos h0 (ev_pos hF ?_)))
    have e := ev_unary (rd F r) a (by omega)
    rw [hun] at e
    exact Ev.bind e (ev_pos rfl (ev_pos rfl next))
  | d + 1, i, x, hd, hx, hT => by
    have za := vec_size ha
    have hi : i < (V a).length := by rw [← size_len]; omega
    have hb : bitB ((V a).getD i 0) = true := vec_bits ha _ (by rw [getD_lt _ _ hi]; exact List.getElem_mem hi)
    rw [drop_cons _ hi, List.foldl_cons] at hT
    refine Ev.step (fun k => silkwormlaw01_LogicFolds.l1.eq_2 _ _ _ _ _ _ _ k) ?_
    have e1 : wrap64 ((i : Int) + 1) = ((i + 1 : Nat) : Int) := by rw [w64_in (by omega) (by omega)]; rfl
    rw [e1, Int.toNat_natCast, Int.toNat_natCast]
    refine ev_pos (by omega) (ev_pos h0 (ev_pos hO (ev_pos (by omega) (ev_pos (by omega) (ev_pos (by omega) ?_)))))
    have e := ev_binary (rd O r) (strOfNums [x]) (a.extract i (i + 1)) (by rw [str_size]; exact (by decide : (1 : Nat) ≤ 140737488355328)) (by rw [ByteArray.size_extract]; omega)
    rw [binS_one (rd O r) f x _ _ hx hb (V_one a i (by omega)) hop] at e
    exact Ev.bind e (ev_pos rfl (folds_l1 a ha r f hf F O S T h0 hF hO hop hun next d (i + 1) _ (by omega) (hf _ _) hT))

theorem LogicFolds : silkwormlaw01_LogicFolds.Pure := by
  intro a wa
  suffices h : Ev (fun k => silkwormlaw01_LogicFolds.f k a) true from h.rounds
  unfold silkwormlaw01_LogicFolds.f
  refine Ev.bind (ev_may a (by omega)) ?_
  by_cases ha : isVec a = true
  rotate_left
  · exact ev_neg ha (ev_awake' rfl)
  refine ev_pos ha ?_
  rw [show (⟨#[49]⟩ : ByteArray) = strOfNums [49] from lit1 49, show (⟨#[48]⟩ : ByteArray) = strOfNums [48] from lit1 48]
  have step : ∀ (r : Int) (f : Int → Int → Int) (x : Int), (∀ x y, bitB (f x y) = true) → 0 ≤ r → r < 3 → bitB x = true → rdOf ByteArray.empty [strOfNums [49], strOfNums [48], strOfNums [48]] r = strOfNums [x] →
      ((rd [23, 25, 24] r = 23 ∧ f = andB) ∨ (rd [23, 25, 24] r = 25 ∧ f = orB) ∨ (rd [23, 25, 24] r = 24 ∧ f = xorB)) → unS (rd [10, 11, 12] r) a = (strOfNums [(V a).foldl f x], 0) →
      Ev (fun k => silkwormlaw01_LogicFolds.l0 k a [10, 11, 12] [23, 25, 24] [strOfNums [49], strOfNums [48], strOfNums [48]] (wrap64 (r + 1))) true →
      Ev (fun k => silkwormlaw01_LogicFolds.l0 k a [10, 11, 12] [23, 25, 24] [strOfNums [49], strOfNums [48], strOfNums [48]] r) true := by
    intro r f x hf h0 h3 hx hS hop hun next
    refine Ev.step (fun k => silkwormlaw01_LogicFolds.l0.eq_2 _ _ _ _ _ k) (ev_pos h3 (ev_pos h0 (ev_pos h3 ?_)))
    rw [hS]
    exact folds_l1 a ha r f hf [10, 11, 12] [23, 25, 24] _ _ h0 h3 h3 hop hun next a.size 0 x (by omega) hx rfl
  have un0 : ∀ op f x, un op (V a) = [(V a).foldl f x] → 7 ≤ op → op ≤ 12 → unS op a = (strOfNums [(V a).foldl f x], 0) := by
    intro op f x h h1 h2
    unfold unS
    rw [if_neg (by omega), if_pos ha, h]
  refine step 0 andB 49 and_bit (by decide) (by decide) rfl rfl (.inl ⟨rfl, rfl⟩) (un0 10 andB 49 rfl (by decide) (by decide)) ?_
  rw [show wrap64 (0 + 1) = 1 from w64_in (by decide) (by decide)]
  refine step 1 orB 48 or_bit (by decide) (by decide) rfl rfl (.inr (.inl ⟨rfl, rfl⟩)) (un0 11 orB 48 rfl (by decide) (by decide)) ?_
  rw [show wrap64 (1 + 1) = 2 from w64_in (by decide) (by decide)]

  refine step 2 xorB 48 xor_bit (by decide) (by decide) rfl rfl (.inr (.inr ⟨rfl, rfl⟩)) (un0 12 xorB 48 rfl (by decide) (by decide)) ?_
  rw [show wrap64 (2 + 1) = 3 from w64_in (by decide) (by decide)]
  exact Ev.step (fun k => silkwormlaw01_LogicFolds.l0.eq_2 _ _ _ _ _ k) (ev_neg (by decide) (ev_awake' rfl))
end Go.Proofs.YtblhfodkbjdeoaaDoor.Pure
