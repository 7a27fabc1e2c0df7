/- The pure statement of the law LogicTurns. -/
import Derived.Test.YtblhfodkbjdeoaaDoorPureR
import Derived.Test.YtblhfodkbjdeoaaDoorPureU
import Derived.Test.YtblhfodkbjdeoaaDoorPLgx20
namespace Go.Proofs.YtblhfodkbjdeoaaDoor.Pure
open Go.RowKit Go.Proofs.YtblhfodkbjdeoaaDoorW.PrintWords Go.Proofs.YtblhfodkbjdeoaaDoorW.PrintLast Go.Proofs.YtblhfodkbjdeoaaDoorW.PrintMore Go.Proofs.YtblhfodkbjdeoaaDoor.Vec Go.Proofs.YtblhfodkbjdeoaaDoor.PLg Go.Proofs.YtblhfodkbjdeoaaDoor.PureL
set_option linter.unusedVariables false

theorem ev_knows (a b : ByteArray) (hs : a.size ≤ 65536) (hl : a.size = b.size) (h : ∀ i, i < a.size → (V a).getD i 0 = 120 ∨ (V a).getD i 0 = (V b).getD i 0) : Ev (fun k => silkwormlaw01_knows.f k a b) true := by
  unfold silkwormlaw01_knows.f
  refine ev_pos (by omega) ?_
  exact scan_all a.size (fun k i => silkwormlaw01_knows.l0 k a b i) (fun i => decide ((V a).getD i 0 = 120 ∨ (V a).getD i 0 = (V b).getD i 0)) (fun _ => false) true (fun k i hi => by
    simp only [silkwormlaw01_knows.l0]
    rw [if_pos (by omega), if_pos (by omega), bt_V, bt_V, w64_in (by omega) (by omega)]
    by_cases h1 : (V a).getD i 0 = 120
    · rw [if_pos h1, if_pos (decide_eq_true (.inl h1))]; rfl
    rw [if_neg h1, if_pos (by omega)]
    by_cases h2 : (V a).getD i 0 = (V b).getD i 0
    · rw [if_pos h2, if_pos (decide_eq_true (.inr h2))]; rfl
    rw [if_neg h2, if_neg (by rw [decide_eq_true_iff]; rintro (h | h); (· exact h1 h); exact h2 h)]) (fun k => by
    simp only [silkwormlaw01_knows.l0]
    rw [if_neg (by omega)]) a.size 0 (by omega) (fun j _ hj => decide_eq_true (h j hj))
theorem not_and (x y : Int) : notB (andB x y) = orB (notB x) (notB y) := by
  unfold orB andB notB
  by_cases h1 : x = 48 <;> by_cases h2 : x = 49 <;> by_cases h3 : y = 48 <;> by_cases h4 : y = 49 <;> simp [h1, h2, h3, h4] <;> omega
theorem turned_each : ∀ (a b : List Int), turned (each andB a b) = each orB (turned a) (turned b)
  | [], _ => by simp [turned, each]
  | _ :: _, [] => by simp [turned, each]
  | x :: a, y :: b => by
    have ih := turned_each a b
    unfold turned each at *
    simp only [List.zipWith_cons_cons, List.map_cons, ih, not_and]
theorem fit_self (l : List Int) : fit l l.length = l := by
  unfold fit
  rw [if_neg (by omega), Nat.sub_self, List.drop_zero]
theorem bits_vec {l : List Int} (h1 : 1 ≤ l.length) (h2 : l.length ≤ 256) (h : ∀ z ∈ l, bitB z = true) : isVec (strOfNums l) = true := by
  rw [isVec_iff, V_str h]
  exact ⟨h1, h2, h⟩
theorem turned_bits (l : List Int) : ∀ z ∈ turned l, bitB z = true := by
  intro z hz
  obtain ⟨y, hy, rfl⟩ := List.mem_map.1 hz
  exact not_bit y
theorem turned_length (l : List Int) : (turned l).length = l.length := by unfold turned; rw [List.length_map]
theorem un7 (l : List Int) (h1 : 1 ≤ l.length) (h2 : l.length ≤ 256) (h : ∀ z ∈ l, bitB z = true) : unS 7 (strOfNums l) = (strOfNums (turned l), 0) := by
  unfold unS
  rw [if_neg (by decide), if_pos (bits_vec h1 h2 h), V_str h]
  rfl
theorem bin_each (op : Int) (f : Int → Int → Int) (x y : List Int) (w : Nat) (hx : x.length = w) (hy : y.length = w) (h1 : 1 ≤ w) (h2 : w ≤ 256) (bx : ∀ z ∈ x, bitB z = true) (by_ : ∀ z ∈ y, bitB z = true)
    (ho : (op = 23 ∧ f = andB) ∨ (op = 25 ∧ f = orB)) : binS op (strOfNums x) (strOfNums y) = (strOfNums (each f x y), 0) := by
  unfold binS
  rw [if_neg (by omega), if_pos ⟨bits_vec (by omega) (by omega) bx, bits_vec (by omega) (by omega) by_⟩, V_str bx, V_str by_]
  unfold bin bin2
  rw [hx, hy, Nat.max_self]
  have fx : fit x w = x := hx ▸ fit_self x
  have fy : fit y w = y := hy ▸ fit_self y
  rw [fx, fy]
  rcases ho with ⟨rfl, rfl⟩ | ⟨rfl, rfl⟩ <;> rfl

theorem LogicTurns : silkwormlaw01_LogicTurns.Pure := by
  intro a b wa wb
  suffices h : Ev (fun k => silkwormlaw01_LogicTurns.f k a b) true from h.rounds
  unfold silkwormlaw01_LogicTurns.f
  have skip : Ev (fun k => silkwormlaw01_LogicTurns.j0 k a b true) true := Ev.step (fun k => silkwormlaw01_LogicTurns.j0.eq_2 _ _ _ k) (ev_pos rfl (ev_awake' rfl))
  refine Ev.bind (ev_may a (by omega)) ?_
  by_cases ha : isVec a = true
  rotate_left
  · exact ev_neg ha skip
  refine ev_pos ha (Ev.bind (ev_may b (by omega)) ?_)
  by_cases hb : isVec b = true
  rotate_left
  · rw [show (!isVec b) = true by simp [hb]]
    exact skip
  rw [hb]
  have za := vec_size ha
  have zb := vec_size hb
  refine Ev.step (fun k => silkwormlaw01_LogicTurns.j0.eq_2 _ _ _ k) (ev_neg (by decide) ?_)
  rw [mx_len]
  have hw1 : 1 ≤ max (V a).length (V b).length := by rw [← size_len, ← size_len]; omega
  have hw2 : max (V a).length (V b).length ≤ 256 := by rw [← size_len, ← size_len]; omega
  generalize max (V a).length (V b).length = w at *
  refine Ev.bind (ev_Fit a w (by omega) (by omega)) (Ev.bind (ev_Fit b w (by omega) (by omega)) ?_)
  have fa := fit_bits (vec_bits ha) w
  have fb := fit_bits (vec_bits hb) w
  have la := fit_length (V a) w
  have lb := fit_length (V b) w
  generalize fit (V a) w = x at *
  generalize fit (V b) w = y at *
  have lt := turned_length x
  have lty := turned_length y
  have sx : (strOfNums x).size = w := by rw [str_size, la]
  have sy : (strOfNums y).size = w := by rw [str_size, lb]
  have stx : (strOfNums (turned x)).size = w := by rw [str_size, lt, la]
  have sty : (strOfNums (turned y)).size = w := by rw [str_size, lty, lb]
  have le : (each andB x y).length = w := by unfold each; rw [List.length_zipWith]; omega
  have be : ∀ z ∈ each andB x y, bitB z = true := mem_zip and_bit x y
  have e1 := ev_unary 7 (strOfNums x) (by omega)
  have e2 := ev_unary 7 (strOfNums y) (by omega)
  have e3 := ev_binary 23 (strOfNums x) (strOfNums y) (by omega) (by omega)
  have e4 := ev_binary 25 (strOfNums (turned x)) (strOfNums (turned y)) (by omega) (by omega)
  have e5 := ev_unary 7 (strOfNums (each andB x y)) (by rw [str_size]; omega)
  have e6 := ev_unary 7 (strOfNums (turned x)) (by omega)
  rw [un7 x (by omega) (by omega) fa] at e1
  rw [un7 y (by omega) (by omega) fb] at e2
  rw [bin_each 23 andB x y w la lb hw1 hw2 fa fb (.inl ⟨rfl, rfl⟩)] at e3
  rw [bin_each 25 orB (turned x) (turned y) w (by omega) (by omega) hw1 hw2 (turned_bits x) (turned_bits y) (.inr ⟨rfl, rfl⟩)] at e4
  rw [un7 (each andB x y) (by omega) (by omega) be] at e5
  rw [un7 (turned x) (by omega) (by omega) (turned_bits x)] at e6
  refine Ev.bind e1 (Ev.bind e2 (Ev.bind e3 (Ev.bind e4 (Ev.bind e5 (Ev.bind e6 ?_)))))
  refine ev_pos rfl (ev_pos rfl (ev_pos rfl (ev_pos rfl (ev_pos rfl (ev_pos rfl ?_)))))
  rw [turned_each]
  refine Ev.step (fun k => silkwormlaw01_LogicTurns.j1.eq_2 _ _ _ _ k) (ev_neg (by simp) ?_)
  have stt : (strOfNums (turned (turned x))).size = w := by rw [str_size, turned_length, lt, la]
  dsimp only
  refine Ev.bind (ev_knows _ _ (by omega) (by omega) (fun i hi => ?_)) (ev_pos rfl (ev_pos (by omega) (ev_awake' rfl)))
  rw [V_str (turned_bits _), V_str fa]
  have hi' : i < x.length := by omega
  have e : (turned (turned x)).getD i 0 = notB (notB (x.getD i 0)) := by
    unfold turned
    rw [getD_lt _ _ (by rw [List.length_map, List.length_map]; exact hi'), List.getElem_map, List.getElem_map, getD_lt x 0 hi']
  rw [e]
  have hb' := bit_cases ((all_getD bitB x).1 (List.all_eq_true.2 fa) i hi')
  rcases hb' with h | h | h | h <;> rw [h] <;> decide
end Go.Proofs.YtblhfodkbjdeoaaDoor.Pure
