/- What the reference's functions of bits, sums and comparisons answer, in the words of Spec. -/
import Derived.Test.YtblhfodkbjdeoaaDoorPureR
import Derived.Test.YtblhfodkbjdeoaaDoorPLgx8
namespace Go.Proofs.YtblhfodkbjdeoaaDoor.PureL
open Go.RowKit Go.Proofs.YtblhfodkbjdeoaaDoorW.PrintWords Go.Proofs.YtblhfodkbjdeoaaDoorW.PrintLast Go.Proofs.YtblhfodkbjdeoaaDoorW.PrintMore Go.Proofs.YtblhfodkbjdeoaaDoor.Vec Go.Proofs.YtblhfodkbjdeoaaDoor.PLg
set_option linter.unusedVariables false

/-! ### bits -/
theorem ev_Not (b : Int) : silkwormref01_Not.f b = some (notB b) := by
  unfold silkwormref01_Not.f notB
  split
  · rfl
  split <;> rfl
theorem ev_And (a b : Int) : Ev (fun k => silkwormref01_And.f k a b) (andB a b) := by
  refine Ev.step (f := fun _ => some (andB a b)) (fun k => ?_) (ev_some fun _ => rfl)
  unfold silkwormref01_And.f andB
  simp only [silkwormref01_And.j0]
  by_cases ha : a = 48
  · simp [ha]
  by_cases hb : b = 48
  · simp [ha, hb]
  by_cases ha' : a = 49 <;> by_cases hb' : b = 49 <;> simp [ha, hb, ha', hb']
theorem or_def (a b : Int) : notB (andB (notB a) (notB b)) = orB a b := by
  unfold orB andB notB
  by_cases h1 : a = 48 <;> by_cases h2 : a = 49 <;> by_cases h3 : b = 48 <;> by_cases h4 : b = 49 <;> simp [h1, h2, h3, h4] <;> omega
theorem ev_Or (a b : Int) : Ev (fun k => silkwormref01_Or.f k a b) (orB a b) := by
  unfold silkwormref01_Or.f
  refine ev_now (ev_Not a) (ev_now (ev_Not b) (ev_bind_some (ev_And _ _) ?_))
  rw [ev_Not, Option.bind_some, or_def]
theorem xor_def {a b : Int} (ha : bitB a = true) (hb : bitB b = true) : xorB (if a = 122 then 120 else a) (if b = 122 then 120 else b) = xorB a b := by
  rcases bit_cases ha with rfl | rfl | rfl | rfl <;> rcases bit_cases hb with rfl | rfl | rfl | rfl <;> rfl
theorem ev_Xor (a b : Int) (ha : bitB a = true) (hb : bitB b = true) : Ev (fun k => silkwormref01_Xor.f k a b) (xorB a b) := by
  refine Ev.step (f := fun _ => some (xorB a b)) (fun k => ?_) (ev_some fun _ => rfl)
  unfold silkwormref01_Xor.f silkwormref01_bit.f
  simp only [silkwormref01_Xor.j0]
  rcases bit_cases ha with rfl | rfl | rfl | rfl <;> rcases bit_cases hb with rfl | rfl | rfl | rfl <;> rfl
theorem ev_Sum (a b : ByteArray) (c : Int) (ha : known (V a) = true) (hb : known (V b) = true) (hl : a.size = b.size) (hs : a.size ≤ 65536) (hc : c = 0 ∨ c = 1) :
    Ev (fun k => silkwormref01_sum.f k a b c) (strOfNums (sumC (V a) (V b) c).1) := by
  unfold silkwormref01_sum.f
  refine ev_pos (by omega) (ev_pos (by omega) ?_)
  rw [w64_in (by omega) (by omega)]
  have key := fill_down a.size (fun c : Int => c = 0 ∨ c = 1) (fun k c xs i => silkwormref01_sum.l0 k a b c xs i) (fun i c => 48 + ((V a).getD i 0 - 48 + ((V b).getD i 0 - 48) + c) % 2) (fun i c => ((V a).getD i 0 - 48 + ((V b).getD i 0 - 48) + c) / 2) strOfNums
    (fun i c hi hc => by
      have h1 := one_cases (getD_all ha (i := i) (by rw [← size_len]; exact hi))
      have h2 := one_cases (getD_all hb (i := i) (by rw [← size_len]; omega))
      omega)
    (fun k c xs i hi hc hx => by
      have g1 := getD_all ha (i := i) (by rw [← size_len]; exact hi)
      have g2 := getD_all hb (i := i) (by rw [← size_len]; omega)
      have h1 := one_cases g1
      have h2 := one_cases g2
      simp only [silkwormref01_sum.l0]
      rw [if_pos (by omega), if_pos (by omega), if_pos (by omega), if_pos (by omega), if_pos (by omega), bt_V, bt_V, bit_mod g1, bit_mod g2, w64_in (x := (V a).getD i 0 - 48 + ((V b).getD i 0 - 48) + c) (by omega) (by omega)]
      have e3 : 0 ≤ (V a).getD i 0 - 48 + ((V b).getD i 0 - 48) + c := by omega
      rw [Int.tdiv_eq_ediv_of_nonneg e3, Int.tmod_eq_emod_of_nonneg e3, w64_in (by omega) (by omega), w64_in (by omega) (by omega), w64_in (by omega) (by omega)]
      congr 1
      rw [Int.toNat_natCast]
      congr 1
      omega)
    (fun k c xs hx => by
      simp only [silkwormref01_sum.l0]
      rw [if_neg (by omega)])
    (fun i c => (sumC ((V a).take i) ((V b).take i) c).1) (fun c => by simp [sumC]) (fun i c hi hc => sumC_take (V a) (V b) (by rw [← size_len, ← size_len]; omega) i (by rw [← size_len]; exact hi) c)
    a.size c (List.replicate a.size 0) (Nat.le_refl _) hc (by simp)
  refine ev_congr key ?_
  rw [List.drop_of_length_le (by simp), List.append_nil]
  congr 2
  rw [List.take_of_length_le (by rw [← size_len]; omega), List.take_of_length_le (by rw [← size_len]; omega)]
theorem map_getD (f : Int → Int) (l : List Int) : (List.range' 0 l.length).map (fun j => f (l.getD j 0)) = l.map f := map_range' f 0 l 0 [] rfl
theorem ev_Turned (a : ByteArray) (hs : a.size ≤ 65536) : Ev (fun k => silkwormref01_turned.f k a) (strOfNums (turned (V a))) := by
  unfold silkwormref01_turned.f
  refine ev_pos (by omega) (ev_pos (by omega) ?_)
  have key := fill_up a.size (fun k xs i => silkwormref01_turned.l0 k a xs i) (fun _ i => some (notB ((V a).getD i 0))) (fun i => notB ((V a).getD i 0)) strOfNums (fun k xs i hi hx => by
    simp only [silkwormref01_turned.l0]
    rw [if_pos (by omega), if_pos (by omega), bt_V, ev_Not]
    simp only [Option.bind_some]
    rw [if_pos (by omega), w64_in (by omega) (by omega)]
    rfl) (fun i hi => ev_some fun _ => rfl) (fun k xs hx => by
    simp only [silkwormref01_turned.l0]
    rw [if_neg (by omega)]) a.size 0 (List.replicate a.size 0) (by omega) (by simp)
  refine ev_congr key ?_
  rw [List.take_zero, List.nil_append]
  have := map_getD notB (V a)
  rw [← size_len] at this
  rw [this]
  rfl
theorem ev_Bits (op : Int) (a b : ByteArray) (f : Int → Int → Int) (hf : (op = 23 ∧ f = andB) ∨ (op = 25 ∧ f = orB) ∨ (op ≠ 23 ∧ op ≠ 25 ∧ f = xorB)) (ha : ∀ z ∈ V a, bitB z = true) (hb : ∀ z ∈ V b, bitB z = true) (hl : a.size = b.size) (hs : a.size ≤ 65536) :
    Ev (fun k => silkwormref01_bits.f k op a b) (strOfNums (each f (V a) (V b))) := by
  unfold silkwormref01_bits.f
  refine ev_pos (by omega) (ev_pos (by omega) ?_)
  have key := fill_up a.size (fun k xs i => silkwormref01_bits.l0 k op a b xs i) (fun k i => if op = 23 then silkwormref01_And.f k ((V a).getD i 0) ((V b).getD i 0) else if op = 25 then silkwormref01_Or.f k ((V a).getD i 0) ((V b).getD i 0) else silkwormref01_Xor.f k ((V a).getD i 0) ((V b).getD i 0)) (fun i => f ((V a).getD i 0) ((V b).getD i 0)) strOfNums (fun k xs i hi hx => by
    simp only [silkwormref01_bits.l0]
    rw [if_pos (by omega), bt_V, bt_V]
    have e : (if (i : Int) < (xs.length : Int) then silkwormref01_bits.l0 k op a b (xs.set (i : Int).toNat 0) (wrap64 ((i : Int) + 1)) else none) = silkwormref01_bits.l0 k op a b (xs.set i 0) ((i + 1 : Nat) : Int) := by
      rw [if_pos (by omega), w64_in (by omega) (by omega)]; rfl
    have e' : ∀ t : Int, (if (i : Int) < (xs.length : Int) then silkwormref01_bits.l0 k op a b (xs.set (i : Int).toNat t) (wrap64 ((i : Int) + 1)) else none) = silkwormref01_bits.l0 k op a b (xs.set i t) ((i + 1 : Nat) : Int) := by
      intro t
      rw [if_pos (by omega), w64_in (by omega) (by omega)]; rfl
    have i0 : (0 : Int) ≤ (i : Int) := by omega
    have i1 : (i : Int) < (b.size : Int) := by omega
    simp only [e', if_pos i0, if_pos i1]
    by_cases h1 : op = 23
    · rw [if_pos h1, if_pos h1]
    rw [if_neg h1, if_neg h1]
    by_cases h2 : op = 25
    · rw [if_pos h2, if_pos h2]
    rw [if_neg h2, if_neg h2])
    (fun i hi => by
      have h1 := (all_getD bitB (V a)).1 (List.all_eq_true.2 ha) i (by rw [← size_len]; exact hi)
      have h2 := (all_getD bitB (V b)).1 (List.all_eq_true.2 hb) i (by rw [← size_len]; omega)
      rcases hf with ⟨rfl, rfl⟩ | ⟨rfl, rfl⟩ | ⟨n1, n2, rfl⟩
      · exact ev_pos rfl (ev_And _ _)
      · exact ev_neg (by decide) (ev_pos rfl (ev_Or _ _))
      · exact ev_neg n1 (ev_neg n2 (ev_Xor _ _ h1 h2)))
    (fun k xs hx => by
    simp only [silkwormref01_bits.l0]
    rw [if_neg (by omega)]) a.size 0 (List.replicate a.size 0) (by omega) (by simp)
  refine ev_congr key ?_
  rw [List.take_zero, List.nil_append]
  congr 1
  have := map_range'_zip f (V a) (V b) (by rw [← size_len, ← size_len]; omega)
  rw [← size_len] at this
  exact this

/-! ### which one is less -/
theorem less_numb : ∀ (x y : List UInt8), x.length = y.length → known (x.map fun b => (b.toNat : Int)) = true → known (y.map fun b => (b.toNat : Int)) = true →
    Op.bytesLess x y = decide (numb (x.map fun b => (b.toNat : Int)) < numb (y.map fun b => (b.toNat : Int)))
  | [], [], _, _, _ => by simp [Op.bytesLess]
  | a :: x, b :: y, hl, hx, hy => by
    have hl' : x.length = y.length := by simpa using hl
    have hx' := known_cons.1 hx
    have hy' := known_cons.1 hy
    have ih := less_numb x y hl' hx'.2 hy'.2
    have r1 := numb_range hx'.2
    have r2 := numb_range hy'.2
    rw [List.length_map] at r1 r2
    rw [← hl'] at r2
    simp only [List.map_cons, numb_cons, List.length_map, Op.bytesLess, ← hl', ih]
    rcases known_map hx a (List.mem_cons_self ..) with rfl | rfl <;> rcases known_map hy b (List.mem_cons_self ..) with rfl | rfl
    · simp
    · simp; omega
    · simp; omega
    · simp
  | [], _ :: _, h, _, _ => by simp at h
  | _ :: _, [], h, _, _ => by simp at h
theorem ev_Less (a b : ByteArray) (hl : a.size = b.size) (ha : known (V a) = true) (hb : known (V b) = true) : Op.bytesLess a.toList b.toList = decide (numb (V a) < numb (V b)) := by
  rw [Lib.toList_data, Lib.toList_data]
  exact less_numb _ _ (by rw [data_length, data_length]; exact hl) ha hb
theorem numb_inj : ∀ (x y : List Int), x.length = y.length → known x = true → known y = true → numb x = numb y → x = y
  | [], [], _, _, _, _ => rfl
  | a :: x, b :: y, hl, hx, hy, he => by
    have hl' : x.length = y.length := by simpa using hl
    have hx' := known_cons.1 hx
    have hy' := known_cons.1 hy
    have r1 := numb_range hx'.2
    have r2 := numb_range hy'.2
    rw [numb_cons, numb_cons, ← hl'] at he
    rw [← hl'] at r2
    rcases one_cases hx'.1 with rfl | rfl <;> rcases one_cases hy'.1 with rfl | rfl
    · rw [numb_inj x y hl' hx'.2 hy'.2 (by omega)]
    · omega
    · omega
    · rw [numb_inj x y hl' hx'.2 hy'.2 (by omega)]
  | [], _ :: _, h, _, _, _ => by simp at h
  | _ :: _, [], h, _, _, _ => by simp at h
theorem ev_eqn (a b : ByteArray) (hl : a.size = b.size) (ha : known (V a) = true) (hb : known (V b) = true) : (a.toList == b.toList) = decide (numb (V a) = numb (V b)) := by
  rw [toList_beq, Bool.eq_iff_iff, decide_eq_true_iff, decide_eq_true_iff]
  exact ⟨fun h => h ▸ rfl, fun h => bytesOf_inj (numb_inj _ _ (by rw [← size_len, ← size_len]; exact hl) ha hb h)⟩
theorem ev_tell (b : Bool) : silkwormref01_truth.f b = some (strOfNums [tell b]) := by cases b <;> rfl
theorem ev_Compared (op : Int) (a b : ByteArray) (hl : a.size = b.size) (hs : a.size ≤ 65536) :
    Ev (fun k => silkwormref01_compared.f k op a b) (strOfNums (cmp op (V a) (V b))) := by
  unfold silkwormref01_compared.f
  refine Ev.bind (ev_Known a (by omega)) ?_
  by_cases ka : known (V a) = true
  · refine ev_pos ka (Ev.bind (ev_Known b (by omega)) ?_)
    refine Ev.step (fun k => silkwormref01_compared.j0.eq_2 _ _ _ _ k) ?_
    by_cases kb : known (V b) = true
    · refine ev_neg (by simp [kb]) ?_
      rw [cmp_known op ka kb]
      refine ev_some fun _ => ?_
      have f1 := ev_Less a b hl ka kb
      have f2 := ev_Less b a hl.symm kb ka
      have f3 := ev_eqn a b hl ka kb
      have f4 : (a.toList != b.toList) = !decide (numb (V a) = numb (V b)) := by rw [← f3]; rfl
      have f5 : (!decide (numb (V b) < numb (V a))) = decide (numb (V a) ≤ numb (V b)) := by rw [Bool.eq_iff_iff]; simp
      have f6 : (!decide (numb (V a) < numb (V b))) = decide (numb (V b) ≤ numb (V a)) := by rw [Bool.eq_iff_iff]; simp
      simp only [f1, f2, f3, f4, f5, f6, ev_tell, Option.bind_some]
      repeat' split
      all_goals rfl
    · refine ev_pos (by simp [kb]) (ev_some fun _ => ?_)
      rw [cmp_unknown op (fun h => kb h.2)]
      rfl
  · refine ev_neg ka ?_
    refine Ev.step (fun k => silkwormref01_compared.j0.eq_2 _ _ _ _ k) (ev_pos rfl (ev_some fun _ => ?_))
    rw [cmp_unknown op (fun h => ka h.1)]
    rfl
end Go.Proofs.YtblhfodkbjdeoaaDoor.PureL
