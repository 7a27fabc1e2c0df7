/- What the reference's Binary answers, in the words of Spec. -/
import Derived.Test.YtblhfodkbjdeoaaDoorPureQ
import Derived.Test.YtblhfodkbjdeoaaDoorPLgx9
namespace Go.Proofs.YtblhfodkbjdeoaaDoor.PureL
open Go.RowKit Go.Proofs.YtblhfodkbjdeoaaDoorW.PrintWords Go.Proofs.YtblhfodkbjdeoaaDoorW.PrintLast Go.Proofs.YtblhfodkbjdeoaaDoorW.PrintMore Go.Proofs.YtblhfodkbjdeoaaDoor.Vec Go.Proofs.YtblhfodkbjdeoaaDoor.PLg
set_option linter.unusedVariables false

/-- What stands at a place of a shifted vector. -/
def shAt (l : List Int) (by_ : Int) (i : Nat) : Int := if 0 ≤ (i : Int) + by_ ∧ (i : Int) + by_ < l.length then l.getD ((i : Int) + by_).toNat 0 else 48
theorem ev_Shifted (a : ByteArray) (by_ : Int) (hs : a.size ≤ 65536) (h0 : -65536 ≤ by_) (h1 : by_ ≤ 65536) : Ev (fun k => silkwormref01_shifted.f k a by_) (strOfNums ((List.range' 0 a.size).map (shAt (V a) by_))) := by
  unfold silkwormref01_shifted.f
  refine ev_pos (by omega) (ev_pos (by omega) ?_)
  have key := fill_up a.size (fun k xs i => silkwormref01_shifted.l0 k a by_ xs i) (fun _ i => some (shAt (V a) by_ i)) (shAt (V a) by_) strOfNums (fun k xs i hi hx => by
    simp only [silkwormref01_shifted.l0]
    rw [if_pos (by omega), if_pos (by omega), if_pos (by omega), w64_in (x := (i : Int) + by_) (by omega) (by omega), w64_in (x := (i : Int) + 1) (by omega) (by omega)]
    simp only [Option.bind_some, Int.toNat_natCast, List.set_set]
    unfold shAt
    rw [← size_len]
    by_cases c0 : (i : Int) + by_ ≥ 0
    · rw [if_pos c0]
      by_cases c1 : (i : Int) + by_ < (a.size : Int)
      · rw [if_pos c1, if_pos c0, if_pos ⟨c0, c1⟩]
        have e : (i : Int) + by_ = (((i : Int) + by_).toNat : Int) := by omega
        have e2 : bt a ((i : Int) + by_) = (V a).getD ((i : Int) + by_).toNat 0 := by
          rw [← bt_V, ← e]
        rw [e2]
        rfl
      · rw [if_neg c1, if_neg (fun h => c1 h.2)]
        rfl
    · rw [if_neg c0, if_neg (fun h => c0 h.1)]
      rfl) (fun i hi => ev_some fun _ => rfl) (fun k xs hx => by
    simp only [silkwormref01_shifted.l0]
    rw [if_neg (by omega)]) a.size 0 (List.replicate a.size 0) (by omega) (by simp)
  refine ev_congr key ?_
  rw [List.take_zero, List.nil_append]
theorem sh_up (l : List Int) (n : Nat) : (List.range' 0 l.length).map (shAt l (n : Int)) = Vec.shl l n := by
  unfold Vec.shl
  apply List.ext_getElem
  · simp; omega
  · intro i h1 h2
    have hi : i < l.length := by simpa using h1
    simp only [List.getElem_map, List.getElem_range', Nat.zero_add, Nat.one_mul]
    unfold shAt
    rw [List.getElem_append]
    by_cases c : i + n < l.length
    · rw [if_pos ⟨by omega, by omega⟩, dif_pos (by rw [List.length_drop]; omega), List.getElem_drop]
      have e : ((i : Int) + (n : Int)).toNat = n + i := by omega
      rw [e, getD_lt l 0 (by omega)]
    · rw [if_neg (by omega), dif_neg (by rw [List.length_drop]; omega), List.getElem_replicate]
theorem sh_down (l : List Int) (n : Nat) : (List.range' 0 l.length).map (shAt l (-(n : Int))) = Vec.shr l n := by
  unfold Vec.shr
  apply List.ext_getElem
  · simp; omega
  · intro i h1 h2
    have hi : i < l.length := by simpa using h1
    simp only [List.getElem_map, List.getElem_range', Nat.zero_add, Nat.one_mul]
    unfold shAt
    rw [List.getElem_append]
    by_cases c : n ≤ i
    · rw [if_pos ⟨by omega, by omega⟩, dif_neg (by rw [List.length_replicate]; omega), List.getElem_take]
      have e : ((i : Int) + -(n : Int)).toNat = i - n := by omega
      rw [e, getD_lt l 0 (by omega)]
      congr 1
      rw [List.length_replicate]
      omega
    · rw [if_neg (by omega), dif_pos (by rw [List.length_replicate]; omega), List.getElem_replicate]
theorem shl_cap (l : List Int) (n : Nat) (h : l.length ≤ n) : Vec.shl l n = Vec.shl l l.length := by
  unfold Vec.shl
  rw [List.drop_of_length_le h, List.drop_of_length_le (Nat.le_refl _), Nat.min_eq_right h, Nat.min_self]
theorem shr_cap (l : List Int) (n : Nat) (h : l.length ≤ n) : Vec.shr l n = Vec.shr l l.length := by
  unfold Vec.shr
  rw [Nat.min_eq_right h, Nat.min_self]
  congr 2
  omega
theorem ev_Shift (op : Int) (a b : ByteArray) (sa : a.size ≤ 65536) (sb : b.size ≤ 65536) (ho : op = 15 ∨ op = 16) :
    Ev (fun k => silkwormref01_shift.f k op a b) (strOfNums (bin op (V a) (V b))) := by
  unfold silkwormref01_shift.f bin
  rw [if_pos ho]
  refine Ev.bind (ev_Known b (by omega)) ?_
  by_cases kb : known (V b) = true
  · rw [if_pos kb]
    refine ev_pos kb (Ev.bind (ev_Number b kb (by omega)) ?_)
    have r := numb_range kb
    have full : ∀ n, Ev (fun k => silkwormref01_shift.j0 k op a n true) (strOfNums (if op = 15 then Vec.shl (V a) (V a).length else Vec.shr (V a) (V a).length)) := by
      intro n
      refine Ev.step (fun k => silkwormref01_shift.j0.eq_2 _ _ _ _ k) (ev_pos rfl ?_)
      rcases ho with rfl | rfl
      · refine ev_neg (by decide) (ev_bind_some (ev_Shifted a a.size sa (by omega) (by omega)) ?_)
        rw [if_pos rfl, ← sh_up, ← size_len]
      · refine ev_pos rfl ?_
        rw [w64_in (by omega) (by omega)]
        refine ev_bind_some (ev_Shifted a _ sa (by omega) (by omega)) ?_
        rw [if_neg (by decide), ← sh_down, ← size_len]
    unfold numR
    by_cases big : numb (V b) > 2147483647
    · rw [if_pos big]
      refine ev_pos (by decide) (ev_congr (full _) ?_)
      rw [shl_cap (V a) (numb (V b)).toNat (by rw [← size_len]; omega), shr_cap (V a) (numb (V b)).toNat (by rw [← size_len]; omega)]
    · rw [if_neg big]
      refine ev_neg (by omega) ?_
      by_cases far : numb (V b) > (a.size : Int)
      · rw [show decide (numb (V b) > (a.size : Int)) = true from decide_eq_true far]
        refine ev_congr (full _) ?_
        rw [shl_cap (V a) (numb (V b)).toNat (by rw [← size_len]; omega), shr_cap (V a) (numb (V b)).toNat (by rw [← size_len]; omega)]
      · rw [show decide (numb (V b) > (a.size : Int)) = false from decide_eq_false far]
        refine Ev.step (fun k => silkwormref01_shift.j0.eq_2 _ _ _ _ k) (ev_neg (by decide) ?_)
        have e : numb (V b) = ((numb (V b)).toNat : Int) := by omega
        rcases ho with rfl | rfl
        · refine ev_neg (by decide) (ev_bind_some (ev_Shifted a _ sa (by omega) (by omega)) ?_)
          rw [if_pos rfl, ← sh_up, ← size_len, ← e]
        · refine ev_pos rfl ?_
          rw [w64_in (by omega) (by omega)]
          refine ev_bind_some (ev_Shifted a _ sa (by omega) (by omega)) ?_
          rw [if_neg (by decide), ← sh_down, ← size_len, ← e]
  · rw [if_neg kb]
    refine ev_neg kb (ev_bind_some (ev_All 120 a.size (by omega)) ?_)
    rw [size_len]

/-- The reference's answer. -/
def BinS (op : Int) (a b : ByteArray) : ByteArray × Bool := if op < 13 ∨ 27 < op then (⟨#[]⟩, false) else (strOfNums (bin op (V a) (V b)), true)
theorem ev_one (b : Int) : silkwormref01_one.f b = some (strOfNums [b]) := rfl
theorem ev_Binary (op : Int) (a b : ByteArray) (va : isVec a = true) (vb : isVec b = true) : Ev (fun k => silkwormref01_Binary.f k op a b) (BinS op a b) := by
  have za := vec_size va
  have zb := vec_size vb
  have ba := vec_bits va
  have bb := vec_bits vb
  have j0 : ∀ x : Bool, (x = true ↔ (op = 15 ∨ op = 16)) → Ev (fun k => silkwormref01_Binary.j0 k op a b op x) (BinS op a b) := by
    intro x hx
    refine Ev.step (fun k => silkwormref01_Binary.j0.eq_2 _ _ _ _ _ k) ?_
    by_cases hs : x = true
    · have ho := hx.1 hs
      refine ev_pos hs (ev_bind_some (ev_Shift op a b (by omega) (by omega) ho) ?_)
      unfold BinS
      rw [if_neg (by omega)]
    have hns : ¬ (op = 15 ∨ op = 16) := fun h => hs (hx.2 h)
    refine ev_neg hs ?_
    by_cases h26 : op = 26
    · refine ev_pos h26 (Ev.bind (ev_Truth a (by omega)) (Ev.bind (ev_Truth b (by omega)) (Ev.bind (ev_And _ _) (ev_some fun _ => ?_))))
      unfold BinS bin
      rw [if_neg (by omega), if_neg hns, if_pos h26]
      rfl
    refine ev_neg h26 ?_
    by_cases h27 : op = 27
    · refine ev_pos h27 (Ev.bind (ev_Truth a (by omega)) (Ev.bind (ev_Truth b (by omega)) (Ev.bind (ev_Or _ _) (ev_some fun _ => ?_))))
      unfold BinS bin
      rw [if_neg (by omega), if_neg hns, if_neg h26, if_pos h27]
      rfl
    refine ev_neg h27 ?_
    have hB : BinS op a b = if op < 13 ∨ 27 < op then (⟨#[]⟩, false) else (strOfNums (bin2 op (max (V a).length (V b).length) (fit (V a) (max (V a).length (V b).length)) (fit (V b) (max (V a).length (V b).length))), true) := by
      unfold BinS bin
      rw [if_neg hns, if_neg h26, if_neg h27]
    rw [hB, mx_len]
    have hw : max (V a).length (V b).length ≤ 256 := by rw [← size_len, ← size_len]; omega
    generalize hwe : max (V a).length (V b).length = w at *
    refine Ev.bind (ev_Fit a w (by omega) (by omega)) (Ev.bind (ev_Fit b w (by omega) (by omega)) ?_)
    have fa := fit_bits ba w
    have fb := fit_bits bb w
    have la := fit_length (V a) w
    have lb := fit_length (V b) w
    clear hB
    generalize fit (V a) w = x at *
    generalize fit (V b) w = y at *
    have sx : (strOfNums x).size = w := by rw [str_size, la]
    have sy : (strOfNums y).size = w := by rw [str_size, lb]
    have vx := V_str fa
    have vy := V_str fb
    have j1 : ∀ z : Bool, (z = true ↔ (17 ≤ op ∧ op ≤ 22)) → Ev (fun k => silkwormref01_Binary.j1 k op (strOfNums x) (strOfNums y) (w : Int) op z) (if op < 13 ∨ 27 < op then (⟨#[]⟩, false) else (strOfNums (bin2 op w x y), true)) := by
      intro z hz
      refine Ev.step (fun k => silkwormref01_Binary.j1.eq_2 _ _ _ _ _ _ k) ?_
      by_cases hc : z = true
      · have := hz.1 hc
        refine ev_pos hc (ev_bind_some (ev_Compared op _ _ (by omega) (by omega)) ?_)
        unfold bin2
        rw [if_neg (by omega), if_neg (by omega), if_neg (by omega), if_neg (by omega), if_neg (by omega), vx, vy]
      have hn : ¬ (17 ≤ op ∧ op ≤ 22) := fun h => hc (hz.2 h)
      refine ev_neg hc ?_
      have j2 : ∀ u : Bool, (u = true ↔ (op = 23 ∨ op = 24 ∨ op = 25)) → Ev (fun k => silkwormref01_Binary.j2 k op (strOfNums x) (strOfNums y) (w : Int) op u) (if op < 13 ∨ 27 < op then (⟨#[]⟩, false) else (strOfNums (bin2 op w x y), true)) := by
        intro u hu
        refine Ev.step (fun k => silkwormref01_Binary.j2.eq_2 _ _ _ _ _ _ k) ?_
        by_cases hb : u = true
        · have ho := hu.1 hb
          rw [if_neg (by omega)]
          refine ev_pos hb ?_
          unfold bin2
          rcases ho with rfl | rfl | rfl
          · refine ev_bind_some (ev_Bits 23 _ _ andB (.inl ⟨rfl, rfl⟩) (str_bits fa) (str_bits fb) (by omega) (by omega)) ?_
            rw [vx, vy]; rfl
          · refine ev_bind_some (ev_Bits 24 _ _ xorB (.inr (.inr ⟨by decide, by decide, rfl⟩)) (str_bits fa) (str_bits fb) (by omega) (by omega)) ?_
            rw [vx, vy]; rfl
          · refine ev_bind_some (ev_Bits 25 _ _ orB (.inr (.inl ⟨rfl, rfl⟩)) (str_bits fa) (str_bits fb) (by omega) (by omega)) ?_
            rw [vx, vy]; rfl
        have hnb : ¬ (op = 23 ∨ op = 24 ∨ op = 25) := fun h => hb (hu.2 h)
        refine ev_neg hb ?_
        have j3 : ∀ t : Bool, (t = true ↔ (op = 13 ∨ op = 14)) → Ev (fun k => silkwormref01_Binary.j3 k op (strOfNums x) (strOfNums y) (w : Int) t) (if op < 13 ∨ 27 < op then (⟨#[]⟩, false) else (strOfNums (bin2 op w x y), true)) := by
          intro t ht
          refine Ev.step (fun k => silkwormref01_Binary.j3.eq_2 _ _ _ _ _ k) ?_
          by_cases ha : t = true
          · have ho := ht.1 ha
            rw [if_neg (by omega)]
            refine ev_pos ha ?_
            have hB : bin2 op w x y = if known x = true ∧ known y = true then (if op = 13 then (sumC x y 0).1 else (sumC x (turned y) 1).1) else List.replicate w 120 := by
              unfold bin2
              rw [if_neg (by omega), if_neg (by omega), if_neg (by omega), if_pos ho]
            rw [hB]
            have j4t : ¬ (known x = true ∧ known y = true) → Ev (fun k => silkwormref01_Binary.j4 k op (strOfNums x) (strOfNums y) (w : Int) true) (strOfNums (if known x = true ∧ known y = true then (if op = 13 then (sumC x y 0).1 else (sumC x (turned y) 1).1) else List.replicate w 120), true) := by
              intro hnk
              refine Ev.step (fun k => silkwormref01_Binary.j4.eq_2 _ _ _ _ _ k) (ev_pos rfl (ev_bind_some (ev_All 120 w (by omega)) ?_))
              rw [if_neg hnk]
            refine Ev.bind (ev_Known _ (by omega)) ?_
            rw [vx]
            by_cases kx : known x = true
            · refine ev_pos kx (Ev.bind (ev_Known _ (by omega)) ?_)
              rw [vy]
              by_cases ky : known y = true
              · refine Ev.step (fun k => silkwormref01_Binary.j4.eq_2 _ _ _ _ _ k) (ev_neg (by simp [ky]) ?_)
                rw [if_pos ⟨kx, ky⟩]
                by_cases h14 : op = 14
                · have kt : known (turned y) = true := by
                    unfold known
                    rw [List.all_eq_true]
                    intro z hz
                    obtain ⟨q, hq, rfl⟩ := List.mem_map.1 hz
                    rcases one_cases (List.all_eq_true.1 ky q hq) with rfl | rfl <;> rfl
                  refine ev_pos h14 (Ev.bind (ev_Turned _ (by omega)) ?_)
                  rw [vy]
                  refine ev_bind_some (ev_Sum _ _ 1 (by rw [vx]; exact kx) (by rw [V_str (known_bits kt)]; exact kt) (by rw [sx, str_size]; unfold turned; rw [List.length_map, lb]) (by omega) (.inr rfl)) ?_
                  rw [vx, V_str (known_bits kt), if_neg (by omega)]
                · refine ev_neg h14 (ev_bind_some (ev_Sum _ _ 0 (by rw [vx]; exact kx) (by rw [vy]; exact ky) (by omega) (by omega) (.inl rfl)) ?_)
                  rw [vx, vy, if_pos (by omega)]
              · rw [show (!known y) = true by simp [ky]]
                exact j4t (fun h => ky h.2)
            · exact ev_neg kx (j4t (fun h => kx h.1))
          · have hna : ¬ (op = 13 ∨ op = 14) := fun h => ha (ht.2 h)
            refine ev_neg ha (ev_some fun _ => ?_)
            rw [if_pos (by omega)]
        by_cases h13 : op = 13
        · exact ev_pos h13 (j3 _ (by simp [h13]))
        · exact ev_neg h13 (j3 _ (by simp [h13]))
      by_cases h23 : op = 23
      · exact ev_pos h23 (j2 _ (by simp [h23]))
      refine ev_neg h23 ?_
      by_cases h25 : op = 25
      · exact ev_pos h25 (j2 _ (by simp [h25]))
      exact ev_neg h25 (j2 _ (by simp [h23, h25]))
    by_cases h17 : op = 17
    · exact ev_pos h17 (j1 _ (by simp [h17]))
    refine ev_neg h17 ?_
    by_cases h18 : op = 18
    · exact ev_pos h18 (j1 _ (by simp [h18]))
    refine ev_neg h18 ?_
    by_cases h19 : op = 19
    · exact ev_pos h19 (j1 _ (by simp [h19]))
    refine ev_neg h19 ?_
    by_cases h20 : op = 20
    · exact ev_pos h20 (j1 _ (by simp [h20]))
    refine ev_neg h20 ?_
    by_cases h21 : op = 21
    · exact ev_pos h21 (j1 _ (by simp [h21]))
    refine ev_neg h21 (j1 _ ?_)
    rw [beq_iff_eq]
    omega
  unfold silkwormref01_Binary.f
  by_cases h15 : op = 15
  · exact ev_pos h15 (j0 _ (by simp [h15]))
  · exact ev_neg h15 (j0 _ (by simp [h15]))
end Go.Proofs.YtblhfodkbjdeoaaDoor.PureL
