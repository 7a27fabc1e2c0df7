/- What the reference's looks answer (May, Known, All, Fit, Truth, Number), in the words of Spec. -/
import Derived.Test.YtblhfodkbjdeoaaDoorPureC
import Derived.Test.YtblhfodkbjdeoaaDoorPLgx6
namespace Go.Proofs.YtblhfodkbjdeoaaDoor.PureL
open Go.RowKit Go.Proofs.YtblhfodkbjdeoaaDoorW.PrintWords Go.Proofs.YtblhfodkbjdeoaaDoorW.PrintLast Go.Proofs.YtblhfodkbjdeoaaDoorW.PrintMore Go.Proofs.YtblhfodkbjdeoaaDoor.Vec Go.Proofs.YtblhfodkbjdeoaaDoor.PLg
set_option linter.unusedVariables false

/-! ### looks -/
theorem all_getD (p : Int → Bool) (l : List Int) : l.all p = true ↔ ∀ j, j < l.length → p (l.getD j 0) = true := by
  rw [List.all_eq_true]
  constructor
  · intro h j hj
    rw [getD_lt l 0 hj]; exact h _ (List.getElem_mem hj)
  · intro h b hb
    obtain ⟨j, hj, rfl⟩ := List.getElem_of_mem hb
    rw [← getD_lt l 0 hj]; exact h j hj
theorem ev_scan (s : ByteArray) (l : Nat → Int → Option Bool) (p : Int → Bool) (hs : s.size ≤ 140737488355328)
    (hstep : ∀ k (i : Nat), i < s.size → l (k + 1) (i : Int) = if p ((V s).getD i 0) = true then l k ((i + 1 : Nat) : Int) else some false) (yes : Bool)
    (hend : ∀ k, l (k + 1) (s.size : Int) = some yes) : Ev (fun k => l k 0) ((V s).all p && yes) := by
  by_cases h : (V s).all p = true
  · rw [h, Bool.true_and]
    exact scan_all s.size l (fun i => p ((V s).getD i 0)) (fun _ => false) yes hstep hend s.size 0 (by omega) (fun j _ hj => (all_getD p (V s)).1 h j (by rw [← size_len]; exact hj))
  · rw [Bool.not_eq_true] at h
    rw [h, Bool.false_and]
    have hn : ¬ ∀ j, j < s.size → p ((V s).getD j 0) = true := by
      intro ha
      have := (all_getD p (V s)).2 (fun j hj => ha j (by rw [size_len]; exact hj))
      rw [h] at this
      exact absurd this (by decide)
    obtain ⟨m, h1, h2, h3⟩ := first_not hn
    exact scan_no s.size l (fun i => p ((V s).getD i 0)) (fun _ => false) hstep m 0 m (by omega) h1 h2 (fun j _ hj => h3 j hj)
theorem ev_may (s : ByteArray) (hs : s.size ≤ 140737488355328) : Ev (fun k => silkwormref01_May.f k s) (isVec s) := by
  unfold silkwormref01_May.f
  have key := ev_scan s (fun k i => silkwormref01_May.l0 k s i) bitB hs (fun k i hi => by
    simp only [silkwormref01_May.l0]
    rw [if_pos (by omega), if_pos (by omega), bt_V, w64_in (by omega) (by omega)]
    unfold bitB
    generalize (V s).getD i 0 = z
    by_cases h1 : z = 48
    · simp [h1]
    by_cases h2 : z = 49
    · simp [h2]
    by_cases h3 : z = 120
    · simp [h3]
    by_cases h4 : z = 122
    · simp [h4]
    rw [if_neg h1, if_neg h2, if_neg h3, if_neg h4, if_neg]
    simp only [Bool.or_eq_true, beq_iff_eq]
    omega) (decide (1 ≤ s.size) && decide (s.size ≤ 256)) (fun k => by
    simp only [silkwormref01_May.l0]
    rw [if_neg (by omega)]
    by_cases h1 : 1 ≤ s.size
    · rw [if_pos (by omega)]
      simp [h1]
      omega
    · rw [if_neg (by omega)]
      simp [h1])
  refine ev_congr key ?_
  unfold isVec
  cases (V s).all bitB <;> cases decide (1 ≤ s.size) <;> cases decide (s.size ≤ 256) <;> rfl
theorem ev_Known (s : ByteArray) (hs : s.size ≤ 140737488355328) : Ev (fun k => silkwormref01_Known.f k s) (known (V s)) := by
  unfold silkwormref01_Known.f
  have key := ev_scan s (fun k i => silkwormref01_Known.l0 k s i) oneB hs (fun k i hi => by
    simp only [silkwormref01_Known.l0]
    rw [if_pos (by omega), if_pos (by omega), bt_V, w64_in (by omega) (by omega)]
    unfold oneB
    generalize (V s).getD i 0 = z
    by_cases h1 : z = 48
    · simp [h1]
    by_cases h2 : z = 49
    · simp [h2]
    rw [if_neg h1, if_neg h2, if_neg]
    simp only [Bool.or_eq_true, beq_iff_eq]
    omega) true (fun k => by
    simp only [silkwormref01_Known.l0]
    rw [if_neg (by omega)])
  refine ev_congr key ?_
  rw [Bool.and_true]
  rfl
theorem ev_All (c : Int) (n : Nat) (hn : n ≤ 65536) : Ev (fun k => silkwormref01_All.f k c (n : Int)) (strOfNums (List.replicate n c)) := by
  unfold silkwormref01_All.f
  refine ev_pos (by omega) (ev_pos (by omega) ?_)
  have key := fill_up n (fun k xs i => silkwormref01_All.l0 k c (n : Int) xs i) (fun _ _ => some c) (fun _ => c) strOfNums (fun k xs i hi hx => by
    simp only [silkwormref01_All.l0]
    rw [if_pos (by omega), if_pos (by omega), if_pos (by omega), w64_in (by omega) (by omega)]
    rfl) (fun i hi => ev_some fun _ => rfl) (fun k xs hx => by
    simp only [silkwormref01_All.l0]
    rw [if_neg (by omega)]) n 0 (List.replicate n 0) (by omega) (by simp)
  refine ev_congr key ?_
  rw [List.take_zero, List.nil_append, List.map_const', List.length_range']
theorem ev_Fit (s : ByteArray) (w : Nat) (hw : w ≤ 65536) (hs : s.size ≤ 65536) : Ev (fun k => silkwormref01_Fit.f k s (w : Int)) (strOfNums (fit (V s) w)) := by
  have hb : ∀ b ∈ V s, Byte b := bytesOf_byte s
  unfold silkwormref01_Fit.f fit
  rw [← size_len]
  by_cases h : s.size < w
  · rw [if_pos h, w64_in (x := (w : Int) - (s.size : Int)) (by omega) (by omega)]
    have e : (w : Int) - (s.size : Int) = ((w - s.size : Nat) : Int) := by omega
    rw [e]
    refine ev_neg (by omega) (Ev.bind (ev_All 48 (w - s.size) (by omega)) ?_)
    refine ev_pos (by rw [strOfNums_size, List.length_replicate]; omega) (ev_some fun _ => ?_)
    congr 1
    apply bytesOf_inj
    rw [bytesOf_append, bytesOf_str, bytesOf_str]
    · intro b hb'
      rcases List.mem_append.1 hb' with hb' | hb'
      · obtain ⟨_, rfl⟩ := List.mem_replicate.1 hb'; exact byte48
      · exact hb b hb'
    · intro b hb'
      obtain ⟨_, rfl⟩ := List.mem_replicate.1 hb'; exact byte48
  · rw [if_neg h, w64_in (x := (s.size : Int) - (w : Int)) (by omega) (by omega)]
    refine ev_pos (by omega) (ev_pos (by omega) (ev_pos (by omega) (ev_some fun _ => ?_)))
    congr 1
    apply bytesOf_inj
    have e : ((s.size : Int) - (w : Int)).toNat = s.size - w := by omega
    rw [bytesOf_extract, e, bytesOf_str _ (fun b hb' => hb b (List.mem_of_mem_drop hb')), size_len, List.take_length]

theorem ev_Truth (s : ByteArray) (hs : s.size ≤ 140737488355328) : Ev (fun k => silkwormref01_Truth.f k s) (truth (V s)) := by
  unfold silkwormref01_Truth.f
  have hstep : ∀ k t (i : Nat), i < s.size → silkwormref01_Truth.l0 (k + 1) s t (i : Int) = if (V s).getD i 0 = 49 then some 49 else silkwormref01_Truth.l0 k s (if (V s).getD i 0 = 48 then t else 120) ((i + 1 : Nat) : Int) := by
    intro k t i hi
    simp only [silkwormref01_Truth.l0]
    rw [if_pos (by omega), if_pos (by omega), bt_V, w64_in (by omega) (by omega)]
    by_cases h1 : (V s).getD i 0 = 49
    · rw [if_pos h1, if_pos h1]
    rw [if_neg h1, if_neg h1]
    by_cases h2 : (V s).getD i 0 = 48
    · rw [if_pos h2, if_pos h2]; rfl
    · rw [if_neg h2, if_neg h2]; rfl
  have hend : ∀ k t, silkwormref01_Truth.l0 (k + 1) s t (s.size : Int) = some t := by
    intro k t
    simp only [silkwormref01_Truth.l0]
    rw [if_neg (by omega)]
  have go : ∀ (d i : Nat) (t : Int), d + i = s.size → Ev (fun k => silkwormref01_Truth.l0 k s t (i : Int)) (if ((V s).drop i).any (· == 49) = true then 49 else if ((V s).drop i).all (· == 48) = true then t else 120) := by
    intro d
    induction d with
    | zero =>
      intro i t hd
      obtain rfl : i = s.size := by omega
      refine Ev.step (f := fun _ => some t) (fun k => hend k t) (ev_some fun _ => ?_)
      rw [List.drop_of_length_le (by rw [size_len]; exact Nat.le_refl _)]
      rfl
    | succ d ih =>
      intro i t hd
      have hi : i < (V s).length := by rw [← size_len]; omega
      refine Ev.step (fun k => hstep k t i (by omega)) ?_
      rw [List.drop_eq_getElem_cons hi, List.any_cons, List.all_cons, ← getD_lt (V s) 0 hi]
      by_cases h1 : (V s).getD i 0 = 49
      · refine ev_pos h1 (ev_some fun _ => ?_)
        rw [h1]
        simp
      · refine ev_neg h1 (ev_congr (ih (i + 1) _ (by omega)) ?_)
        have e1 : ((V s).getD i 0 == 49) = false := by simpa using h1
        rw [e1, Bool.false_or]
        by_cases h3 : ((V s).drop (i + 1)).any (· == 49) = true
        · rw [if_pos h3, if_pos h3]
        rw [if_neg h3, if_neg h3]
        by_cases h2 : (V s).getD i 0 = 48
        · have e2 : ((V s).getD i 0 == 48) = true := by simpa using h2
          rw [if_pos h2, e2, Bool.true_and]
        · have e2 : ((V s).getD i 0 == 48) = false := by simpa using h2
          rw [if_neg h2, e2, Bool.false_and]
          simp
  refine ev_congr (go s.size 0 48 (by omega)) ?_
  rw [List.drop_zero]
  unfold truth
  by_cases h1 : (V s).any (· == 49) = true
  · rw [if_pos h1, if_pos h1]
  rw [if_neg h1, if_neg h1]
  have : known (V s) = (V s).all (· == 48) := by
    unfold known
    rw [Bool.eq_iff_iff, List.all_eq_true, List.all_eq_true]
    constructor
    · intro h b hb
      rcases one_cases (h b hb) with rfl | rfl
      · rfl
      · exact absurd (List.any_eq_true.2 ⟨49, hb, rfl⟩) h1
    · intro h b hb
      have := h b hb
      rw [beq_iff_eq] at this
      rw [this]; rfl
  rw [this]

/-! ### numbers -/
/-- The reference's number: -1, if it is above 2^31 - 1. -/
def numR (l : List Int) : Int := if numb l > 2147483647 then -1 else numb l
theorem foldl_grow : ∀ (l : List Int) (n : Int), known l = true → 0 ≤ n → n ≤ l.foldl (fun n b => 2 * n + (b - 48)) n
  | [], n, _, _ => Int.le_refl _
  | b :: l, n, h, hn => by
    have h' := known_cons.1 h
    have := one_cases h'.1
    have ih := foldl_grow l (2 * n + (b - 48)) h'.2 (by omega)
    rw [List.foldl_cons]
    omega
theorem ev_Number (s : ByteArray) (h : known (V s) = true) (hs : s.size ≤ 65536) : Ev (fun k => silkwormref01_Number.f k s) (numR (V s)) := by
  unfold silkwormref01_Number.f
  have go : ∀ (d i : Nat) (n : Int), d + i = s.size → 0 ≤ n → n ≤ 2147483647 → Ev (fun k => silkwormref01_Number.l0 k s n (i : Int)) (if ((V s).drop i).foldl (fun n b => 2 * n + (b - 48)) n > 2147483647 then -1 else ((V s).drop i).foldl (fun n b => 2 * n + (b - 48)) n) := by
    intro d
    induction d with
    | zero =>
      intro i n hd h0 h1
      obtain rfl : i = s.size := by omega
      refine Ev.step (f := fun _ => some n) (fun k => ?_) (ev_some fun _ => ?_)
      · simp only [silkwormref01_Number.l0]
        rw [if_neg (by omega)]
      · rw [List.drop_of_length_le (by rw [size_len]; exact Nat.le_refl _), List.foldl_nil, if_neg (by omega)]
    | succ d ih =>
      intro i n hd h0 h1
      have hi : i < (V s).length := by rw [← size_len]; omega
      have hb := getD_all h hi
      have hb' := one_cases hb
      rw [List.drop_eq_getElem_cons hi, List.foldl_cons, ← getD_lt (V s) 0 hi]
      refine Ev.step (f := fun k => if 2 * n + ((V s).getD i 0 - 48) > 2147483647 then some (-1) else silkwormref01_Number.l0 k s (2 * n + ((V s).getD i 0 - 48)) ((i + 1 : Nat) : Int)) (fun k => ?_) ?_
      · simp only [silkwormref01_Number.l0]
        rw [if_pos (by omega), if_pos (by omega), bt_V, bit_mod hb, w64_in (x := 2 * n) (by omega) (by omega), w64_in (by omega) (by omega), w64_in (by omega) (by omega)]
        rfl
      · have hk : known ((V s).drop (i + 1)) = true := by
          unfold known
          rw [List.all_eq_true]
          intro b hb
          exact List.all_eq_true.1 h b (List.mem_of_mem_drop hb)
        by_cases hbig : 2 * n + ((V s).getD i 0 - 48) > 2147483647
        · refine ev_pos hbig (ev_some fun _ => ?_)
          have := foldl_grow _ (2 * n + ((V s).getD i 0 - 48)) hk (by omega)
          rw [if_pos (by omega)]
        · exact ev_neg hbig (ih (i + 1) _ (by omega) (by omega) (by omega))
  exact go s.size 0 0 (by omega) (by omega) (by omega)
end Go.Proofs.YtblhfodkbjdeoaaDoor.PureL
