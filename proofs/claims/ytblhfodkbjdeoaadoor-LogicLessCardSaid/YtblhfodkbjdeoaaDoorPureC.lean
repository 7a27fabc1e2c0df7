/- What the printed functions of package logic answer, in the words of Spec: Binary, Cond, and what must come in each statement. -/
import Derived.Test.YtblhfodkbjdeoaaDoorPureB
import Derived.Test.YtblhfodkbjdeoaaDoorPLgx5
namespace Go.Proofs.YtblhfodkbjdeoaaDoor.PureL
open Go.RowKit Go.Proofs.YtblhfodkbjdeoaaDoorW.PrintWords Go.Proofs.YtblhfodkbjdeoaaDoorW.PrintLast Go.Proofs.YtblhfodkbjdeoaaDoorW.PrintMore Go.Proofs.YtblhfodkbjdeoaaDoor.Vec Go.Proofs.YtblhfodkbjdeoaaDoor.PLg
set_option linter.unusedVariables false

theorem vec_bits {s : ByteArray} (h : isVec s = true) : ∀ b ∈ V s, bitB b = true := ((isVec_iff s).1 h).bits
theorem vec_size {s : ByteArray} (h : isVec s = true) : 1 ≤ s.size ∧ s.size ≤ 256 := by
  have := (isVec_iff s).1 h
  rw [size_len]
  exact ⟨this.1, this.2⟩
theorem str_bits {l : List Int} (h : ∀ b ∈ l, bitB b = true) : ∀ b ∈ V (strOfNums l), bitB b = true := by rw [V_str h]; exact h
theorem ev_shift (op : Int) (a b : ByteArray) (ha : isVec a = true) (hb : isVec b = true) (ho : op = 15 ∨ op = 16) :
    Ev (fun k => logic_shift.f k op a b) (strOfNums (bin op (V a) (V b))) := by
  have sa := vec_size ha
  have sb := vec_size hb
  have ba : ∀ z ∈ V a, Byte z := bytesOf_byte a
  unfold logic_shift.f bin
  rw [if_pos ho]
  refine ev_now (ev_known b (vec_bits hb) (by omega)) ?_
  by_cases kb : known (V b) = true
  · rw [if_pos kb]
    refine ev_pos kb (Ev.bind (ev_number b kb (by omega) _ (by omega) (by omega)) ?_)
    have r := numb_range kb
    have hn0 : 0 ≤ min (numb (V b)) (a.size : Int) := by omega
    have hn1 : min (numb (V b)) (a.size : Int) ≤ (a.size : Int) := by omega
    have et : (min (numb (V b)) (a.size : Int)).toNat = min (numb (V b)).toNat (V a).length := by rw [← size_len]; omega
    generalize min (numb (V b)) (a.size : Int) = n at *
    have rep48 : ∀ m, ∀ z ∈ List.replicate m (48 : Int), Byte z := fun m z hz => (List.mem_replicate.1 hz).2 ▸ byte48
    rcases ho with rfl | rfl
    · rw [if_pos rfl]
      refine ev_pos hn0 (ev_pos hn1 (ev_now (ev_all 48 n hn0 (by omega)) ?_))
      have hsz : (a.extract n.toNat a.size).size + (strOfNums (List.replicate n.toNat ((48 : UInt8).toNat : Int))).size ≤ 9223372036854775807 := by
        rw [strOfNums_size, List.length_replicate, ByteArray.size_extract]; omega
      refine ev_pos hsz (ev_some fun _ => ?_)
      congr 1
      apply bytesOf_inj
      rw [bytesOf_append, bytesOf_extract, bytesOf_str (List.replicate n.toNat ((48 : UInt8).toNat : Int)) (rep48 _)]
      unfold Vec.shl
      rw [bytesOf_str]
      · rw [size_len, List.take_length, et]
        congr 1
        by_cases hle : (numb (V b)).toNat ≤ (V a).length
        · rw [Nat.min_eq_left hle]
        · rw [Nat.min_eq_right (by omega), List.drop_of_length_le (Nat.le_refl _), List.drop_of_length_le (by omega)]
      · intro z hz
        rcases List.mem_append.1 hz with h | h
        · exact ba z (List.mem_of_mem_drop h)
        · exact rep48 _ z h
    · rw [if_neg (show ¬ (16 : Int) = 15 by decide)]
      refine ev_now (ev_all 48 n hn0 (by omega)) ?_
      rw [w64_in (by omega) (by omega)]
      have hsz : (strOfNums (List.replicate n.toNat ((48 : UInt8).toNat : Int))).size + (a.extract 0 ((a.size : Int) - n).toNat).size ≤ 9223372036854775807 := by
        rw [strOfNums_size, List.length_replicate, ByteArray.size_extract]; omega
      refine ev_pos (by omega) (ev_pos (by omega) (ev_pos hsz (ev_some fun _ => ?_)))
      congr 1
      apply bytesOf_inj
      rw [bytesOf_append, bytesOf_extract, bytesOf_str (List.replicate n.toNat ((48 : UInt8).toNat : Int)) (rep48 _)]
      unfold Vec.shr
      rw [bytesOf_str]
      · have e2 : ((a.size : Int) - n).toNat = (V a).length - n.toNat := by rw [← size_len]; omega
        rw [List.drop_zero, e2, et]
        congr 1
        by_cases hle : (numb (V b)).toNat ≤ (V a).length
        · rw [Nat.min_eq_left hle]
        · rw [Nat.min_eq_right (by omega)]
          congr 1
          omega
      · intro z hz
        rcases List.mem_append.1 hz with h | h
        · exact rep48 _ z h
        · exact ba z (List.mem_of_mem_take h)
  · rw [if_neg kb]
    refine ev_neg kb (ev_now (ev_all 120 _ (by omega) (by omega)) (ev_some fun _ => ?_))
    rw [Int.toNat_natCast, size_len]
    rfl

/-- The answer of Binary. -/
def binS (op : Int) (a b : ByteArray) : ByteArray × Int :=
  if op < 13 ∨ 27 < op then (⟨#[]⟩, 1) else if isVec a = true ∧ isVec b = true then (strOfNums (bin op (V a) (V b)), 0) else (⟨#[]⟩, 10)
theorem str_size {l : List Int} : (strOfNums l).size = l.length := strOfNums_size l
theorem mx_len (a b : ByteArray) : mx (a.size : Int) (b.size : Int) = ((max (V a).length (V b).length : Nat) : Int) := by
  rw [← size_len, ← size_len]
  unfold mx
  split <;> omega
theorem ev_bin2 (op : Int) (a b : List Int) (w : Nat) (ha : ∀ z ∈ a, bitB z = true) (hb : ∀ z ∈ b, bitB z = true) (la : a.length = w) (lb : b.length = w) (hw : w ≤ 256) (x76 : Bool) (h : x76 = true ↔ (op = 13 ∨ op = 14))
    (h1 : ¬ op = 23) (h2 : ¬ op = 25) (h3 : ¬ op = 24) :
    Ev (fun k => logic_Binary.j2 k op (strOfNums a) (strOfNums b) (w : Int) x76) (strOfNums (bin2 op w a b), 0) := by
  have sa : (strOfNums a).size = w := by rw [str_size, la]
  have sb : (strOfNums b).size = w := by rw [str_size, lb]
  have va := V_str ha
  have vb := V_str hb
  refine Ev.step (fun k => logic_Binary.j2.eq_2 _ _ _ _ _ k) ?_
  unfold bin2
  rw [if_neg h1, if_neg h2, if_neg h3]
  by_cases hx : x76 = true
  · have ho := h.1 hx
    rw [if_pos ho]
    refine ev_pos hx (ev_now (ev_known _ (str_bits ha) (by omega)) ?_)
    rw [va]
    have j3t : ¬ (known a = true ∧ known b = true) → Ev (fun k => logic_Binary.j3 k op (strOfNums a) (strOfNums b) (w : Int) true) (strOfNums (if known a = true ∧ known b = true then (if op = 13 then (sumC a b 0).1 else (sumC a (turned b) 1).1) else List.replicate w 120), 0) := by
      intro hn
      refine Ev.step (fun k => logic_Binary.j3.eq_2 _ _ _ _ _ k) (ev_pos rfl (ev_now (ev_all 120 _ (by omega) (by omega)) (ev_some fun _ => ?_)))
      rw [if_neg hn, Int.toNat_natCast]
      rfl
    by_cases ka : known a = true
    · refine ev_pos ka (ev_now (ev_known _ (str_bits hb) (by omega)) ?_)
      rw [vb]
      by_cases kb : known b = true
      · refine Ev.step (fun k => logic_Binary.j3.eq_2 _ _ _ _ _ k) (ev_neg (by simp [kb]) ?_)
        rw [if_pos ⟨ka, kb⟩]
        by_cases h13 : op = 13
        · refine ev_pos h13 (Ev.bind (ev_sum _ _ 0 (by rw [va]; exact ka) (by rw [vb]; exact kb) (by omega) (by omega) (.inl rfl)) (ev_some fun _ => ?_))
          rw [va, vb, if_pos h13]
        · have kt : known (turned b) = true := by
            unfold known
            rw [List.all_eq_true]
            intro z hz
            obtain ⟨y, hy, rfl⟩ := List.mem_map.1 hz
            rcases one_cases (List.all_eq_true.1 kb y hy) with rfl | rfl <;> rfl
          refine ev_neg h13 (Ev.bind (ev_turned _ (by omega)) ?_)
          rw [vb]
          refine Ev.bind (ev_sum _ _ 1 (by rw [va]; exact ka) (by rw [V_str (known_bits kt)]; exact kt) (by rw [sa, str_size]; unfold turned; rw [List.length_map, lb]) (by omega) (.inr rfl)) (ev_some fun _ => ?_)
          rw [va, V_str (known_bits kt), if_neg h13]
      · rw [show (!known b) = true by simp [kb]]
        exact j3t (fun h => kb h.2)
    · exact ev_neg ka (j3t (fun h => ka h.1))
  · rw [if_neg (fun ho => hx (h.2 ho))]
    refine ev_neg hx (Ev.bind (ev_compared op _ _ (by omega) (by omega) (str_bits ha) (str_bits hb)) (ev_some fun _ => ?_))
    rw [va, vb]
theorem one_str (b : Int) : strOfNums [b] = strOfNums [b] := rfl
theorem ev_binary (op : Int) (a b : ByteArray) (sa : a.size ≤ 140737488355328) (sb : b.size ≤ 140737488355328) : Ev (fun k => logic_Binary.f k op a b) (binS op a b) := by
  unfold logic_Binary.f binS
  by_cases h1 : op < 13
  · rw [if_pos (.inl h1)]
    exact ev_pos h1 (Ev.step (fun k => logic_Binary.j0.eq_2 _ _ _ _ k) (ev_pos rfl (ev_some fun _ => rfl)))
  refine ev_neg h1 ?_
  by_cases h2 : op > 27
  · rw [if_pos (.inr h2)]
    exact Ev.step (fun k => logic_Binary.j0.eq_2 _ _ _ _ k) (ev_pos (by simp [h2]) (ev_some fun _ => rfl))
  rw [if_neg (by omega)]
  refine Ev.step (fun k => logic_Binary.j0.eq_2 _ _ _ _ k) (ev_neg (by simp [h2]) (Ev.bind (checks2 a b sa sb) ?_))
  by_cases hv : isVec a = true ∧ isVec b = true
  rotate_left
  · rw [if_neg hv, if_neg hv]
    exact ev_neg (by decide) (ev_some fun _ => rfl)
  rw [if_pos hv, if_pos hv]
  refine ev_pos rfl ?_
  have za := vec_size hv.1
  have zb := vec_size hv.2
  have ba := vec_bits hv.1
  have bb := vec_bits hv.2
  have j1 : ∀ x24 : Bool, (x24 = true ↔ (op = 15 ∨ op = 16)) → Ev (fun k => logic_Binary.j1 k op a b op x24) (strOfNums (bin op (V a) (V b)), 0) := by
    intro x24 hx
    refine Ev.step (fun k => logic_Binary.j1.eq_2 _ _ _ _ _ k) ?_
    by_cases hs : x24 = true
    · exact ev_pos hs (ev_bind_some (ev_shift op a b hv.1 hv.2 (hx.1 hs)) rfl)
    have hns : ¬ (op = 15 ∨ op = 16) := fun h => hs (hx.2 h)
    refine ev_neg hs ?_
    unfold bin
    rw [if_neg hns]
    by_cases h26 : op = 26
    · rw [if_pos h26]
      exact ev_pos h26 (ev_now (ev_truth a ba (by omega)) (ev_now (ev_truth b bb (by omega)) (ev_bind_some (ev_and _ _) rfl)))
    rw [if_neg h26]
    refine ev_neg h26 ?_
    by_cases h27 : op = 27
    · rw [if_pos h27]
      exact ev_pos h27 (ev_now (ev_truth a ba (by omega)) (ev_now (ev_truth b bb (by omega)) (ev_bind_some (ev_or _ _) rfl)))
    rw [if_neg h27, mx_len]
    refine ev_neg h27 ?_
    have hw : max (V a).length (V b).length ≤ 256 := by rw [← size_len, ← size_len]; omega
    generalize hwe : max (V a).length (V b).length = w at *
    refine ev_now (ev_fit a w (by omega) (by omega)) (ev_now (ev_fit b w (by omega) (by omega)) ?_)
    have fa := fit_bits ba w
    have fb := fit_bits bb w
    have la := fit_length (V a) w
    have lb := fit_length (V b) w
    generalize fit (V a) w = x at *
    generalize fit (V b) w = y at *
    have sx : (strOfNums x).size = w := by rw [str_size, la]
    have sy : (strOfNums y).size = w := by rw [str_size, lb]
    by_cases h23 : op = 23
    · refine ev_pos h23 (ev_bind_some (ev_each_and _ _ (by omega) (by omega)) ?_)
      unfold bin2
      rw [if_pos h23, V_str fa, V_str fb]
    refine ev_neg h23 ?_
    by_cases h25 : op = 25
    · refine ev_pos h25 (ev_bind_some (ev_each_or _ _ (by omega) (by omega)) ?_)
      unfold bin2
      rw [if_neg h23, if_pos h25, V_str fa, V_str fb]
    refine ev_neg h25 ?_
    by_cases h24 : op = 24
    · refine ev_pos h24 (ev_bind_some (ev_each_xor _ _ (by omega) (by omega)) ?_)
      unfold bin2
      rw [if_neg h23, if_neg h25, if_pos h24, V_str fa, V_str fb]
    refine ev_neg h24 ?_
    by_cases h13 : op = 13
    · exact ev_pos h13 (ev_bin2 op x y w fa fb la lb hw _ (by simp [h13]) h23 h25 h24)
    · exact ev_neg h13 (ev_bin2 op x y w fa fb la lb hw _ (by simp [h13]) h23 h25 h24)
  by_cases h15 : op = 15
  · exact ev_pos h15 (j1 _ (by simp [h15]))
  · exact ev_neg h15 (j1 _ (by simp [h15]))

/-- The answer of Cond. -/
def condS (c a b : ByteArray) : ByteArray × Int :=
  if isVec c = true ∧ isVec a = true ∧ isVec b = true then (if a.size = b.size then (strOfNums (Vec.cond (V c) (V a) (V b)), 0) else (⟨#[]⟩, 1)) else (⟨#[]⟩, 10)
theorem ev_Cond_1 (x y : Int) : logic_Cond_1.f x y = some (condB x y) := by
  unfold logic_Cond_1.f condB
  by_cases h : x = y
  · subst h
    rw [if_pos rfl, ev_not, Option.bind_some]
    unfold notB
    by_cases h0 : x = 48
    · simp [h0]
    by_cases h1 : x = 49
    · simp [h1]
    simp [h0, h1]
  · rw [if_neg h, if_neg (fun hh => h hh.1)]
theorem truth_cases (l : List Int) : truth l = 49 ∨ truth l = 48 ∨ truth l = 120 := by
  unfold truth
  split
  · exact .inl rfl
  split
  · exact .inr (.inl rfl)
  · exact .inr (.inr rfl)
theorem ev_cond (c a b : ByteArray) (sc : c.size ≤ 140737488355328) (sa : a.size ≤ 140737488355328) (sb : b.size ≤ 140737488355328) : Ev (fun k => logic_Cond.f k c a b) (condS c a b) := by
  unfold logic_Cond.f condS
  refine Ev.bind (checks3 c a b sc sa sb) ?_
  by_cases hv : isVec c = true ∧ isVec a = true ∧ isVec b = true
  rotate_left
  · rw [if_neg hv, if_neg hv]
    exact ev_neg (by decide) (ev_some fun _ => rfl)
  rw [if_pos hv, if_pos hv]
  refine ev_pos rfl ?_
  have zc := vec_size hv.1
  have za := vec_size hv.2.1
  by_cases hl : a.size = b.size
  rotate_left
  · rw [if_neg hl]
    exact ev_neg (by omega) (ev_some fun _ => rfl)
  rw [if_pos hl]
  refine ev_pos (by omega) (ev_now (ev_truth c (vec_bits hv.1) (by omega)) ?_)
  unfold Vec.cond
  by_cases t1 : truth (V c) = 49
  · rw [if_pos t1]
    refine ev_pos t1 (ev_some fun _ => ?_)
    rw [str_bytesOf]
  rw [if_neg t1]
  refine ev_neg t1 ?_
  by_cases t2 : truth (V c) = 48
  · rw [if_pos t2]
    refine ev_pos t2 (ev_some fun _ => ?_)
    rw [str_bytesOf]
  rw [if_neg t2]
  refine ev_neg t2 (ev_bind_some (each_of logic_each_Cond.l0 (fun _ x y => logic_Cond_1.f x y) condB (fun x y => ev_some fun _ => ev_Cond_1 x y) a b (by omega) (by omega) (fun k x7 x14 => by rw [logic_each_Cond.l0])) rfl)

/-! ### what must come, whatever the arguments are -/
theorem ev_awake : Ev (fun k => silkwormlaw01_awake.f k) true := by
  unfold silkwormlaw01_awake.f
  have b1 : binS 13 ⟨#[48, 49]⟩ ⟨#[49, 120]⟩ = (⟨#[120, 120]⟩, 0) := by decide +kernel
  have b2 : binS 23 ⟨#[48, 122, 49]⟩ ⟨#[120, 120, 49]⟩ = (⟨#[48, 120, 49]⟩, 0) := by decide +kernel
  have b3 : condS ⟨#[120]⟩ ⟨#[48, 49]⟩ ⟨#[48, 48]⟩ = (⟨#[48, 120]⟩, 0) := by decide +kernel
  have e1 := ev_binary 13 ⟨#[48, 49]⟩ ⟨#[49, 120]⟩ (by decide) (by decide)
  have e2 := ev_binary 23 ⟨#[48, 122, 49]⟩ ⟨#[120, 120, 49]⟩ (by decide) (by decide)
  have e3 := ev_cond ⟨#[120]⟩ ⟨#[48, 49]⟩ ⟨#[48, 48]⟩ (by decide) (by decide) (by decide)
  rw [b1] at e1
  rw [b2] at e2
  rw [b3] at e3
  refine Ev.bind e1 (Ev.bind e2 (Ev.bind e3 (ev_some fun _ => ?_)))
  decide +kernel
theorem nil_list : (⟨#[]⟩ : ByteArray).toList = ([] : List UInt8) := by decide +kernel
theorem ev_awake' {α : Type} {f : Bool → Option α} {r : α} (h : f true = some r) : Ev (fun k => (silkwormlaw01_awake.f k).bind f) r := ev_bind_some ev_awake h
end Go.Proofs.YtblhfodkbjdeoaaDoor.PureL
