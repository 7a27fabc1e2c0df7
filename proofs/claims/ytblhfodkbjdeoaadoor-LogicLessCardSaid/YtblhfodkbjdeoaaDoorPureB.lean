/- What the printed functions of package logic answer, in the words of Spec: numbers, sums, and what is done bit by bit. -/
import Derived.Test.YtblhfodkbjdeoaaDoorPureA
import Derived.Test.YtblhfodkbjdeoaaDoorPLgx2
import Derived.Test.YtblhfodkbjdeoaaDoorPLgx3
namespace Go.Proofs.YtblhfodkbjdeoaaDoor.PureL
open Go.RowKit Go.Proofs.YtblhfodkbjdeoaaDoorW.PrintWords Go.Proofs.YtblhfodkbjdeoaaDoorW.PrintLast Go.Proofs.YtblhfodkbjdeoaaDoorW.PrintMore Go.Proofs.YtblhfodkbjdeoaaDoor.Vec Go.Proofs.YtblhfodkbjdeoaaDoor.PLg
set_option linter.unusedVariables false

/-! ### numbers -/
theorem numb_from : ∀ (l : List Int) (n : Int), l.foldl (fun n b => 2 * n + (b - 48)) n = n * 2 ^ l.length + numb l
  | [], n => by simp [numb]
  | b :: l, n => by
    have h1 := numb_from l (2 * n + (b - 48))
    have h2 := numb_from l (2 * 0 + (b - 48))
    unfold numb
    rw [List.foldl_cons, List.foldl_cons, h1, h2, List.length_cons, Int.pow_succ]
    generalize (2 : Int) ^ l.length = p
    generalize numb l = q
    grind
theorem numb_cons (b : Int) (l : List Int) : numb (b :: l) = (b - 48) * 2 ^ l.length + numb l := by
  have := numb_from l (2 * 0 + (b - 48))
  unfold numb at *
  rw [List.foldl_cons, this]
  simp
theorem pow_pos' (n : Nat) : (0 : Int) < 2 ^ n := Int.pow_pos (by decide)
theorem numb_range : ∀ {l : List Int}, known l = true → 0 ≤ numb l ∧ numb l < 2 ^ l.length
  | [], _ => by simp [numb]
  | b :: l, h => by
    unfold known at h
    rw [List.all_cons, Bool.and_eq_true] at h
    obtain ⟨h1, h2⟩ := numb_range (l := l) h.2
    have := pow_pos' l.length
    rw [numb_cons, List.length_cons, Int.pow_succ]
    rcases one_cases h.1 with rfl | rfl <;> simp <;> omega
theorem foldl_cap (most : Int) (hm : 0 ≤ most) : ∀ (l : List Int) (n : Int), known l = true → 0 ≤ n → l.foldl (fun n b => min (2 * n + (b - 48)) most) (min n most) = min (l.foldl (fun n b => 2 * n + (b - 48)) n) most
  | [], n, _, _ => rfl
  | b :: l, n, h, hn => by
    unfold known at h
    rw [List.all_cons, Bool.and_eq_true] at h
    rw [List.foldl_cons, List.foldl_cons]
    have hb := one_cases h.1
    have e : min (2 * min n most + (b - 48)) most = min (2 * n + (b - 48)) most := by omega
    rw [e]
    exact foldl_cap most hm l (2 * n + (b - 48)) h.2 (by omega)
theorem bit_mod {b : Int} (h : oneB b = true) : (b - 48) % 256 = b - 48 := by rcases one_cases h with rfl | rfl <;> rfl
theorem getD_all {p : Int → Bool} {l : List Int} (h : l.all p = true) {i : Nat} (hi : i < l.length) : p (l.getD i 0) = true := by
  rw [getD_lt l 0 hi]; exact List.all_eq_true.1 h _ (List.getElem_mem hi)
theorem ev_number (s : ByteArray) (h : known (V s) = true) (hs : s.size ≤ 65536) (most : Int) (h0 : 0 ≤ most) (h1 : most ≤ 4294967296) : Ev (fun k => logic_number.f k s most) (min (numb (V s)) most) := by
  have key := scan_foldI s.size (fun _ (n : Int) => 0 ≤ n ∧ n ≤ most) (fun k n i => logic_number.l0 k s most n (s.size : Int) i) (fun n j => min (2 * n + ((V s).getD j 0 - 48)) most) id
    (fun i n hi hn => by
      have := one_cases (getD_all h (by rw [← size_len]; exact hi))
      constructor <;> omega)
    (fun k n i hi hn => by
      have hb := getD_all h (i := i) (by rw [← size_len]; exact hi)
      have hb' := one_cases hb
      simp only [logic_number.l0]
      rw [if_pos (by omega), if_pos (by omega), if_pos (by omega), bt_V, bit_mod hb, w64_in (x := 2 * n) (by omega) (by omega), w64_in (by omega) (by omega), w64_in (by omega) (by omega)]
      congr 1
      unfold mn
      split <;> omega)
    (fun k n hn => by
      simp only [logic_number.l0]
      rw [if_neg (by omega)]
      rfl) s.size 0 0 (by omega) ⟨by omega, h0⟩
  refine ev_congr key ?_
  have e := foldl_range' (fun (n : Int) b => min (2 * n + (b - 48)) most) 0 (V s) 0 [] 0 rfl
  rw [← size_len] at e
  simp only [List.nil_append] at e
  rw [id, e]
  have e2 := foldl_cap most h0 (V s) 0 h (by omega)
  rw [show min (0 : Int) most = 0 by omega] at e2
  rw [e2]
  rfl

/-! ### sums -/
theorem sumC_snoc : ∀ (x y : List Int) (p q c : Int), x.length = y.length →
    sumC (x ++ [p]) (y ++ [q]) c = ((sumC x y (((p - 48) + (q - 48) + c) / 2)).1 ++ [48 + ((p - 48) + (q - 48) + c) % 2], (sumC x y (((p - 48) + (q - 48) + c) / 2)).2)
  | [], [], p, q, c, _ => by simp [sumC]
  | a :: x, b :: y, p, q, c, h => by
    have ih := sumC_snoc x y p q c (by simpa using h)
    simp only [List.cons_append, sumC, ih]
  | [], _ :: _, _, _, _, h => by simp at h
  | _ :: _, [], _, _, _, h => by simp at h
theorem sumC_take (a b : List Int) (h : a.length ≤ b.length) (i : Nat) (hi : i < a.length) (c : Int) :
    (sumC (a.take (i + 1)) (b.take (i + 1)) c).1 = (sumC (a.take i) (b.take i) ((a.getD i 0 - 48 + (b.getD i 0 - 48) + c) / 2)).1 ++ [48 + (a.getD i 0 - 48 + (b.getD i 0 - 48) + c) % 2] := by
  rw [List.take_succ_eq_append_getElem hi, List.take_succ_eq_append_getElem (by omega : i < b.length), sumC_snoc _ _ _ _ _ (by simp; omega), getD_lt a 0 hi, getD_lt b 0 (by omega)]
theorem and_one : ∀ x : Int, x = 0 ∨ x = 1 ∨ x = 2 ∨ x = 3 → Go.bits .and .u8 x 1 = x % 2 := by
  rintro x (rfl | rfl | rfl | rfl) <;> decide
theorem ev_sum (a b : ByteArray) (c : Int) (ha : known (V a) = true) (hb : known (V b) = true) (hl : a.size = b.size) (hs : a.size ≤ 65536) (hc : c = 0 ∨ c = 1) :
    Ev (fun k => logic_sum.f k a b c) (strOfNums (sumC (V a) (V b) c).1) := by
  unfold logic_sum.f
  refine ev_pos (by omega) (ev_pos (by omega) ?_)
  rw [w64_in (by omega) (by omega)]
  have key := fill_down a.size (fun c : Int => c = 0 ∨ c = 1) (fun k c xs i => logic_sum.l0 k a b c xs i) (fun i c => 48 + ((V a).getD i 0 - 48 + ((V b).getD i 0 - 48) + c) % 2) (fun i c => ((V a).getD i 0 - 48 + ((V b).getD i 0 - 48) + c) / 2) strOfNums
    (fun i c hi hc => by
      have h1 := one_cases (getD_all ha (i := i) (by rw [← size_len]; exact hi))
      have h2 := one_cases (getD_all hb (i := i) (by rw [← size_len]; omega))
      omega)
    (fun k c xs i hi hc hx => by
      have h1 := one_cases (getD_all ha (i := i) (by rw [← size_len]; exact hi))
      have h2 := one_cases (getD_all hb (i := i) (by rw [← size_len]; omega))
      simp only [logic_sum.l0]
      rw [if_pos (by omega), if_pos (by omega), if_pos (by omega), if_pos (by omega), if_pos (by omega), bt_V, bt_V, w64_in (by omega) (by omega)]
      have e : ((((((V a).getD i 0 - 48) % 256 + (V b).getD i 0) % 256 - 48) % 256) + c) % 256 = (V a).getD i 0 - 48 + ((V b).getD i 0 - 48) + c := by omega
      rw [e, and_one _ (by omega)]
      congr 1
      rw [Int.toNat_natCast]
      congr 1
      omega)
    (fun k c xs hx => by
      simp only [logic_sum.l0]
      rw [if_neg (by omega)])
    (fun i c => (sumC ((V a).take i) ((V b).take i) c).1) (fun c => by simp [sumC]) (fun i c hi hc => sumC_take (V a) (V b) (by rw [← size_len, ← size_len]; omega) i (by rw [← size_len]; exact hi) c)
    a.size c (List.replicate a.size 0) (Nat.le_refl _) hc (by simp)
  refine ev_congr key ?_
  rw [List.drop_of_length_le (by simp), List.append_nil]
  congr 2
  rw [List.take_of_length_le (by rw [← size_len]; omega), List.take_of_length_le (by rw [← size_len]; omega)]

/-! ### bit by bit -/
theorem each_of (l : Nat → ByteArray → ByteArray → List Int → Int → Int → Option ByteArray) (g : Nat → Int → Int → Option Int) (f : Int → Int → Int) (hg : ∀ x y, Ev (fun k => g k x y) (f x y))
    (a b : ByteArray) (h : a.size ≤ b.size) (hs : a.size ≤ 65536)
    (hl : ∀ k x7 x14, l (k + 1) a b x7 (a.size : Int) x14 = if x14 < (a.size : Int) then (if 0 ≤ x14 then (if x14 < (a.size : Int) then (if x14 < (b.size : Int) then ((g k (bt a x14) (bt b x14)).bind fun t => (if x14 < (x7.length : Int) then (l k a b (x7.set (x14 : Int).toNat t) (a.size : Int) (wrap64 (x14 + 1))) else (none))) else (none)) else (none)) else (none)) else (some (strOfNums x7))) :
    Ev (fun k => if 0 ≤ (a.size : Int) then (if ((a.size : Int) : Int).toNat ≤ 281474976710656 then (l k a b (List.replicate ((a.size : Int) : Int).toNat 0) (a.size : Int) 0) else (none)) else (none)) (strOfNums (each f (V a) (V b))) := by
  refine ev_pos (by omega) (ev_pos (by omega) ?_)
  have key := fill_up a.size (fun k xs i => l k a b xs (a.size : Int) i) (fun k i => g k ((V a).getD i 0) ((V b).getD i 0)) (fun i => f ((V a).getD i 0) ((V b).getD i 0)) strOfNums
    (fun k xs i hi hx => by
      show l (k + 1) a b xs (a.size : Int) (i : Int) = _
      rw [hl, if_pos (by omega), if_pos (by omega), if_pos (by omega), if_pos (by omega), bt_V, bt_V]
      congr 1
      funext t
      rw [if_pos (by omega), w64_in (by omega) (by omega)]
      rfl)
    (fun i hi => hg _ _)
    (fun k xs hx => by
      show l (k + 1) a b xs (a.size : Int) (a.size : Int) = _
      rw [hl, if_neg (by omega)]) a.size 0 (List.replicate a.size 0) (by omega) (by simp)
  refine ev_congr key ?_
  rw [List.take_zero, List.nil_append]
  congr 1
  have := map_range'_zip f (V a) (V b) (by rw [← size_len, ← size_len]; exact h)
  rw [← size_len] at this
  exact this
theorem ev_each_and (a b : ByteArray) (h : a.size ≤ b.size) (hs : a.size ≤ 65536) : Ev (fun k => logic_each_and.f k a b) (strOfNums (each andB (V a) (V b))) :=
  each_of logic_each_and.l0 logic_and.f andB ev_and a b h hs (fun k x7 x14 => by rw [logic_each_and.l0])
theorem ev_each_or (a b : ByteArray) (h : a.size ≤ b.size) (hs : a.size ≤ 65536) : Ev (fun k => logic_each_or.f k a b) (strOfNums (each orB (V a) (V b))) :=
  each_of logic_each_or.l0 logic_or.f orB ev_or a b h hs (fun k x7 x14 => by rw [logic_each_or.l0])
theorem ev_each_xor (a b : ByteArray) (h : a.size ≤ b.size) (hs : a.size ≤ 65536) : Ev (fun k => logic_each_xor.f k a b) (strOfNums (each xorB (V a) (V b))) :=
  each_of logic_each_xor.l0 logic_xor.f xorB ev_xor a b h hs (fun k x7 x14 => by rw [logic_each_xor.l0])
theorem zip_self (f : Int → Int) : ∀ l : List Int, List.zipWith (fun x _ => f x) l l = l.map f
  | [] => rfl
  | a :: l => by rw [List.zipWith_cons_cons, List.map_cons, zip_self f l]
theorem ev_turned (a : ByteArray) (hs : a.size ≤ 65536) : Ev (fun k => logic_turned.f k a) (strOfNums (turned (V a))) := by
  unfold logic_turned.f
  refine ev_bind_some (each_of logic_each_turned.l0 (fun _ x y => logic_turned_1.f x y) (fun x _ => notB x) (fun x y => ev_some fun _ => by unfold logic_turned_1.f; rw [ev_not, Option.bind_some]) a a (Nat.le_refl _) hs (fun k x7 x14 => by rw [logic_each_turned.l0])) ?_
  unfold turned each
  rw [zip_self]

/-! ### which one is less -/
theorem known_map {x : List UInt8} (h : known (x.map fun b => (b.toNat : Int)) = true) : ∀ c ∈ x, c = 48 ∨ c = 49 := by
  intro c hc
  have := one_cases (List.all_eq_true.1 h _ (List.mem_map.2 ⟨c, hc, rfl⟩))
  rcases this with e | e
  · exact .inl (UInt8.toNat_inj.1 (by have : c.toNat = 48 := by omega
                                      rw [this]; rfl))
  · exact .inr (UInt8.toNat_inj.1 (by have : c.toNat = 49 := by omega
                                      rw [this]; rfl))
theorem known_cons {b : Int} {l : List Int} : known (b :: l) = true ↔ oneB b = true ∧ known l = true := by
  unfold known; rw [List.all_cons, Bool.and_eq_true]
theorem compare_numb : ∀ (x y : List UInt8), x.length = y.length → known (x.map fun b => (b.toNat : Int)) = true → known (y.map fun b => (b.toNat : Int)) = true →
    Lib.compareBytes x y = if numb (x.map fun b => (b.toNat : Int)) < numb (y.map fun b => (b.toNat : Int)) then -1 else if numb (y.map fun b => (b.toNat : Int)) < numb (x.map fun b => (b.toNat : Int)) then 1 else 0
  | [], [], _, _, _ => by simp [Lib.compareBytes]
  | a :: x, b :: y, hl, hx, hy => by
    have hl' : x.length = y.length := by simpa using hl
    have hx' := known_cons.1 hx
    have hy' := known_cons.1 hy
    have ih := compare_numb x y hl' hx'.2 hy'.2
    have r1 := numb_range hx'.2
    have r2 := numb_range hy'.2
    rw [List.length_map] at r1 r2
    rw [← hl'] at r2
    simp only [List.map_cons, numb_cons, List.length_map, Lib.compareBytes, ← hl']
    rcases known_map hx a (List.mem_cons_self ..) with rfl | rfl <;> rcases known_map hy b (List.mem_cons_self ..) with rfl | rfl
    · rw [if_neg (by decide), if_neg (by decide), ih]
      simp
    · rw [if_pos (by decide), if_pos]
      simp
      omega
    · rw [if_neg (by decide), if_pos (by decide), if_neg, if_pos]
      · simp; omega
      · simp; omega
    · rw [if_neg (by decide), if_neg (by decide), ih]
      simp
  | [], _ :: _, h, _, _ => by simp at h
  | _ :: _, [], h, _, _ => by simp at h
theorem V_def (s : ByteArray) : V s = s.data.toList.map fun b => (b.toNat : Int) := rfl
theorem ev_compare (a b : ByteArray) (hl : a.size = b.size) (ha : known (V a) = true) (hb : known (V b) = true) :
    strings_Compare.f a b = some (if numb (V a) < numb (V b) then -1 else if numb (V b) < numb (V a) then 1 else 0) := by
  unfold strings_Compare.f
  rw [compare_numb _ _ (by rw [data_length, data_length]; exact hl) ha hb]
  rfl
theorem tell_str (b : Bool) : (if b = true then (⟨#[49]⟩ : ByteArray) else ⟨#[48]⟩) = strOfNums [tell b] := by cases b <;> rfl
theorem ev_is (b : Bool) : logic_is.f b = some (strOfNums [tell b]) := by cases b <;> rfl
theorem cmp_facts (x y : Int) : ∀ c, c = (if x < y then -1 else if y < x then (1 : Int) else 0) →
    decide (c < 0) = decide (x < y) ∧ decide (c ≤ 0) = decide (x ≤ y) ∧ decide (c > 0) = decide (y < x) ∧ decide (c ≥ 0) = decide (y ≤ x) ∧ (c == 0) = decide (x = y) ∧ (c != 0) = !decide (x = y) := by
  intro c hc
  have h : (x < y ∧ c = -1) ∨ (x = y ∧ c = 0) ∨ (y < x ∧ c = 1) := by
    rcases (by omega : x < y ∨ x = y ∨ y < x) with h | h | h
    · exact .inl ⟨h, by rw [hc, if_pos h]⟩
    · exact .inr (.inl ⟨h, by rw [hc, if_neg (by omega), if_neg (by omega)]⟩)
    · exact .inr (.inr ⟨h, by rw [hc, if_neg (by omega), if_pos h]⟩)
  clear hc
  rcases h with ⟨h, rfl⟩ | ⟨rfl, rfl⟩ | ⟨h, rfl⟩
  · have h1 : x ≤ y := by omega
    have h2 : ¬ y < x := by omega
    have h3 : ¬ y ≤ x := by omega
    have h4 : ¬ x = y := by omega
    simp [h, h1, h2, h3, h4]
  · simp
  · have h1 : ¬ x ≤ y := by omega
    have h2 : ¬ x < y := by omega
    have h3 : y ≤ x := by omega
    have h4 : ¬ x = y := by omega
    simp [h, h1, h2, h3, h4]
theorem cmp_known (op : Int) {a b : List Int} (ka : known a = true) (kb : known b = true) : cmp op a b =
    [tell (if op = 17 then decide (numb a < numb b) else if op = 18 then decide (numb a ≤ numb b) else if op = 19 then decide (numb b < numb a) else if op = 20 then decide (numb b ≤ numb a) else if op = 21 then decide (numb a = numb b) else !decide (numb a = numb b))] := by
  unfold cmp
  rw [if_pos ⟨ka, kb⟩]
theorem cmp_unknown (op : Int) {a b : List Int} (h : ¬ (known a = true ∧ known b = true)) : cmp op a b = [120] := by
  unfold cmp
  rw [if_neg h]
theorem ev_compared (op : Int) (a b : ByteArray) (hl : a.size = b.size) (hs : a.size ≤ 65536) (ha : ∀ z ∈ V a, bitB z = true) (hb : ∀ z ∈ V b, bitB z = true) :
    Ev (fun k => logic_compared.f k op a b) (strOfNums (cmp op (V a) (V b))) := by
  unfold logic_compared.f
  refine ev_now (ev_known a ha hs) ?_
  by_cases ka : known (V a) = true
  · refine ev_pos ka (ev_now (ev_known b hb (by omega)) ?_)
    refine Ev.step (fun k => logic_compared.j0.eq_2 _ _ _ _ k) ?_
    by_cases kb : known (V b) = true
    · refine ev_neg (by simp [kb]) (ev_now (ev_compare a b hl ka kb) ?_)
      rw [cmp_known op ka kb]
      refine ev_some fun _ => ?_
      obtain ⟨f1, f2, f3, f4, f5, f6⟩ := cmp_facts (numb (V a)) (numb (V b)) _ rfl
      simp only [ev_is, Option.bind_some, f1, f2, f3, f4, f5, f6]
      repeat' split
      all_goals rfl
    · refine ev_pos (by simp [kb]) (ev_some fun _ => ?_)
      rw [cmp_unknown op (fun h => kb h.2)]
      rfl
  · refine ev_neg ka ?_
    refine Ev.step (fun k => logic_compared.j0.eq_2 _ _ _ _ k) (ev_pos rfl (ev_some fun _ => ?_))
    rw [cmp_unknown op (fun h => ka h.1)]
    rfl
end Go.Proofs.YtblhfodkbjdeoaaDoor.PureL
