/- Numbers as vectors, and back: what Of and Number answer, in the words of Spec. -/
import Derived.Test.YtblhfodkbjdeoaaDoorPureC
import Derived.Test.YtblhfodkbjdeoaaDoorPLgx13
import Derived.Laws.BitsLemmas
namespace Go.Proofs.YtblhfodkbjdeoaaDoor.PureL
open Go.RowKit Go.Proofs.YtblhfodkbjdeoaaDoorW.PrintWords Go.Proofs.YtblhfodkbjdeoaaDoorW.PrintLast Go.Proofs.YtblhfodkbjdeoaaDoorW.PrintMore Go.Proofs.YtblhfodkbjdeoaaDoor.Vec Go.Proofs.YtblhfodkbjdeoaaDoor.PLg
set_option linter.unusedVariables false

/-- A number as a vector, so wide. -/
def ofL : Nat → Int → List Int
  | 0, _ => []
  | w + 1, n => ofL w (n / 2) ++ [48 + n % 2]
theorem ofL_length : ∀ (w : Nat) (n : Int), (ofL w n).length = w
  | 0, _ => rfl
  | w + 1, n => by simp [ofL, ofL_length w]
theorem ofL_known : ∀ (w : Nat) (n : Int), known (ofL w n) = true
  | 0, _ => rfl
  | w + 1, n => by
    have ih := ofL_known w (n / 2)
    unfold known at *
    rw [ofL, List.all_append, ih, Bool.true_and, List.all_cons, List.all_nil, Bool.and_true]
    have : n % 2 = 0 ∨ n % 2 = 1 := by omega
    rcases this with h | h <;> rw [h] <;> rfl
theorem numb_snoc (l : List Int) (b : Int) : numb (l ++ [b]) = 2 * numb l + (b - 48) := by
  unfold numb
  rw [List.foldl_append, List.foldl_cons, List.foldl_nil]
theorem numb_ofL : ∀ (w : Nat) (n : Int), numb (ofL w n) = n % 2 ^ w
  | 0, n => by simp [ofL, numb]
  | w + 1, n => by
    rw [ofL, numb_snoc, numb_ofL w (n / 2), Int.pow_succ]
    have hp := pow_pos' w
    generalize (2 : Int) ^ w = p at *
    have h1 := Int.emod_add_mul_ediv n 2
    have h2 := Int.emod_add_mul_ediv (n / 2) p
    have h3 := Int.emod_nonneg (n / 2) (by omega : p ≠ 0)
    have h4 := Int.emod_lt_of_pos (n / 2) hp
    have e : n = (2 * (n / 2 % p) + n % 2) + (p * 2) * (n / 2 / p) := by
      generalize hq : n / 2 / p = q at *
      generalize hr : n / 2 % p = r at *
      have : n / 2 = r + p * q := by omega
      grind
    have hlt : 2 * (n / 2 % p) + n % 2 < p * 2 := by omega
    have h0 : 0 ≤ 2 * (n / 2 % p) + n % 2 := by omega
    conv => rhs; rw [e]
    rw [Int.add_mul_emod_self_left, Int.emod_eq_of_lt h0 hlt]
    omega
theorem ofL_vec {w : Nat} (h1 : 1 ≤ w) (h2 : w ≤ 256) (n : Int) : isVec (strOfNums (ofL w n)) = true := by
  rw [isVec_iff, V_str (known_bits (ofL_known w n))]
  exact ⟨by rw [ofL_length]; exact h1, by rw [ofL_length]; exact h2, known_bits (ofL_known w n)⟩
theorem and_mask (x : Int) (i : Nat) (hi : i ≤ 62) : Go.bits .and .i64 x (2 ^ i - 1) = x % 2 ^ i := by
  have hp : (2 : Nat) ^ i ≤ 2 ^ 62 := Nat.pow_le_pow_right (by decide) hi
  have hpos : 0 < 2 ^ i := Nat.two_pow_pos i
  have hm : ((2 : Int) ^ i - 1) = ((2 ^ i - 1 : Nat) : Int) := by rw [Int.natCast_sub hpos]; simp
  have e2 : ((2 : Int) ^ i) = ((2 ^ i : Nat) : Int) := by simp
  rw [hm]
  show IntKind.i64.wrap ((BitVec.ofInt 64 x &&& BitVec.ofInt 64 ((2 ^ i - 1 : Nat) : Int)).toNat : Int) = _
  rw [BitVec.ofInt_natCast, BitVec.toNat_and, BitVec.toNat_ofNat, BitVec.toNat_ofInt]
  have h64 : (2 ^ i - 1) % 2 ^ 64 = 2 ^ i - 1 := Nat.mod_eq_of_lt (by
    have : (2 : Nat) ^ 62 < 2 ^ 64 := by decide
    omega)
  rw [h64, Nat.and_two_pow_sub_one_eq_mod, IntKind.wrap_i64]
  have hd : (2 ^ i : Nat) ∣ 2 ^ 64 := Nat.pow_dvd_pow 2 (by omega)
  have key : (((x % ((2 ^ 64 : Nat) : Int)).toNat % 2 ^ i : Nat) : Int) = x % 2 ^ i := by
    have hnn : 0 ≤ x % ((2 ^ 64 : Nat) : Int) := Int.emod_nonneg _ (by decide)
    rw [Int.natCast_emod, Int.toNat_of_nonneg hnn, e2]
    exact Int.emod_emod_of_dvd x (Int.natCast_dvd_natCast.2 hd)
  rw [key]
  have h3 := Int.emod_nonneg x (by rw [e2]; omega : (2 : Int) ^ i ≠ 0)
  have h4 := Int.emod_lt_of_pos x (by rw [e2]; omega : (0 : Int) < 2 ^ i)
  have hp' : (2 : Nat) ^ i ≤ 4611686018427387904 := Nat.le_trans hp (by decide)
  have h5 : (2 : Int) ^ i ≤ 4611686018427387904 := by rw [e2]; omega
  omega
theorem and_one64 (x : Int) (h0 : 0 ≤ x) : Go.bits .and .i64 x 1 = x % 2 := and_mask x 1 (by decide)

/-- The answer of Of. -/
def ofS (n wide : Int) : ByteArray × Int := if n < 0 ∨ wide < 1 ∨ 256 < wide then (⟨#[]⟩, 1) else (strOfNums (ofL wide.toNat n), 0)
theorem ev_of (n wide : Int) : Ev (fun k => logic_Of.f k n wide) (ofS n wide) := by
  unfold logic_Of.f ofS
  have bad : Ev (fun k => logic_Of.j0 k n wide true) (⟨#[]⟩, 1) := Ev.step (fun k => logic_Of.j0.eq_2 _ _ _ k) (ev_pos rfl (ev_some fun _ => rfl))
  by_cases h1 : n < 0
  · rw [if_pos (.inl h1)]
    exact ev_pos h1 bad
  refine ev_neg h1 ?_
  by_cases h2 : wide < 1
  · rw [if_pos (.inr (.inl h2))]
    exact ev_pos h2 bad
  refine ev_neg h2 ?_
  by_cases h3 : wide > 256
  · rw [if_pos (.inr (.inr h3)), show decide (wide > 256) = true from decide_eq_true h3]
    exact bad
  rw [if_neg (by omega), show decide (wide > 256) = false from decide_eq_false h3]
  obtain ⟨w, rfl⟩ := Int.eq_ofNat_of_zero_le (by omega : 0 ≤ wide)
  refine Ev.step (fun k => logic_Of.j0.eq_2 _ _ _ k) (ev_neg (by decide) (ev_pos (by omega) (ev_pos (by omega) ?_)))
  rw [w64_in (by omega) (by omega), Int.toNat_natCast]
  have key := fill_down w (fun n : Int => 0 ≤ n) (fun k n xs i => logic_Of.l0 k n xs i) (fun _ n => 48 + n % 2) (fun _ n => n / 2) (fun xs => (strOfNums xs, (0 : Int)))
    (fun i n hi hn => by omega)
    (fun k n xs i hi hn hx => by
      simp only [logic_Of.l0]
      rw [if_pos (by omega), if_pos (by omega), if_pos (by omega), and_one64 n hn, w64_in (by omega) (by omega)]
      congr 1
      rw [Int.toNat_natCast]
      congr 1
      omega)
    (fun k n xs hx => by
      simp only [logic_Of.l0]
      rw [if_neg (by omega)]) (fun i n => ofL i n) (fun n => rfl) (fun i n hi hn => rfl) w n (List.replicate w 0) (Nat.le_refl _) (by omega) (by simp)
  refine ev_congr key ?_
  rw [List.drop_of_length_le (by simp), List.append_nil]
/-- The answer of Number. -/
def numS (s : ByteArray) : Int × Int := if isVec s = true then (if known (V s) = true then (if numb (V s) > 2147483647 then (0, 61) else (numb (V s), 0)) else (0, 60)) else (0, 10)
theorem ev_numberS (s : ByteArray) (hs : s.size ≤ 140737488355328) : Ev (fun k => logic_Number.f k s) (numS s) := by
  unfold logic_Number.f numS
  refine ev_now (check s hs) ?_
  by_cases hv : isVec s = true
  · rw [if_pos hv, if_pos hv]
    have zs := vec_size hv
    refine ev_pos rfl (ev_now (ev_known s (vec_bits hv) (by omega)) ?_)
    by_cases kv : known (V s) = true
    · rw [if_pos kv]
      refine ev_pos kv (Ev.bind (ev_number s kv (by omega) 2147483648 (by decide) (by decide)) ?_)
      by_cases big : numb (V s) > 2147483647
      · rw [if_pos big]
        exact ev_pos (by omega) (ev_some fun _ => rfl)
      · rw [if_neg big]
        refine ev_neg (by omega) (ev_some fun _ => ?_)
        rw [show min (numb (V s)) 2147483648 = numb (V s) by omega]
    · rw [if_neg kv]
      exact ev_neg kv (ev_some fun _ => rfl)
  · rw [if_neg hv, if_neg hv]
    exact ev_neg (by decide) (ev_some fun _ => rfl)

end Go.Proofs.YtblhfodkbjdeoaaDoor.PureL
