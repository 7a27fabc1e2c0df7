/- Sums, turns and bitwise operators of known vectors are those of their numbers. -/
import Derived.Test.YtblhfodkbjdeoaaDoorPureT
import Derived.Test.YtblhfodkbjdeoaaDoorPureU
namespace Go.Proofs.YtblhfodkbjdeoaaDoor.PureL
open Go.RowKit Go.Proofs.YtblhfodkbjdeoaaDoorW.PrintWords Go.Proofs.YtblhfodkbjdeoaaDoorW.PrintLast Go.Proofs.YtblhfodkbjdeoaaDoorW.PrintMore Go.Proofs.YtblhfodkbjdeoaaDoor.Vec Go.Proofs.YtblhfodkbjdeoaaDoor.PLg
set_option linter.unusedVariables false

theorem sumC_known : ∀ (x y : List Int) (c : Int), known (sumC x y c).1 = true
  | [], _, _ => by simp [sumC, known]
  | _ :: _, [], _ => by simp [sumC, known]
  | a :: x, b :: y, c => by
    simp only [sumC]
    rw [known_cons]
    refine ⟨?_, sumC_known x y c⟩
    have : (a - 48 + (b - 48) + (sumC x y c).2) % 2 = 0 ∨ (a - 48 + (b - 48) + (sumC x y c).2) % 2 = 1 := by omega
    rcases this with e | e <;> rw [e] <;> rfl
theorem numb_sumC : ∀ (x y : List Int) (c : Int), x.length = y.length → numb (sumC x y c).1 + 2 ^ x.length * (sumC x y c).2 = numb x + numb y + c
  | [], [], c, _ => by simp [sumC, numb]
  | [], _ :: _, _, h => by simp at h
  | _ :: _, [], _, h => by simp at h
  | a :: x, b :: y, c, h => by
    have hl : x.length = y.length := by simpa using h
    have ih := numb_sumC x y c hl
    have lr : (sumC x y c).1.length = x.length := by rw [sumC_length]; omega
    simp only [sumC]
    rw [numb_cons, numb_cons, numb_cons, lr, ← hl, List.length_cons, Int.pow_succ]
    generalize (2 : Int) ^ x.length = P at *
    generalize (sumC x y c).2 = d at *
    have hs := Int.emod_add_mul_ediv (a - 48 + (b - 48) + d) 2
    generalize (a - 48 + (b - 48) + d) % 2 = m at *
    generalize (a - 48 + (b - 48) + d) / 2 = q at *
    have hm : m = a - 48 + (b - 48) + d - 2 * q := by omega
    subst hm
    grind
theorem sumC_mod (x y : List Int) (c : Int) (hl : x.length = y.length) : numb (sumC x y c).1 = (numb x + numb y + c) % 2 ^ x.length := by
  have h := numb_sumC x y c hl
  have hr := numb_range (sumC_known x y c)
  have lr : (sumC x y c).1.length = x.length := by rw [sumC_length]; omega
  rw [lr] at hr
  rw [← h, Int.add_mul_emod_self_left, Int.emod_eq_of_lt hr.1 hr.2]
theorem numb_turned : ∀ {l : List Int}, known l = true → numb (turned l) = 2 ^ l.length - 1 - numb l
  | [], _ => by simp [turned, numb]
  | b :: l, h => by
    have h' := known_cons.1 h
    have ih := numb_turned h'.2
    show numb (notB b :: turned l) = _
    rw [numb_cons, numb_cons, ih, List.length_cons, Int.pow_succ, show (turned l).length = l.length from List.length_map _]
    rcases one_cases h'.1 with rfl | rfl
    · rw [show notB 48 = 49 from rfl]; omega
    · rw [show notB 49 = 48 from rfl]; omega
theorem sub_mod (x y : List Int) (hx : known y = true) (hl : x.length = y.length) : numb (sumC x (turned y) 1).1 = (numb x - numb y) % 2 ^ x.length := by
  rw [sumC_mod x (turned y) 1 (by rw [hl]; exact (List.length_map _).symm), numb_turned hx, ← hl]
  rw [show numb x + (2 ^ x.length - 1 - numb y) + 1 = (numb x - numb y) + 2 ^ x.length by omega, Int.add_emod_right]
theorem neg_mod (x : List Int) (hx : known x = true) : numb (sumC (turned x) (List.replicate x.length 48) 1).1 = (0 - numb x) % 2 ^ x.length := by
  have h0 : ∀ n, numb (List.replicate n 48) = 0 := by
    intro n
    induction n with
    | zero => rfl
    | succ n ih => rw [List.replicate_succ, numb_cons, ih]; omega
  have ht : (turned x).length = x.length := List.length_map _
  rw [sumC_mod _ _ 1 (by rw [ht, List.length_replicate]), ht, numb_turned hx, h0]
  rw [show 2 ^ x.length - 1 - numb x + 0 + 1 = (0 - numb x) + 2 ^ x.length by omega, Int.add_emod_right]
theorem each_snoc (f : Int → Int → Int) {a b : List Int} (x y : Int) (h : a.length = b.length) : each f (a ++ [x]) (b ++ [y]) = each f a b ++ [f x y] := by
  unfold each
  rw [List.zipWith_append h]
  rfl
theorem each_ofL (f : Int → Int → Int) (g : Nat → Nat → Nat) (hd : ∀ p q, g p q / 2 = g (p / 2) (q / 2)) (hm : ∀ p q, f (48 + ((p % 2 : Nat) : Int)) (48 + ((q % 2 : Nat) : Int)) = 48 + ((g p q % 2 : Nat) : Int)) :
    ∀ (w p q : Nat), numb (each f (ofL w (p : Int)) (ofL w (q : Int))) = ((g p q % 2 ^ w : Nat) : Int)
  | 0, p, q => by simp [ofL, each, numb, Nat.mod_one]
  | w + 1, p, q => by
    have ih := each_ofL f g hd hm w (p / 2) (q / 2)
    have e1 : ((p : Int) / 2) = ((p / 2 : Nat) : Int) := by simp
    have e2 : ((q : Int) / 2) = ((q / 2 : Nat) : Int) := by simp
    have e3 : ((p : Int) % 2) = ((p % 2 : Nat) : Int) := by simp
    have e4 : ((q : Int) % 2) = ((q % 2 : Nat) : Int) := by simp
    rw [ofL, ofL, e1, e2, e3, e4, each_snoc f _ _ (by rw [ofL_length, ofL_length]), numb_snoc, ih, hm, ← hd]
    have : g p q % 2 ^ (w + 1) = 2 * (g p q / 2 % 2 ^ w) + g p q % 2 := by
      rw [Nat.pow_succ, Nat.mul_comm, Nat.mod_mul]
      omega
    rw [this]
    omega
theorem each_known (f : Int → Int → Int) (hf : ∀ x y, oneB x = true → oneB y = true → oneB (f x y) = true) : ∀ {a b : List Int}, known a = true → known b = true → known (each f a b) = true
  | [], _, _, _ => by simp [each, known]
  | _ :: _, [], _, _ => by simp [each, known]
  | x :: a, y :: b, ha, hb => by
    have ha' := known_cons.1 ha
    have hb' := known_cons.1 hb
    show known (f x y :: each f a b) = true
    exact known_cons.2 ⟨hf x y ha'.1 hb'.1, each_known f hf ha'.2 hb'.2⟩
theorem mod2 (p : Nat) : p % 2 = 0 ∨ p % 2 = 1 := by omega
theorem one_eq (p : Nat) : 1 = 2 ^ 1 - 1 := rfl
theorem and_ofL (w p q : Nat) : numb (each andB (ofL w (p : Int)) (ofL w (q : Int))) = (((p &&& q) % 2 ^ w : Nat) : Int) :=
  each_ofL andB (· &&& ·) (fun p q => Nat.and_div_two) (fun p q => by
    have : (p &&& q) % 2 = (p % 2) &&& (q % 2) := Nat.and_mod_two_pow (n := 1)
    rw [this]
    rcases mod2 p with h | h <;> rcases mod2 q with h' | h' <;> rw [h, h'] <;> rfl) w p q
theorem or_ofL (w p q : Nat) : numb (each orB (ofL w (p : Int)) (ofL w (q : Int))) = (((p ||| q) % 2 ^ w : Nat) : Int) :=
  each_ofL orB (· ||| ·) (fun p q => Nat.or_div_two) (fun p q => by
    have : (p ||| q) % 2 = (p % 2) ||| (q % 2) := Nat.or_mod_two_pow (n := 1)
    rw [this]
    rcases mod2 p with h | h <;> rcases mod2 q with h' | h' <;> rw [h, h'] <;> rfl) w p q
theorem xor_ofL (w p q : Nat) : numb (each xorB (ofL w (p : Int)) (ofL w (q : Int))) = (((p ^^^ q) % 2 ^ w : Nat) : Int) :=
  each_ofL xorB (· ^^^ ·) (fun p q => Nat.xor_div_two) (fun p q => by
    have : (p ^^^ q) % 2 = (p % 2) ^^^ (q % 2) := Nat.xor_mod_two_pow (n := 1)
    rw [this]
    rcases mod2 p with h | h <;> rcases mod2 q with h' | h' <;> rw [h, h'] <;> rfl) w p q
theorem bits_nats (p q : Nat) (hp : p < 2 ^ 62) (hq : q < 2 ^ 62) :
    Go.bits .and .i64 (p : Int) (q : Int) = ((p &&& q : Nat) : Int) ∧ Go.bits .or .i64 (p : Int) (q : Int) = ((p ||| q : Nat) : Int) ∧ Go.bits .xor .i64 (p : Int) (q : Int) = ((p ^^^ q : Nat) : Int) := by
  have hp' : p % 2 ^ 64 = p := Nat.mod_eq_of_lt (by omega)
  have hq' : q % 2 ^ 64 = q := Nat.mod_eq_of_lt (by omega)
  have ha := Nat.and_lt_two_pow p hq
  have ho := Nat.or_lt_two_pow hp hq
  have hx := Nat.xor_lt_two_pow hp hq
  refine ⟨?_, ?_, ?_⟩
  · show IntKind.i64.wrap ((BitVec.ofInt 64 (p : Int) &&& BitVec.ofInt 64 (q : Int)).toNat : Int) = _
    rw [BitVec.ofInt_natCast, BitVec.ofInt_natCast, BitVec.toNat_and, BitVec.toNat_ofNat, BitVec.toNat_ofNat, hp', hq', IntKind.wrap_i64]
    omega
  · show IntKind.i64.wrap ((BitVec.ofInt 64 (p : Int) ||| BitVec.ofInt 64 (q : Int)).toNat : Int) = _
    rw [BitVec.ofInt_natCast, BitVec.ofInt_natCast, BitVec.toNat_or, BitVec.toNat_ofNat, BitVec.toNat_ofNat, hp', hq', IntKind.wrap_i64]
    omega
  · show IntKind.i64.wrap ((BitVec.ofInt 64 (p : Int) ^^^ BitVec.ofInt 64 (q : Int)).toNat : Int) = _
    rw [BitVec.ofInt_natCast, BitVec.ofInt_natCast, BitVec.toNat_xor, BitVec.toNat_ofNat, BitVec.toNat_ofNat, hp', hq', IntKind.wrap_i64]
    omega
end Go.Proofs.YtblhfodkbjdeoaaDoor.PureL
