/- The pure statement of the law LogicSums. -/
import Derived.Test.YtblhfodkbjdeoaaDoorPureV
import Derived.Test.YtblhfodkbjdeoaaDoorPLgx25
namespace Go.Proofs.YtblhfodkbjdeoaaDoor.Pure
open Go.RowKit Go.Proofs.YtblhfodkbjdeoaaDoorW.PrintWords Go.Proofs.YtblhfodkbjdeoaaDoorW.PrintLast Go.Proofs.YtblhfodkbjdeoaaDoorW.PrintMore Go.Proofs.YtblhfodkbjdeoaaDoor.Vec Go.Proofs.YtblhfodkbjdeoaaDoor.PLg Go.Proofs.YtblhfodkbjdeoaaDoor.PureL
set_option linter.unusedVariables false

theorem tell_list' (c : Bool) : (strOfNums [tell c]).toList = [if c = true then 49 else 48] := by cases c <;> decide +kernel
theorem fit_self {l : List Int} {w : Nat} (h : l.length = w) : fit l w = l := by
  unfold fit
  rw [if_neg (by omega), show l.length - w = 0 by omega, List.drop_zero]
theorem known_vec {l : List Int} (h : known l = true) (h1 : 1 ≤ l.length) (h2 : l.length ≤ 256) : isVec (strOfNums l) = true := by
  rw [isVec_iff, V_str (known_bits h)]
  exact ⟨h1, h2, known_bits h⟩
theorem num_of {l : List Int} {w : Nat} (h : known l = true) (hl : l.length = w) (h1 : 1 ≤ w) (h2 : w ≤ 30) : numS (strOfNums l) = (numb l, 0) := by
  have hr := numb_range h
  have hp : (2 : Int) ^ w ≤ 1073741824 := by
    have : (2 : Nat) ^ w ≤ 2 ^ 30 := Nat.pow_le_pow_right (by decide) h2
    have h3 : ((2 : Int) ^ w) = ((2 ^ w : Nat) : Int) := by simp
    rw [h3]
    have : (2 ^ w : Nat) ≤ 1073741824 := this
    omega
  rw [hl] at hr
  unfold numS
  rw [if_pos (known_vec h (by omega) (by omega)), V_str (known_bits h), if_pos h, if_neg (by omega)]
/-- Operators of two known vectors of one width. -/
theorem bin_of {A B : List Int} {w : Nat} (ka : known A = true) (kb : known B = true) (la : A.length = w) (lb : B.length = w) (h1 : 1 ≤ w) (h2 : w ≤ 30) (op : Int) (h13 : 13 ≤ op) (h25 : op ≤ 25) (hn : op ≠ 15) (hm : op ≠ 16) :
    binS op (strOfNums A) (strOfNums B) = (strOfNums (bin2 op w A B), 0) := by
  unfold binS bin
  rw [if_neg (by omega), if_pos ⟨known_vec ka (by omega) (by omega), known_vec kb (by omega) (by omega)⟩, if_neg (by omega), if_neg (by omega), if_neg (by omega), V_str (known_bits ka), V_str (known_bits kb), la, lb, Nat.max_self, fit_self la, fit_self lb]

theorem sums_l0 (w : Nat) (h1 : 1 ≤ w) (h2 : w ≤ 30) (x8 x9 x10 : Int) (u v : ByteArray) (su : u.size ≤ 256) (sv : v.size ≤ 256) (O W : List Int) (hl : O.length ≤ 100) (r : Nat) (hO : r < O.length) (hW : r < W.length) (l : List Int) (hb : binS (rd O (r : Int)) u v = (strOfNums l, 0))
    (kl : known l = true) (ll : l.length = w) (hv : numb l = rd W (r : Int)) (nx : Ev (fun k => silkwormlaw01_LogicSums.l0 k (w : Int) x8 x9 x10 u v O W ((r + 1 : Nat) : Int)) true) :
    Ev (fun k => silkwormlaw01_LogicSums.l0 k (w : Int) x8 x9 x10 u v O W (r : Int)) true := by
  refine Ev.step (fun k => silkwormlaw01_LogicSums.l0.eq_2 _ _ _ _ _ _ _ _ _ k) (ev_pos (by omega) (ev_pos (by omega) ?_))
  have e := ev_binary (rd O (r : Int)) u v (by omega) (by omega)
  rw [hb] at e
  have en := ev_numberS (strOfNums l) (by rw [str_size]; omega)
  rw [num_of kl ll h1 h2] at en
  have e1 : wrap64 ((r : Int) + 1) = ((r + 1 : Nat) : Int) := by rw [w64_in (by omega) (by omega)]; rfl
  refine Ev.bind e (Ev.bind en (ev_pos rfl (ev_pos rfl (ev_pos (by omega) (ev_pos hv (ev_pos (by rw [str_size, ll]) ?_))))))
  rw [e1]
  exact nx
theorem sums_l1 (x8 x9 : Int) (u v : ByteArray) (su : u.size ≤ 256) (sv : v.size ≤ 256) (O : List Int) (W : List Bool) (hl : O.length ≤ 100) (r : Nat) (hO : r < O.length) (hW : r < W.length) (c : Bool) (hb : binS (rd O (r : Int)) u v = (strOfNums [tell c], 0))
    (hv : rdOf false W (r : Int) = c) (nx : Ev (fun k => silkwormlaw01_LogicSums.l1 k x8 x9 u v O W ((r + 1 : Nat) : Int)) true) :
    Ev (fun k => silkwormlaw01_LogicSums.l1 k x8 x9 u v O W (r : Int)) true := by
  refine Ev.step (fun k => silkwormlaw01_LogicSums.l1.eq_2 _ _ _ _ _ _ _ k) (ev_pos (by omega) (ev_pos (by omega) ?_))
  have e := ev_binary (rd O (r : Int)) u v (by omega) (by omega)
  rw [hb] at e
  have e1 : wrap64 ((r : Int) + 1) = ((r + 1 : Nat) : Int) := by rw [w64_in (by omega) (by omega)]; rfl
  refine Ev.bind e (ev_pos rfl (ev_pos (by omega) ?_))
  rw [hv, e1]
  dsimp only
  rw [tell_list']
  cases c
  · exact ev_neg (by decide) (ev_pos rfl nx)
  · exact ev_neg (by decide) (ev_neg (by decide) (ev_pos rfl nx))

theorem LogicSums : silkwormlaw01_LogicSums.Pure := by
  intro a0 a1 a2 g0 g1 g2
  suffices h : Ev (fun k => silkwormlaw01_LogicSums.f k a0 a1 a2) true from h.rounds
  unfold silkwormlaw01_LogicSums.f
  have m255 : Go.bits .and .i64 a2 255 = a2 % 256 := by rw [show (255 : Int) = 2 ^ 8 - 1 by decide, and_mask a2 8 (by decide)]; rfl
  rw [m255]
  have hw : ∃ w : Nat, 1 ≤ w ∧ w ≤ 30 ∧ wrap64 (1 + Int.tmod (a2 % 256) 30) = (w : Int) := by
    have ht : Int.tmod (a2 % 256) 30 = (a2 % 256) % 30 := Int.tmod_eq_emod_of_nonneg (by omega)
    refine ⟨(1 + (a2 % 256) % 30).toNat, by omega, by omega, ?_⟩
    rw [ht, w64_in (by omega) (by omega)]
    omega
  obtain ⟨w, h1, h2, hw⟩ := hw
  rw [hw]
  have hpn : (2 : Nat) ^ w ≤ 1073741824 := Nat.pow_le_pow_right (by decide : 0 < 2) h2
  have hpi : ((2 : Int) ^ w) = ((2 ^ w : Nat) : Int) := by simp
  have hpos : 0 < 2 ^ w := Nat.two_pow_pos w
  have hm : wrap64 ((Go.Proofs.YtblhfodkbjdeoaaDoorW.PrintWords.shl .i64 1 (w : Int)) - 1) = 2 ^ w - 1 := by
    have hs : Go.Proofs.YtblhfodkbjdeoaaDoorW.PrintWords.shl .i64 1 (w : Int) = 2 ^ w := by
      unfold Go.Proofs.YtblhfodkbjdeoaaDoorW.PrintWords.shl
      rw [Int.toNat_natCast, show IntKind.i64.bits = 64 from rfl, Nat.min_eq_left (by omega), Int.one_mul, IntKind.wrap_i64]
      omega
    rw [hs, w64_in (by omega) (by omega)]
  rw [hm, and_mask a0 w (by omega), and_mask a1 w (by omega)]
  have hP : ∃ P : Nat, P < 2 ^ w ∧ a0 % 2 ^ w = (P : Int) := by
    refine ⟨(a0 % 2 ^ w).toNat, ?_, ?_⟩
    · have := Int.emod_lt_of_pos a0 (show (0 : Int) < 2 ^ w by omega)
      have := Int.emod_nonneg a0 (show (2 : Int) ^ w ≠ 0 by omega)
      omega
    · have := Int.emod_nonneg a0 (show (2 : Int) ^ w ≠ 0 by omega)
      omega
  have hQ : ∃ Q : Nat, Q < 2 ^ w ∧ a1 % 2 ^ w = (Q : Int) := by
    refine ⟨(a1 % 2 ^ w).toNat, ?_, ?_⟩
    · have := Int.emod_lt_of_pos a1 (show (0 : Int) < 2 ^ w by omega)
      have := Int.emod_nonneg a1 (show (2 : Int) ^ w ≠ 0 by omega)
      omega
    · have := Int.emod_nonneg a1 (show (2 : Int) ^ w ≠ 0 by omega)
      omega
  obtain ⟨P, hPl, hP⟩ := hP
  obtain ⟨Q, hQl, hQ⟩ := hQ
  rw [hP, hQ]
  refine ev_pos (by omega) ?_
  have of1 : ∀ n : Nat, Ev (fun k => logic_Of.f k (n : Int) (w : Int)) (strOfNums (ofL w (n : Int)), 0) := by
    intro n
    have e3 := ev_of (n : Int) (w : Int)
    have e3' : ofS (n : Int) (w : Int) = (strOfNums (ofL w (n : Int)), 0) := by
      unfold ofS
      rw [if_neg (by omega), Int.toNat_natCast]
    rwa [e3'] at e3
  refine Ev.bind (of1 P) (Ev.bind (of1 Q) (ev_pos rfl ?_))
  refine Ev.step (fun k => silkwormlaw01_LogicSums.j0.eq_2 _ _ _ _ _ _ _ k) (ev_neg (by simp) ?_)
  dsimp only
  have kA := ofL_known w (P : Int)
  have kB := ofL_known w (Q : Int)
  have lA := ofL_length w (P : Int)
  have lB := ofL_length w (Q : Int)
  have nA : numb (ofL w (P : Int)) = (P : Int) := by rw [numb_ofL]; exact Int.emod_eq_of_lt (by omega) (by omega)
  have nB : numb (ofL w (Q : Int)) = (Q : Int) := by rw [numb_ofL]; exact Int.emod_eq_of_lt (by omega) (by omega)
  have nAnd := and_ofL w P Q
  have nOr := or_ofL w P Q
  have nXor := xor_ofL w P Q
  generalize ofL w (P : Int) = A at *
  generalize ofL w (Q : Int) = B at *
  have sA : (strOfNums A).size ≤ 256 := by rw [str_size]; omega
  have sB : (strOfNums B).size ≤ 256 := by rw [str_size]; omega
  obtain ⟨b1, b2, b3⟩ := bits_nats P Q (by omega) (by omega)
  have lAnd := Nat.and_lt_two_pow P hQl
  have lOr := Nat.or_lt_two_pow hPl hQl
  have lXor := Nat.xor_lt_two_pow hPl hQl
  rw [Nat.mod_eq_of_lt lAnd] at nAnd
  rw [Nat.mod_eq_of_lt lOr] at nOr
  rw [Nat.mod_eq_of_lt lXor] at nXor
  rw [b1, b2, b3, w64_in (x := (P : Int) + Q) (by omega) (by omega), w64_in (x := (P : Int) - Q) (by omega) (by omega), and_mask _ w (by omega), and_mask _ w (by omega)]
  have bo := fun op a b c d => bin_of kA kB lA lB h1 h2 op a b c d
  have le : ∀ f, (each f A B).length = w := by intro f; unfold each; rw [List.length_zipWith]; omega
  have one2 : ∀ (f : Int → Int → Int), (f 48 48 = 48 ∨ f 48 48 = 49) → (f 48 49 = 48 ∨ f 48 49 = 49) → (f 49 48 = 48 ∨ f 49 48 = 49) → (f 49 49 = 48 ∨ f 49 49 = 49) → ∀ x y, oneB x = true → oneB y = true → oneB (f x y) = true := by
    intro f f1 f2 f3 f4 x y hx hy
    rcases one_cases hx with rfl | rfl <;> rcases one_cases hy with rfl | rfl
    · rcases f1 with h | h <;> rw [h] <;> rfl
    · rcases f2 with h | h <;> rw [h] <;> rfl
    · rcases f3 with h | h <;> rw [h] <;> rfl
    · rcases f4 with h | h <;> rw [h] <;> rfl
  have kAnd : known (each andB A B) = true := each_known andB (one2 andB (by decide) (by decide) (by decide) (by decide)) kA kB
  have kOr : known (each orB A B) = true := each_known orB (one2 orB (by decide) (by decide) (by decide) (by decide)) kA kB
  have kXor : known (each xorB A B) = true := each_known xorB (one2 xorB (by decide) (by decide) (by decide) (by decide)) kA kB
  have d13 : bin2 13 w A B = (sumC A B 0).1 := by unfold bin2; rw [if_neg (by decide), if_neg (by decide), if_neg (by decide), if_pos (.inl rfl), if_pos ⟨kA, kB⟩, if_pos rfl]
  have d14 : bin2 14 w A B = (sumC A (turned B) 1).1 := by unfold bin2; rw [if_neg (by decide), if_neg (by decide), if_neg (by decide), if_pos (.inr rfl), if_pos ⟨kA, kB⟩, if_neg (by decide)]
  have lt : (turned B).length = w := (List.length_map _).trans lB
  have v13 : numb (sumC A B 0).1 = ((P : Int) + Q) % 2 ^ w := by rw [sumC_mod A B 0 (by omega), nA, nB, lA, Int.add_zero]
  have v14 : numb (sumC A (turned B) 1).1 = ((P : Int) - Q) % 2 ^ w := by rw [sub_mod A B kB (by omega), nA, nB, lA]
  refine sums_l0 w h1 h2 _ _ _ _ _ sA sB _ _ (by decide) 0 (by decide) (by show 0 < 5; decide) _ ((bo 13 (by decide) (by decide) (by decide) (by decide)).trans (by rw [d13])) (sumC_known _ _ _) (by rw [sumC_length]; omega) v13 ?_
  refine sums_l0 w h1 h2 _ _ _ _ _ sA sB _ _ (by decide) 1 (by decide) (by show 1 < 5; decide) _ ((bo 14 (by decide) (by decide) (by decide) (by decide)).trans (by rw [d14])) (sumC_known _ _ _) (by rw [sumC_length]; omega) v14 ?_
  refine sums_l0 w h1 h2 _ _ _ _ _ sA sB _ _ (by decide) 2 (by decide) (by show 2 < 5; decide) _ (bo 23 (by decide) (by decide) (by decide) (by decide)) kAnd (le _) nAnd ?_
  refine sums_l0 w h1 h2 _ _ _ _ _ sA sB _ _ (by decide) 3 (by decide) (by show 3 < 5; decide) _ (bo 25 (by decide) (by decide) (by decide) (by decide)) kOr (le _) nOr ?_
  refine sums_l0 w h1 h2 _ _ _ _ _ sA sB _ _ (by decide) 4 (by decide) (by show 4 < 5; decide) _ (bo 24 (by decide) (by decide) (by decide) (by decide)) kXor (le _) nXor ?_
  refine Ev.step (fun k => silkwormlaw01_LogicSums.l0.eq_2 _ _ _ _ _ _ _ _ _ k) (ev_neg (by show ¬ ((5 : Int) < 5); decide) ?_)
  have cm : ∀ op : Int, 17 ≤ op → op ≤ 22 → binS op (strOfNums A) (strOfNums B) = (strOfNums (cmp op A B), 0) := by
    intro op p1 p2
    rw [bo op (by omega) (by omega) (by omega) (by omega)]
    unfold bin2
    rw [if_neg (by omega), if_neg (by omega), if_neg (by omega), if_neg (by omega)]
  have cv : ∀ op : Int, cmp op A B = _ := fun op => cmp_known op kA kB
  rw [nA, nB] at cv
  refine sums_l1 _ _ _ _ sA sB _ _ (by decide) 0 (by decide) (by show 0 < 6; decide) (decide ((P : Int) < Q)) ((cm 17 (by decide) (by decide)).trans (by rw [cv]; rfl)) rfl ?_
  refine sums_l1 _ _ _ _ sA sB _ _ (by decide) 1 (by decide) (by show 1 < 6; decide) (decide ((P : Int) ≤ Q)) ((cm 18 (by decide) (by decide)).trans (by rw [cv]; rfl)) rfl ?_
  refine sums_l1 _ _ _ _ sA sB _ _ (by decide) 2 (by decide) (by show 2 < 6; decide) (decide ((P : Int) > Q)) ((cm 19 (by decide) (by decide)).trans (by rw [cv]; rfl)) rfl ?_
  refine sums_l1 _ _ _ _ sA sB _ _ (by decide) 3 (by decide) (by show 3 < 6; decide) (decide ((P : Int) ≥ Q)) ((cm 20 (by decide) (by decide)).trans (by rw [cv]; rfl)) rfl ?_
  refine sums_l1 _ _ _ _ sA sB _ _ (by decide) 4 (by decide) (by show 4 < 6; decide) ((P : Int) == Q) ((cm 21 (by decide) (by decide)).trans (by rw [cv]; rfl)) rfl ?_
  refine sums_l1 _ _ _ _ sA sB _ _ (by decide) 5 (by decide) (by show 5 < 6; decide) ((P : Int) != Q) ((cm 22 (by decide) (by decide)).trans (by rw [cv]; rfl)) rfl ?_
  refine Ev.step (fun k => silkwormlaw01_LogicSums.l1.eq_2 _ _ _ _ _ _ _ k) (ev_neg (by show ¬ ((6 : Int) < 6); decide) ?_)
  have eu := ev_unary 9 (strOfNums A) (by omega)
  have hu : unS 9 (strOfNums A) = (strOfNums (sumC (turned A) (List.replicate A.length 48) 1).1, 0) := by
    unfold unS un
    rw [if_neg (by decide), if_pos (known_vec kA (by omega) (by omega)), V_str (known_bits kA), if_neg (by decide), if_neg (by decide), if_neg (by decide), if_neg (by decide), if_neg (by decide), if_pos kA]
  rw [hu] at eu
  have ln : (sumC (turned A) (List.replicate A.length 48) 1).1.length = w := by
    rw [sumC_length, List.length_replicate, show (turned A).length = A.length from List.length_map _]; omega
  have en := ev_numberS (strOfNums (sumC (turned A) (List.replicate A.length 48) 1).1) (by rw [str_size]; omega)
  rw [num_of (sumC_known _ _ _) ln h1 h2] at en
  refine Ev.bind eu (Ev.bind en (ev_pos rfl (ev_pos rfl (ev_pos ?_ (ev_awake' rfl)))))
  show numb (sumC (turned A) (List.replicate A.length 48) 1).1 = _
  rw [neg_mod A kA, nA, lA, w64_in (by omega) (by omega), and_mask _ w (by omega)]
  congr 1
  omega
end Go.Proofs.YtblhfodkbjdeoaaDoor.Pure
