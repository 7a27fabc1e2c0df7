/- What Unary answers, in the words of Spec. -/
import Derived.Test.YtblhfodkbjdeoaaDoorPureC
import Derived.Test.YtblhfodkbjdeoaaDoorPLgx17
namespace Go.Proofs.YtblhfodkbjdeoaaDoor.PureL
open Go.RowKit Go.Proofs.YtblhfodkbjdeoaaDoorW.PrintWords Go.Proofs.YtblhfodkbjdeoaaDoorW.PrintLast Go.Proofs.YtblhfodkbjdeoaaDoorW.PrintMore Go.Proofs.YtblhfodkbjdeoaaDoor.Vec Go.Proofs.YtblhfodkbjdeoaaDoor.PLg
set_option linter.unusedVariables false

theorem drop_cons (l : List Int) {i : Nat} (h : i < l.length) : l.drop i = l.getD i 0 :: l.drop (i + 1) := by
  rw [List.drop_eq_getElem_cons h, getD_lt l 0 h]
theorem folded_of (l : Nat → Int → ByteArray → Int → Int → Option ByteArray) (g : Nat → Int → Int → Option Int) (f : Int → Int → Int) (hg : ∀ x y, Ev (fun k => g k x y) (f x y)) (a : ByteArray) (hs : a.size ≤ 65536)
    (hl : ∀ k x0 x10, l (k + 1) x0 a (a.size : Int) x10 = if x10 < (a.size : Int) then (if 0 ≤ x10 then (if x10 < (a.size : Int) then ((g k x0 (bt a x10)).bind fun t => (l k t a (a.size : Int) (wrap64 (x10 + 1)))) else (none)) else (none)) else (some (strOfNums (([x0] : List Int))))) :
    ∀ (d i : Nat) (x : Int), d + i = a.size → Ev (fun k => l k x a (a.size : Int) (i : Int)) (strOfNums [((V a).drop i).foldl f x])
  | 0, i, x, hd => by
    obtain rfl : i = a.size := by omega
    refine Ev.step (f := fun _ => some (strOfNums [x])) (fun k => by rw [hl, if_neg (by omega)]) (ev_some fun _ => ?_)
    rw [List.drop_of_length_le (by rw [size_len]; exact Nat.le_refl _), List.foldl_nil]
  | d + 1, i, x, hd => by
    have hi : i < (V a).length := by rw [← size_len]; omega
    refine Ev.step (f := fun k => (g k x ((V a).getD i 0)).bind fun t => l k t a (a.size : Int) ((i + 1 : Nat) : Int)) (fun k => ?_) ?_
    · rw [hl, if_pos (by omega), if_pos (by omega), if_pos (by omega), bt_V, w64_in (by omega) (by omega)]
      rfl
    · rw [drop_cons _ hi, List.foldl_cons]
      exact Ev.bind (hg _ _) (folded_of l g f hg a hs hl d (i + 1) _ (by omega))
theorem ev_folded_and (a : ByteArray) (hs : a.size ≤ 65536) (x : Int) : Ev (fun k => logic_folded_and.f k x a) (strOfNums [(V a).foldl andB x]) :=
  folded_of logic_folded_and.l0 logic_and.f andB ev_and a hs (fun k x0 x10 => by rw [logic_folded_and.l0]) a.size 0 x (by omega)
theorem ev_folded_or (a : ByteArray) (hs : a.size ≤ 65536) (x : Int) : Ev (fun k => logic_folded_or.f k x a) (strOfNums [(V a).foldl orB x]) :=
  folded_of logic_folded_or.l0 logic_or.f orB ev_or a hs (fun k x0 x10 => by rw [logic_folded_or.l0]) a.size 0 x (by omega)
theorem ev_folded_xor (a : ByteArray) (hs : a.size ≤ 65536) (x : Int) : Ev (fun k => logic_folded_xor.f k x a) (strOfNums [(V a).foldl xorB x]) :=
  folded_of logic_folded_xor.l0 logic_xor.f xorB ev_xor a hs (fun k x0 x10 => by rw [logic_folded_xor.l0]) a.size 0 x (by omega)
/-- The answer of Unary. -/
def unS (op : Int) (a : ByteArray) : ByteArray × Int := if op < 7 ∨ 12 < op then (⟨#[]⟩, 1) else if isVec a = true then (strOfNums (un op (V a)), 0) else (⟨#[]⟩, 10)
theorem turned_known {l : List Int} (h : known l = true) : known (turned l) = true := by
  unfold known
  rw [List.all_eq_true]
  intro z hz
  obtain ⟨y, hy, rfl⟩ := List.mem_map.1 hz
  rcases one_cases (List.all_eq_true.1 h y hy) with rfl | rfl <;> rfl
theorem rep_known (n : Nat) : known (List.replicate n 48) = true := by
  unfold known
  rw [List.all_eq_true]
  intro z hz
  rw [(List.mem_replicate.1 hz).2]
  rfl
theorem ev_unary (op : Int) (a : ByteArray) (sa : a.size ≤ 140737488355328) : Ev (fun k => logic_Unary.f k op a) (unS op a) := by
  unfold logic_Unary.f unS
  have bad : Ev (fun k => logic_Unary.j0 k op a true) (⟨#[]⟩, 1) := Ev.step (fun k => logic_Unary.j0.eq_2 _ _ _ k) (ev_pos rfl (ev_some fun _ => rfl))
  by_cases h1 : op < 7
  · rw [if_pos (.inl h1)]
    exact ev_pos h1 bad
  refine ev_neg h1 ?_
  by_cases h2 : op > 12
  · rw [if_pos (.inr h2), show decide (op > 12) = true from decide_eq_true h2]
    exact bad
  rw [if_neg (by omega), show decide (op > 12) = false from decide_eq_false h2]
  refine Ev.step (fun k => logic_Unary.j0.eq_2 _ _ _ k) (ev_neg (by decide) (ev_now (check a sa) ?_))
  by_cases hv : isVec a = true
  · rw [if_pos hv, if_pos hv]
    have za := vec_size hv
    have ba := vec_bits hv
    refine ev_pos rfl ?_
    unfold un
    by_cases h7 : op = 7
    · rw [if_pos h7]
      exact ev_pos h7 (ev_bind_some (ev_turned a (by omega)) rfl)
    rw [if_neg h7]
    refine ev_neg h7 ?_
    by_cases h8 : op = 8
    · rw [if_pos h8]
      exact ev_pos h8 (ev_now (ev_truth a ba (by omega)) (ev_now (ev_not _) (ev_some fun _ => rfl)))
    rw [if_neg h8]
    refine ev_neg h8 ?_
    by_cases h10 : op = 10
    · rw [if_pos h10]
      exact ev_pos h10 (ev_bind_some (ev_folded_and a (by omega) 49) rfl)
    rw [if_neg h10]
    refine ev_neg h10 ?_
    by_cases h11 : op = 11
    · rw [if_pos h11]
      exact ev_pos h11 (ev_bind_some (ev_folded_or a (by omega) 48) rfl)
    rw [if_neg h11]
    refine ev_neg h11 ?_
    by_cases h12 : op = 12
    · rw [if_pos h12]
      exact ev_pos h12 (ev_bind_some (ev_folded_xor a (by omega) 48) rfl)
    rw [if_neg h12]
    refine ev_neg h12 (ev_now (ev_known a ba (by omega)) ?_)
    by_cases ka : known (V a) = true
    · rw [if_pos ka]
      refine ev_pos ka (Ev.bind (ev_turned a (by omega)) (ev_now (ev_all 48 _ (by omega) (by omega)) ?_))
      have kt := turned_known ka
      have kr := rep_known a.size
      have v1 := V_str (known_bits kt)
      have e48 : ((48 : UInt8).toNat : Int) = 48 := rfl
      rw [Int.toNat_natCast, e48]
      have v2 := V_str (known_bits kr)
      refine Ev.bind (ev_sum _ _ 1 (by rw [v1]; exact kt) (by rw [v2]; exact kr) (by rw [strOfNums_size, strOfNums_size, List.length_replicate]; unfold turned; rw [List.length_map, size_len]) (by rw [strOfNums_size]; unfold turned; rw [List.length_map, ← size_len]; omega) (.inr rfl)) (ev_some fun _ => ?_)
      rw [v1, v2, size_len]
    · rw [if_neg ka]
      refine ev_neg ka (ev_now (ev_all 120 _ (by omega) (by omega)) (ev_some fun _ => ?_))
      rw [Int.toNat_natCast, size_len]
      rfl
  · rw [if_neg hv, if_neg hv]
    exact ev_neg (by decide) (ev_some fun _ => rfl)
theorem un_bits (op : Int) (a : List Int) (ha : ∀ z ∈ a, bitB z = true) : ∀ z ∈ un op a, bitB z = true := by
  have hf : ∀ (f : Int → Int → Int), (∀ x y, bitB (f x y) = true) → ∀ (l : List Int) (x : Int), bitB x = true → bitB (l.foldl f x) = true := by
    intro f hf l
    induction l with
    | nil => intro x hx; exact hx
    | cons b l ih => intro x hx; exact ih _ (hf _ _)
  unfold un
  intro z hz
  split at hz
  · obtain ⟨y, hy, rfl⟩ := List.mem_map.1 hz; exact not_bit y
  split at hz
  · obtain rfl := List.mem_singleton.1 hz; exact not_bit _
  split at hz
  · obtain rfl := List.mem_singleton.1 hz; exact hf andB and_bit _ _ rfl
  split at hz
  · obtain rfl := List.mem_singleton.1 hz; exact hf orB or_bit _ _ rfl
  split at hz
  · obtain rfl := List.mem_singleton.1 hz; exact hf xorB xor_bit _ _ rfl
  split at hz
  · exact sumC_bits _ _ _ z hz
  · exact mem_rep rfl _ z hz
end Go.Proofs.YtblhfodkbjdeoaaDoor.PureL
