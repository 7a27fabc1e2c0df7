/- The pure statement of the law LogicShifts. -/
import Derived.Test.YtblhfodkbjdeoaaDoorPureR
import Derived.Test.YtblhfodkbjdeoaaDoorPureT
import Derived.Test.YtblhfodkbjdeoaaDoorPLgx14
namespace Go.Proofs.YtblhfodkbjdeoaaDoor.Pure
open Go.RowKit Go.Proofs.YtblhfodkbjdeoaaDoorW.PrintWords Go.Proofs.YtblhfodkbjdeoaaDoorW.PrintLast Go.Proofs.YtblhfodkbjdeoaaDoorW.PrintMore Go.Proofs.YtblhfodkbjdeoaaDoor.Vec Go.Proofs.YtblhfodkbjdeoaaDoor.PLg Go.Proofs.YtblhfodkbjdeoaaDoor.PureL
set_option linter.unusedVariables false

theorem shl_length (l : List Int) (n : Nat) : (shl l n).length = l.length := by
  unfold Vec.shl
  rw [List.length_append, List.length_drop, List.length_replicate]; omega
theorem shr_length (l : List Int) (n : Nat) : (shr l n).length = l.length := by
  unfold Vec.shr
  rw [List.length_append, List.length_take, List.length_replicate]; omega
theorem shl_bits {l : List Int} (h : ∀ z ∈ l, bitB z = true) (n : Nat) : ∀ z ∈ shl l n, bitB z = true := by
  intro z hz
  rcases List.mem_append.1 hz with hz | hz
  · exact h z (List.mem_of_mem_drop hz)
  · exact mem_rep rfl _ z hz
theorem shr_bits {l : List Int} (h : ∀ z ∈ l, bitB z = true) (n : Nat) : ∀ z ∈ shr l n, bitB z = true := by
  intro z hz
  rcases List.mem_append.1 hz with hz | hz
  · exact mem_rep rfl _ z hz
  · exact h z (List.mem_of_mem_take hz)
theorem shl_get (l : List Int) (n i : Nat) (h : i < l.length) : (shl l n).getD i 0 = if i + n < l.length then l.getD (i + n) 0 else 48 := by
  unfold Vec.shl
  rw [List.getD_eq_getElem?_getD, List.getElem?_append, List.length_drop]
  by_cases h1 : i + n < l.length
  · rw [if_pos h1, if_pos (by omega), List.getElem?_drop, List.getD_eq_getElem?_getD, Nat.add_comm]
  · rw [if_neg h1, if_neg (by omega), List.getElem?_replicate, if_pos (by omega)]
    rfl
theorem shr_get (l : List Int) (n i : Nat) (h : i < l.length) : (shr l n).getD i 0 = if i < n then 48 else l.getD (i - n) 0 := by
  unfold Vec.shr
  rw [List.getD_eq_getElem?_getD, List.getElem?_append, List.length_replicate]
  by_cases h1 : i < n
  · rw [if_pos h1, if_pos (by omega), List.getElem?_replicate, if_pos (by omega)]
    rfl
  · rw [if_neg h1, if_neg (by omega), List.getElem?_take, if_pos (by omega), List.getD_eq_getElem?_getD, show min n l.length = n by omega]
theorem list_ext {a b : List Int} (hl : a.length = b.length) (h : ∀ i, i < a.length → a.getD i 0 = b.getD i 0) : a = b := by
  apply List.ext_getElem hl
  intro i h1 h2
  have := h i h1
  rwa [getD_lt _ _ h1, getD_lt _ _ h2] at this
theorem shl_shl (l : List Int) (n m : Nat) : shl (shl l n) m = shl l (n + m) := by
  apply list_ext (by rw [shl_length, shl_length, shl_length])
  intro i hi
  rw [shl_length, shl_length] at hi
  rw [shl_get _ _ _ (by rw [shl_length]; exact hi), shl_get _ _ _ hi, shl_length]
  by_cases h1 : i + m < l.length
  · rw [if_pos h1, shl_get _ _ _ h1, show i + m + n = i + (n + m) by omega]
  · rw [if_neg h1, if_neg (by omega)]
theorem shift_back (l : List Int) (n i : Nat) (h : i < l.length) : (shr (shl l n) n).getD i 0 = if i < n then 48 else l.getD i 0 := by
  rw [shr_get _ _ _ (by rw [shl_length]; exact h)]
  by_cases h1 : i < n
  · rw [if_pos h1, if_pos h1]
  · rw [if_neg h1, if_neg h1, shl_get _ _ _ (by omega), if_pos (by omega), Nat.sub_add_cancel (by omega)]
theorem bits_vec' {l : List Int} (h1 : 1 ≤ l.length) (h2 : l.length ≤ 256) (h : ∀ z ∈ l, bitB z = true) : isVec (strOfNums l) = true := by
  rw [isVec_iff, V_str h]
  exact ⟨h1, h2, h⟩
/-- A shift by a number that Of wrote. -/
theorem shift_of (l : List Int) (h1 : 1 ≤ l.length) (h2 : l.length ≤ 256) (hb : ∀ z ∈ l, bitB z = true) (n : Nat) (hn : n < 512) :
    Ev (fun k => logic_Binary.f k 15 (strOfNums l) (strOfNums (ofL 9 (n : Int)))) (strOfNums (shl l n), 0) ∧ Ev (fun k => logic_Binary.f k 16 (strOfNums l) (strOfNums (ofL 9 (n : Int)))) (strOfNums (shr l n), 0) := by
  have kb := ofL_known 9 (n : Int)
  have vb := V_str (known_bits kb)
  have hv : isVec (strOfNums (ofL 9 (n : Int))) = true := ofL_vec (by decide) (by decide) _
  have sb : (strOfNums (ofL 9 (n : Int))).size = 9 := by rw [str_size, ofL_length]
  have hn' : (numb (ofL 9 (n : Int))).toNat = n := by
    rw [numb_ofL, show ((n : Int) % 2 ^ 9) = (n : Int) from Int.emod_eq_of_lt (by omega) (by omega), Int.toNat_natCast]
  have go : ∀ op, op = 15 ∨ op = 16 → binS op (strOfNums l) (strOfNums (ofL 9 (n : Int))) = (strOfNums (if op = 15 then shl l n else shr l n), 0) := by
    intro op ho
    unfold binS bin
    rw [if_neg (by omega), if_pos ⟨bits_vec' h1 h2 hb, hv⟩, if_pos ho, V_str hb, vb, if_pos kb, hn']
  constructor
  · have e := ev_binary 15 (strOfNums l) (strOfNums (ofL 9 (n : Int))) (by rw [str_size]; omega) (by omega)
    rwa [go 15 (.inl rfl), if_pos rfl] at e
  · have e := ev_binary 16 (strOfNums l) (strOfNums (ofL 9 (n : Int))) (by rw [str_size]; omega) (by omega)
    rwa [go 16 (.inr rfl), if_neg (by decide)] at e
theorem of_nine (n : Nat) : Ev (fun k => logic_Of.f k (n : Int) 9) (strOfNums (ofL 9 (n : Int)), 0) := by
  have e3 := ev_of (n : Int) 9
  have e3' : ofS (n : Int) 9 = (strOfNums (ofL 9 (n : Int)), 0) := by
    unfold ofS
    rw [if_neg (by omega)]
    rfl
  rwa [e3'] at e3

theorem shifts_l0 (a : ByteArray) (hs : a.size ≤ 256) (n : Nat) (hn : n < 64) :
    Ev (fun k => silkwormlaw01_LogicShifts.l0 k a (n : Int) (strOfNums (shr (shl (V a) n) n)) 0) true := by
  have sz : (strOfNums (shr (shl (V a) n) n)).size = a.size := by rw [str_size, shr_length, shl_length, ← size_len]
  have aux : ∀ (d i : Nat), d + i = a.size → (∀ j, j < a.size → bt (strOfNums (shr (shl (V a) n) n)) (j : Int) = if j < n then 48 else bt a (j : Int)) → Ev (fun k => silkwormlaw01_LogicShifts.l0 k a (n : Int) (strOfNums (shr (shl (V a) n) n)) (i : Int)) true := by
    intro d
    induction d with
    | zero =>
      intro i hi _
      obtain rfl : i = a.size := by omega
      exact Ev.step (fun k => silkwormlaw01_LogicShifts.l0.eq_2 _ _ _ _ k) (ev_neg (by omega) (ev_awake' rfl))
    | succ d ih =>
      intro i hi hg
      have g := hg i (by omega)
      have nx := ih (i + 1) (by omega) hg
      refine Ev.step (fun k => silkwormlaw01_LogicShifts.l0.eq_2 _ _ _ _ k) (ev_pos (by omega) ?_)
      have e1 : wrap64 ((i : Int) + 1) = ((i + 1 : Nat) : Int) := by rw [w64_in (by omega) (by omega)]; rfl
      rw [e1]
      by_cases h : (i : Int) ≥ (n : Int)
      · rw [if_neg (by omega)] at g
        exact ev_pos h (ev_pos (by omega) (ev_pos (by omega) (ev_pos g nx)))
      · rw [if_pos (by omega)] at g
        exact ev_neg h (ev_pos (by omega) (ev_pos (by omega) (ev_pos g nx)))
  refine aux a.size 0 (by omega) (fun j hj => ?_)
  have hb : ∀ z ∈ shr (shl (V a) n) n, Byte z := by
    intro z hz
    rcases List.mem_append.1 hz with hz | hz
    · rw [(List.mem_replicate.1 hz).2]; exact byte48
    · have hz := List.mem_of_mem_take hz
      rcases List.mem_append.1 hz with hz | hz
      · exact bytesOf_byte a z (List.mem_of_mem_drop hz)
      · rw [(List.mem_replicate.1 hz).2]; exact byte48
  rw [bt_get, bytesOf_str _ hb, shift_back _ _ _ (by rw [← size_len]; exact hj), bt_get]

theorem LogicShifts : silkwormlaw01_LogicShifts.Pure := by
  intro a n m wa wn wm
  suffices h : Ev (fun k => silkwormlaw01_LogicShifts.f k a n m) true from h.rounds
  unfold silkwormlaw01_LogicShifts.f
  refine Ev.bind (ev_may a (by omega)) ?_
  by_cases ha : isVec a = true
  rotate_left
  · exact ev_neg ha (ev_awake' rfl)
  refine ev_pos ha ?_
  have za := vec_size ha
  have ba := vec_bits ha
  have la : (V a).length = a.size := (size_len a).symm
  have m1 : Go.bits .and .i64 n 63 = (((n % 64).toNat : Nat) : Int) := by rw [show (63 : Int) = 2 ^ 6 - 1 by decide, and_mask n 6 (by decide)]; omega
  have m2 : Go.bits .and .i64 m 63 = (((m % 64).toNat : Nat) : Int) := by rw [show (63 : Int) = 2 ^ 6 - 1 by decide, and_mask m 6 (by decide)]; omega
  rw [m1, m2]
  have hn : (n % 64).toNat < 64 := by omega
  have hm : (m % 64).toNat < 64 := by omega
  generalize (n % 64).toNat = p at *
  generalize (m % 64).toNat = q at *
  have w1 : wrap64 ((p : Int) + (q : Int)) = ((p + q : Nat) : Int) := by rw [w64_in (by omega) (by omega)]; rfl
  rw [w1]
  refine Ev.bind (of_nine p) (Ev.bind (of_nine q) (Ev.bind (of_nine (p + q)) (ev_pos rfl (ev_pos rfl ?_))))
  refine Ev.step (fun k => silkwormlaw01_LogicShifts.j0.eq_2 _ _ _ _ _ _ k) (ev_neg (by simp) ?_)
  have sa : strOfNums (V a) = a := str_bytesOf a
  have e1 := (shift_of (V a) (by omega) (by omega) ba p (by omega)).1
  have e2 := (shift_of (shl (V a) p) (by rw [shl_length]; omega) (by rw [shl_length]; omega) (shl_bits ba p) p (by omega)).2
  have e3 := (shift_of (shl (V a) p) (by rw [shl_length]; omega) (by rw [shl_length]; omega) (shl_bits ba p) q (by omega)).1
  have e4 := (shift_of (V a) (by omega) (by omega) ba (p + q) (by omega)).1
  rw [sa] at e1 e4
  rw [shl_shl] at e3
  refine Ev.bind e1 (Ev.bind e2 (Ev.bind e3 (Ev.bind e4 (ev_pos rfl (ev_pos rfl (ev_pos rfl (ev_pos rfl (ev_pos rfl ?_))))))))
  have sz : (strOfNums (shr (shl (V a) p) p)).size = a.size := by rw [str_size, shr_length, shl_length, la]
  rw [show (((strOfNums (shr (shl (V a) p) p)).size : Int) != (a.size : Int)) = false by rw [sz]; simp]
  exact Ev.step (fun k => silkwormlaw01_LogicShifts.j1.eq_2 _ _ _ _ k) (ev_neg (by decide) (shifts_l0 a (by omega) p hn))
end Go.Proofs.YtblhfodkbjdeoaaDoor.Pure
