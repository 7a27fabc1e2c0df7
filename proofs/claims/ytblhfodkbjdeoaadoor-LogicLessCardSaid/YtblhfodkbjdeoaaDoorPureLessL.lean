/- Under less knowledge each of the operators' answers is less known: in the words of the printed functions. -/
import Derived.Test.YtblhfodkbjdeoaaDoorPureLess
import Derived.Test.YtblhfodkbjdeoaaDoorPureU
import Derived.Test.YtblhfodkbjdeoaaDoorPureR
import Derived.Test.YtblhfodkbjdeoaaDoorPLgx22
import Derived.Test.YtblhfodkbjdeoaaDoorPLgx19
namespace Go.Proofs.YtblhfodkbjdeoaaDoor.LessL
open Go.RowKit Go.Proofs.YtblhfodkbjdeoaaDoorW.PrintWords Go.Proofs.YtblhfodkbjdeoaaDoorW.PrintLast Go.Proofs.YtblhfodkbjdeoaaDoorW.PrintMore Go.Proofs.YtblhfodkbjdeoaaDoor.PLg Go.Proofs.YtblhfodkbjdeoaaDoor.Vec Go.Proofs.YtblhfodkbjdeoaaDoor.PureL Go.Proofs.YtblhfodkbjdeoaaDoor.Less
set_option linter.unusedVariables false

theorem ev_knows (a b : ByteArray) (hs : a.size ≤ 65536) (hl : a.size = b.size) (h : ∀ i, i < a.size → (V a).getD i 0 = 120 ∨ (V a).getD i 0 = (V b).getD i 0) : Ev (fun k => silkwormlaw01_knows.f k a b) true := by
  unfold silkwormlaw01_knows.f
  refine ev_pos (by omega) ?_
  exact scan_all a.size (fun k i => silkwormlaw01_knows.l0 k a b i) (fun i => decide ((V a).getD i 0 = 120 ∨ (V a).getD i 0 = (V b).getD i 0)) (fun _ => false) true (fun k i hi => by
    simp only [silkwormlaw01_knows.l0]
    rw [if_pos (by omega), if_pos (by omega), bt_V, bt_V, w64_in (by omega) (by omega)]
    by_cases h1 : (V a).getD i 0 = 120
    · rw [if_pos h1, if_pos (decide_eq_true (.inl h1))]; rfl
    rw [if_neg h1, if_pos (by omega)]
    by_cases h2 : (V a).getD i 0 = (V b).getD i 0
    · rw [if_pos h2, if_pos (decide_eq_true (.inr h2))]; rfl
    rw [if_neg h2, if_neg (by rw [decide_eq_true_iff]; rintro (h | h); (· exact h1 h); exact h2 h)]) (fun k => by
    simp only [silkwormlaw01_knows.l0]
    rw [if_neg (by omega)]) a.size 0 (by omega) (fun j _ hj => decide_eq_true (h j hj))
theorem leL_bits : ∀ {b a : List Int}, leL b a → (∀ z ∈ a, bitB z = true) → ∀ z ∈ b, bitB z = true
  | [], [], _, _, z, hz => by simp at hz
  | y :: b, x :: a, h, ha, z, hz => by
    rcases List.mem_cons.1 hz with e | e
    · rw [e]
      rcases h.1 with g | g
      · rw [g]; rfl
      · rw [g]; exact ha x (by simp)
    · exact leL_bits h.2 (fun t ht => ha t (List.mem_cons_of_mem _ ht)) z e
  | [], _ :: _, h, _, _, _ => h.elim
  | _ :: _, [], h, _, _, _ => h.elim
/-- What is told of an answer, and of one under less knowledge. -/
structure Two (y x : List Int) : Prop where
  le : leL y x
  bits : ∀ z ∈ x, bitB z = true
  len : x.length ≤ 1000
theorem knows_calls {y x : List Int} (h : Two y x) (w : World) : Calls Tryd.prog 31 #[.string (strOfNums y), .string (strOfNums x)] w fun e w' => e = .returned (.bool true) ∧ Drawn0 w w' := by
  have hy := V_str (leL_bits h.le h.bits)
  have hx := V_str h.bits
  have hl := leL_length h.le
  have h3 := h.len
  obtain ⟨k, hk⟩ := (ev_knows (strOfNums y) (strOfNums x) (by rw [str_size]; omega) (by rw [str_size, str_size]; exact hl) (fun i hi => by rw [hy, hx]; exact leL_getD i h.le)).rounds
  exact silkwormlaw01_knows.calls k _ _ true w hk
/-- A string under which less is known. -/
def less (t s : ByteArray) : Prop := leL (V t) (V s)
def ok (s : ByteArray) : Prop := isVec s = true ∧ known (V s) = true
theorem less_str {l : List Int} {s : ByteArray} (h : leL l (V s)) (hs : isVec s = true) : less (strOfNums l) s := by
  unfold less
  rw [V_str (leL_bits h (vec_bits hs))]
  exact h
theorem less_vec {t s : ByteArray} (h : less t s) (hs : ok s) : isVec t = true := by
  have hv := (isVec_iff s).1 hs.1
  rw [isVec_iff]
  have hl := leL_length h
  exact ⟨by rw [hl]; exact hv.pos, by rw [hl]; exact hv.le, leL_bits h hv.bits⟩
theorem less_size {t s : ByteArray} (h : less t s) : t.size = s.size := by rw [size_len, size_len]; exact leL_length h
theorem lenV (s : ByteArray) : (V s).length = s.size := (size_len s).symm
theorem ok_size {s : ByteArray} (h : ok s) : s.size ≤ 256 := (vec_size h.1).2
theorem each_len (f : Int → Int → Int) (a b : List Int) : (each f a b).length ≤ a.length := by
  unfold each
  rw [List.length_zipWith]
  omega
theorem bin_len (op : Int) (a b : List Int) : (bin op a b).length ≤ a.length + b.length + 1 := by
  unfold bin
  split
  · split
    · split
      · rw [shl_len]; omega
      · rw [shr_len]; omega
    · rw [List.length_replicate]; omega
  split
  · exact Nat.le_add_left _ _
  split
  · exact Nat.le_add_left _ _
  unfold bin2
  have e1 := each_len andB (fit a (max a.length b.length)) (fit b (max a.length b.length))
  have e2 := each_len orB (fit a (max a.length b.length)) (fit b (max a.length b.length))
  have e3 := each_len xorB (fit a (max a.length b.length)) (fit b (max a.length b.length))
  rw [fit_length] at e1 e2 e3
  split
  · omega
  split
  · omega
  split
  · omega
  split
  · split
    · split
      · rw [sumC_length, fit_length, fit_length]; omega
      · rw [sumC_length, fit_length]; omega
    · rw [List.length_replicate]; omega
  · unfold cmp
    split <;> exact Nat.le_add_left _ _
theorem un_len (op : Int) (a : List Int) : (un op a).length ≤ a.length + 1 := by
  unfold un
  split
  · rw [turned_len]; omega
  split
  · exact Nat.le_add_left _ _
  split
  · exact Nat.le_add_left _ _
  split
  · exact Nat.le_add_left _ _
  split
  · exact Nat.le_add_left _ _
  split
  · rw [sumC_length, turned_len]; omega
  · rw [List.length_replicate]; omega
theorem bin_two (op : Int) {s0 s1 t0 t1 : ByteArray} (h0 : less t0 s0) (h1 : less t1 s1) (k0 : ok s0) (k1 : ok s1) : Two (bin op (V t0) (V t1)) (bin op (V s0) (V s1)) := by
  refine ⟨leL_bin op h0 h1 k0.2 k1.2, bin_bits op _ _ (vec_bits k0.1), ?_⟩
  have := bin_len op (V s0) (V s1)
  have a0 := ok_size k0
  have a1 := ok_size k1
  rw [← lenV] at a0 a1
  omega
theorem un_two (op : Int) {s0 t0 : ByteArray} (h0 : less t0 s0) (k0 : ok s0) : Two (un op (V t0)) (un op (V s0)) := by
  refine ⟨leL_un op h0 k0.2, un_bits op _ (vec_bits k0.1), ?_⟩
  have := un_len op (V s0)
  have a0 := ok_size k0
  rw [← lenV] at a0
  omega
theorem cond_two {s0 s1 s2 t0 t1 t2 : ByteArray} (h0 : less t0 s0) (h1 : less t1 s1) (h2 : less t2 s2) (k0 : ok s0) (k1 : ok s1) (k2 : ok s2) (hl : s0.size = s1.size) : Two (Vec.cond (V t2) (V t0) (V t1)) (Vec.cond (V s2) (V s0) (V s1)) := by
  have a0 := ok_size k0
  have a1 := ok_size k1
  rw [← lenV] at a0 a1
  refine ⟨leL_cond h2 h0 h1 k2.2 (by rw [lenV, lenV]; exact hl), ?_, ?_⟩
  · unfold Vec.cond
    intro z hz
    split at hz
    · exact vec_bits k0.1 z hz
    split at hz
    · exact vec_bits k1.1 z hz
    · exact mem_zip cond_bit _ _ z hz
  · unfold Vec.cond
    split
    · omega
    split
    · omega
    · have := each_len condB (V s0) (V s1)
      omega
theorem bit_two {s0 s1 t0 t1 : ByteArray} (h0 : less t0 s0) (h1 : less t1 s1) (k0 : ok s0) (k1 : ok s1) : Two (bitAt (V t0) (V t1)) (bitAt (V s0) (V s1)) := by
  refine ⟨leL_bitAt h0 h1 k1.2, ?_, ?_⟩
  · unfold bitAt
    rw [if_pos k1.2]
    intro z hz
    split at hz
    · rename_i hn
      obtain rfl := List.mem_singleton.1 hz
      have hr := numb_range k1.2
      have hi : (V s0).length - 1 - (numb (V s1)).toNat < (V s0).length := by
        have := ((isVec_iff s0).1 k0.1).pos
        omega
      rw [getD_lt _ _ hi]
      exact vec_bits k0.1 _ (List.getElem_mem hi)
    · obtain rfl := List.mem_singleton.1 hz; rfl
  · unfold bitAt
    split
    · split <;> exact Nat.le_of_ble_eq_true rfl
    · exact Nat.le_of_ble_eq_true rfl

/-! ### calls -/
theorem may_calls (s : ByteArray) (b : Bool) (h : isVec s = b) (hs : s.size ≤ 140737488351232) (w : World) : Calls Tryd.prog 17 #[.string s] w fun e w' => e = .returned (.bool b) ∧ Drawn0 w w' := by
  obtain ⟨k, hk⟩ := (ev_may s (by omega)).rounds
  exact silkwormref01_May.calls k s b w (h ▸ hk)
theorem known_calls (s : ByteArray) (b : Bool) (h : known (V s) = b) (hs : s.size ≤ 140737488351232) (w : World) : Calls Tryd.prog 22 #[.string s] w fun e w' => e = .returned (.bool b) ∧ Drawn0 w w' := by
  obtain ⟨k, hk⟩ := (ev_Known s (by omega)).rounds
  exact silkwormref01_Known.calls k s b w (h ▸ hk)
theorem awake_calls (w : World) : Calls Tryd.prog 19 #[] w fun e w' => e = .returned (.bool true) ∧ Below w.heap.size w w' := by
  obtain ⟨k, hk⟩ := ev_awake.rounds
  exact silkwormlaw01_awake.calls k true w hk
/-- Operators that Binary has. -/
def isBin (op : Int) : Prop := 13 ≤ op ∧ op ≤ 27
def isUn (op : Int) : Prop := 7 ≤ op ∧ op ≤ 12
theorem bin_calls (op : Int) (a b : ByteArray) (ha : isVec a = true) (hb : isVec b = true) (h : isBin op) (w : World) :
    Calls Tryd.prog 16 #[.int .i64 op, .string a, .string b] w fun e w' => e = .returned (.tuple #[.string (strOfNums (bin op (V a) (V b))), .int .i64 0]) ∧ Below w.heap.size w w' := by
  have e := ev_binary op a b (by have := vec_size ha; omega) (by have := vec_size hb; omega)
  unfold binS at e
  rw [if_neg (by have h1 := h.1; have h2 := h.2; omega), if_pos ⟨ha, hb⟩] at e
  obtain ⟨k, hk⟩ := e.rounds
  exact logic_Binary.calls k op a b _ _ w hk
theorem bin_not (op : Int) (a b : ByteArray) (ha : isVec a = true) (hb : isVec b = true) (h : ¬ isBin op) (w : World) :
    Calls Tryd.prog 16 #[.int .i64 op, .string a, .string b] w fun e w' => e = .returned (.tuple #[.string ⟨#[]⟩, .int .i64 1]) ∧ Below w.heap.size w w' := by
  have e := ev_binary op a b (by have := vec_size ha; omega) (by have := vec_size hb; omega)
  unfold binS at e
  rw [if_pos (by unfold isBin at h; omega)] at e
  obtain ⟨k, hk⟩ := e.rounds
  exact logic_Binary.calls k op a b _ _ w hk
theorem un_calls (op : Int) (a : ByteArray) (ha : isVec a = true) (h : isUn op) (w : World) :
    Calls Tryd.prog 28 #[.int .i64 op, .string a] w fun e w' => e = .returned (.tuple #[.string (strOfNums (un op (V a))), .int .i64 0]) ∧ Below w.heap.size w w' := by
  have e := ev_unary op a (by have := vec_size ha; omega)
  unfold unS at e
  rw [if_neg (by have h1 := h.1; have h2 := h.2; omega), if_pos ha] at e
  obtain ⟨k, hk⟩ := e.rounds
  exact logic_Unary.calls k op a _ _ w hk
theorem un_not (op : Int) (a : ByteArray) (ha : isVec a = true) (h : ¬ isUn op) (w : World) :
    Calls Tryd.prog 28 #[.int .i64 op, .string a] w fun e w' => e = .returned (.tuple #[.string ⟨#[]⟩, .int .i64 1]) ∧ Below w.heap.size w w' := by
  have e := ev_unary op a (by have := vec_size ha; omega)
  unfold unS at e
  rw [if_pos (by unfold isUn at h; omega)] at e
  obtain ⟨k, hk⟩ := e.rounds
  exact logic_Unary.calls k op a _ _ w hk
theorem cond_calls (c a b : ByteArray) (hc : isVec c = true) (ha : isVec a = true) (hb : isVec b = true) (h : a.size = b.size) (w : World) :
    Calls Tryd.prog 20 #[.string c, .string a, .string b] w fun e w' => e = .returned (.tuple #[.string (strOfNums (Vec.cond (V c) (V a) (V b))), .int .i64 0]) ∧ Below w.heap.size w w' := by
  have e := ev_cond c a b (by have := vec_size hc; omega) (by have := vec_size ha; omega) (by have := vec_size hb; omega)
  unfold condS at e
  rw [if_pos ⟨hc, ha, hb⟩, if_pos h] at e
  obtain ⟨k, hk⟩ := e.rounds
  exact logic_Cond.calls k c a b _ _ w hk
theorem cond_not (c a b : ByteArray) (hc : isVec c = true) (ha : isVec a = true) (hb : isVec b = true) (h : ¬ a.size = b.size) (w : World) :
    Calls Tryd.prog 20 #[.string c, .string a, .string b] w fun e w' => e = .returned (.tuple #[.string ⟨#[]⟩, .int .i64 1]) ∧ Below w.heap.size w w' := by
  have e := ev_cond c a b (by have := vec_size hc; omega) (by have := vec_size ha; omega) (by have := vec_size hb; omega)
  unfold condS at e
  rw [if_pos ⟨hc, ha, hb⟩, if_neg h] at e
  obtain ⟨k, hk⟩ := e.rounds
  exact logic_Cond.calls k c a b _ _ w hk
theorem extract_one (a : ByteArray) (i : Nat) (h : i < a.size) : a.extract i (i + 1) = strOfNums [(V a).getD i 0] := by
  have hi : i < (V a).length := by rw [← size_len]; exact h
  apply bytesOf_inj
  rw [bytesOf_extract, List.drop_take, List.drop_eq_getElem_cons hi, Nat.add_sub_cancel_left, bytesOf_str, getD_lt _ _ hi]
  · rfl
  · intro b hb
    rw [List.mem_singleton.1 hb, getD_lt _ _ hi]
    exact bytesOf_byte a _ (List.getElem_mem hi)
theorem bit_calls (a b : ByteArray) (ha : isVec a = true) (hb : isVec b = true) (w : World) :
    Calls Tryd.prog 33 #[.string a, .string b] w fun e w' => e = .returned (.tuple #[.string (strOfNums (bitAt (V a) (V b))), .int .i64 0]) ∧ Below w.heap.size w w' := by
  have za := vec_size ha
  have zb := vec_size hb
  have e : Ev (fun k => logic_Bit.f k a b) (strOfNums (bitAt (V a) (V b)), 0) := by
    unfold logic_Bit.f
    refine Ev.bind (checks2 a b (by omega) (by omega)) ?_
    rw [if_pos ⟨ha, hb⟩]
    refine ev_pos rfl (ev_now (ev_known b (vec_bits hb) (by omega)) ?_)
    unfold bitAt
    by_cases kb : known (V b) = true
    · rw [if_pos kb]
      have nb := numb_range kb
      refine ev_pos kb (Ev.bind (ev_number b kb (by omega) (a.size : Int) (by omega) (by omega)) ?_)
      by_cases hn : numb (V b) < ((V a).length : Int)
      · rw [if_pos hn]
        rw [← size_len] at hn ⊢
        rw [show min (numb (V b)) (a.size : Int) = numb (V b) by omega]
        have e1 : wrap64 (wrap64 ((a.size : Int) - 1) - numb (V b)) = ((a.size - 1 - (numb (V b)).toNat : Nat) : Int) := by
          rw [w64_in (x := (a.size : Int) - 1) (by omega) (by omega), w64_in (by omega) (by omega)]; omega
        have e2 : wrap64 ((a.size : Int) - numb (V b)) = ((a.size - 1 - (numb (V b)).toNat + 1 : Nat) : Int) := by rw [w64_in (by omega) (by omega)]; omega
        rw [e1, e2, Int.toNat_natCast, Int.toNat_natCast]
        refine ev_neg (by omega) (ev_pos (by omega) (ev_pos (by omega) (ev_pos (by omega) (ev_some fun _ => ?_))))
        rw [extract_one a _ (by omega)]
      · rw [if_neg hn]
        rw [← size_len] at hn
        exact ev_pos (by omega) (ev_some fun _ => rfl)
    · rw [if_neg kb]
      exact ev_neg kb (ev_some fun _ => rfl)
  obtain ⟨k, hk⟩ := e.rounds
  exact logic_Bit.calls k a b _ _ w hk
end Go.Proofs.YtblhfodkbjdeoaaDoor.LessL
