/- What the operators of layer 1 are, over lists of numbers (a vector's bytes, the highest bit first), and what Go's library tells of such lists. No program in sight. -/
import Derived.Test.YtblhfodkbjdeoaaDoorVec
namespace Go.Proofs.YtblhfodkbjdeoaaDoor.Vec
open Go.RowKit Go.Proofs.YtblhfodkbjdeoaaDoorW.PrintWords
set_option linter.unusedVariables false

abbrev V (s : ByteArray) : List Int := bytesOf s
theorem bt_V (s : ByteArray) (i : Nat) : bt s (i : Int) = (V s).getD i 0 := bt_get s i
/-- A byte of a vector. -/
def bitB (b : Int) : Bool := b == 48 || b == 49 || b == 120 || b == 122
def oneB (b : Int) : Bool := b == 48 || b == 49
/-- Is a string a vector? -/
def isVec (s : ByteArray) : Bool := decide (1 ≤ s.size) && (decide (s.size ≤ 256) && (V s).all bitB)
structure Vec (l : List Int) : Prop where
  pos : 1 ≤ l.length
  le : l.length ≤ 256
  bits : ∀ b ∈ l, bitB b = true
theorem isVec_iff (s : ByteArray) : isVec s = true ↔ Vec (V s) := by
  unfold isVec
  simp only [Bool.and_eq_true, decide_eq_true_iff, List.all_eq_true, size_len]
  exact ⟨fun h => ⟨h.1, h.2.1, h.2.2⟩, fun h => ⟨h.1, h.2, h.3⟩⟩
theorem bit_cases {b : Int} (h : bitB b = true) : b = 48 ∨ b = 49 ∨ b = 120 ∨ b = 122 := by
  unfold bitB at h
  simp only [Bool.or_eq_true, beq_iff_eq] at h
  omega
theorem one_cases {b : Int} (h : oneB b = true) : b = 48 ∨ b = 49 := by
  unfold oneB at h
  simpa [Bool.or_eq_true, beq_iff_eq] using h
theorem bit_byte {b : Int} (h : bitB b = true) : Byte b := by rcases bit_cases h with rfl | rfl | rfl | rfl <;> exact ⟨by decide, by decide⟩

def known (l : List Int) : Bool := l.all oneB
def truth (l : List Int) : Int := if l.any (· == 49) = true then 49 else if known l = true then 48 else 120
def notB (b : Int) : Int := if b = 48 then 49 else if b = 49 then 48 else 120
def andB (a b : Int) : Int := if a = 48 ∨ b = 48 then 48 else if a = 49 ∧ b = 49 then 49 else 120
def orB (a b : Int) : Int := if a = 49 ∨ b = 49 then 49 else if a = 48 ∧ b = 48 then 48 else 120
def xorB (a b : Int) : Int := if notB a = 120 ∨ notB b = 120 then 120 else if a = b then 48 else 49
def condB (a b : Int) : Int := if a = b ∧ (a = 48 ∨ a = 49) then a else 120
def turned (l : List Int) : List Int := l.map notB
def each (f : Int → Int → Int) (a b : List Int) : List Int := List.zipWith f a b
/-- The sum of known vectors and of a bit: the bits, and what is carried. -/
def sumC : List Int → List Int → Int → List Int × Int
  | a :: x, b :: y, c => ((48 + ((a - 48) + (b - 48) + (sumC x y c).2) % 2) :: (sumC x y c).1, ((a - 48) + (b - 48) + (sumC x y c).2) / 2)
  | _, _, c => ([], c)
def fit (l : List Int) (w : Nat) : List Int := if l.length < w then List.replicate (w - l.length) 48 ++ l else l.drop (l.length - w)
def numb (l : List Int) : Int := l.foldl (fun n b => 2 * n + (b - 48)) 0
def shl (l : List Int) (n : Nat) : List Int := l.drop n ++ List.replicate (min n l.length) 48
def shr (l : List Int) (n : Nat) : List Int := List.replicate (min n l.length) 48 ++ l.take (l.length - n)
def tell (b : Bool) : Int := if b = true then 49 else 48
def cmp (op : Int) (a b : List Int) : List Int :=
  if known a = true ∧ known b = true then
    [tell (if op = 17 then decide (numb a < numb b) else if op = 18 then decide (numb a ≤ numb b) else if op = 19 then decide (numb b < numb a) else if op = 20 then decide (numb b ≤ numb a) else if op = 21 then decide (numb a = numb b) else !decide (numb a = numb b))]
  else [120]
def bin2 (op : Int) (w : Nat) (a b : List Int) : List Int :=
  if op = 23 then each andB a b else if op = 25 then each orB a b else if op = 24 then each xorB a b
  else if op = 13 ∨ op = 14 then
    (if known a = true ∧ known b = true then (if op = 13 then (sumC a b 0).1 else (sumC a (turned b) 1).1) else List.replicate w 120)
  else cmp op a b
def bin (op : Int) (a b : List Int) : List Int :=
  if op = 15 ∨ op = 16 then
    (if known b = true then (if op = 15 then shl a (numb b).toNat else shr a (numb b).toNat) else List.replicate a.length 120)
  else if op = 26 then [andB (truth a) (truth b)]
  else if op = 27 then [orB (truth a) (truth b)]
  else bin2 op (max a.length b.length) (fit a (max a.length b.length)) (fit b (max a.length b.length))
def un (op : Int) (a : List Int) : List Int :=
  if op = 7 then turned a else if op = 8 then [notB (truth a)]
  else if op = 10 then [a.foldl andB 49] else if op = 11 then [a.foldl orB 48] else if op = 12 then [a.foldl xorB 48]
  else if known a = true then (sumC (turned a) (List.replicate a.length 48) 1).1 else List.replicate a.length 120
def cond (c a b : List Int) : List Int := if truth c = 49 then a else if truth c = 48 then b else each condB a b
def bitAt (v at_ : List Int) : List Int := if known at_ = true then (if numb at_ < v.length then [v.getD (v.length - 1 - (numb at_).toNat) 0] else [120]) else [120]

/-! ### bytes -/
theorem byte48 : Byte 48 := ⟨by decide, by decide⟩
theorem byte49 : Byte 49 := ⟨by decide, by decide⟩
theorem byte120 : Byte 120 := ⟨by decide, by decide⟩
theorem not_byte (b : Int) : Byte (notB b) := by unfold notB; split <;> (try split) <;> exact ⟨by decide, by decide⟩
theorem and_byte (a b : Int) : Byte (andB a b) := by unfold andB; split <;> (try split) <;> exact ⟨by decide, by decide⟩
theorem or_byte (a b : Int) : Byte (orB a b) := by unfold orB; split <;> (try split) <;> exact ⟨by decide, by decide⟩
theorem xor_byte (a b : Int) : Byte (xorB a b) := by unfold xorB; split <;> (try split) <;> exact ⟨by decide, by decide⟩
theorem cond_bit (a b : Int) : bitB (condB a b) = true := by
  unfold condB
  split
  · rename_i h; rcases h.2 with h | h <;> rw [h] <;> rfl
  · rfl
theorem not_bit (b : Int) : bitB (notB b) = true := by unfold notB; split <;> (try split) <;> rfl
theorem and_bit (a b : Int) : bitB (andB a b) = true := by unfold andB; split <;> (try split) <;> rfl
theorem or_bit (a b : Int) : bitB (orB a b) = true := by unfold orB; split <;> (try split) <;> rfl
theorem xor_bit (a b : Int) : bitB (xorB a b) = true := by unfold xorB; split <;> (try split) <;> rfl
theorem one_bit {b : Int} (h : oneB b = true) : bitB b = true := by rcases one_cases h with rfl | rfl <;> rfl
theorem truth_bit (l : List Int) : bitB (truth l) = true := by unfold truth; split <;> (try split) <;> rfl
theorem tell_bit (b : Bool) : bitB (tell b) = true := by cases b <;> rfl
theorem V_str {l : List Int} (h : ∀ b ∈ l, bitB b = true) : V (strOfNums l) = l := bytesOf_str l fun b hb => bit_byte (h b hb)
theorem mem_zip {f : Int → Int → Int} (hf : ∀ x y, bitB (f x y) = true) : ∀ (a b : List Int), ∀ z ∈ List.zipWith f a b, bitB z = true
  | [], _, z, h => by simp at h
  | _ :: _, [], z, h => by simp at h
  | x :: a, y :: b, z, h => by
    rw [List.zipWith_cons_cons] at h
    rcases List.mem_cons.1 h with rfl | h
    · exact hf x y
    · exact mem_zip hf a b z h
theorem mem_rep {x : Int} (hx : bitB x = true) (n : Nat) : ∀ z ∈ List.replicate n x, bitB z = true := fun z hz => (List.mem_replicate.1 hz).2 ▸ hx
theorem known_bits {l : List Int} (h : known l = true) : ∀ b ∈ l, bitB b = true := fun b hb => one_bit (List.all_eq_true.1 h b hb)
theorem fit_bits {l : List Int} (h : ∀ b ∈ l, bitB b = true) (w : Nat) : ∀ b ∈ fit l w, bitB b = true := by
  intro b hb
  unfold fit at hb
  split at hb
  · rcases List.mem_append.1 hb with hb | hb
    · exact mem_rep rfl _ b hb
    · exact h b hb
  · exact h b (List.mem_of_mem_drop hb)
theorem fit_length (l : List Int) (w : Nat) : (fit l w).length = w := by
  unfold fit
  split
  · simp; omega
  · simp; omega
theorem sumC_bits : ∀ (a b : List Int) (c : Int), ∀ z ∈ (sumC a b c).1, bitB z = true
  | [], _, _, z, h => by simp [sumC] at h
  | _ :: _, [], _, z, h => by simp [sumC] at h
  | x :: a, y :: b, c, z, h => by
    simp only [sumC] at h
    rcases List.mem_cons.1 h with rfl | h
    · have : (x - 48 + (y - 48) + (sumC a b c).2) % 2 = 0 ∨ (x - 48 + (y - 48) + (sumC a b c).2) % 2 = 1 := by omega
      rcases this with e | e <;> rw [e] <;> rfl
    · exact sumC_bits a b c z h
theorem sumC_length : ∀ (a b : List Int) (c : Int), (sumC a b c).1.length = min a.length b.length
  | [], _, _ => by simp [sumC]
  | _ :: _, [], _ => by simp [sumC]
  | x :: a, y :: b, c => by simp [sumC, sumC_length a b c]
theorem bin2_bits (op : Int) (w : Nat) (a b : List Int) : ∀ z ∈ bin2 op w a b, bitB z = true := by
  unfold bin2
  intro z hz
  split at hz
  · exact mem_zip and_bit a b z hz
  split at hz
  · exact mem_zip or_bit a b z hz
  split at hz
  · exact mem_zip xor_bit a b z hz
  split at hz
  · split at hz
    · split at hz
      · exact sumC_bits _ _ _ z hz
      · exact sumC_bits _ _ _ z hz
    · exact mem_rep rfl _ z hz
  · unfold cmp at hz
    split at hz
    · obtain rfl := List.mem_singleton.1 hz; exact tell_bit _
    · obtain rfl := List.mem_singleton.1 hz; rfl
theorem bin_bits (op : Int) (a b : List Int) (ha : ∀ z ∈ a, bitB z = true) : ∀ z ∈ bin op a b, bitB z = true := by
  unfold bin
  intro z hz
  split at hz
  · split at hz
    · split at hz
      · rcases List.mem_append.1 hz with h | h
        · exact ha z (List.mem_of_mem_drop h)
        · exact mem_rep rfl _ z h
      · rcases List.mem_append.1 hz with h | h
        · exact mem_rep rfl _ z h
        · exact ha z (List.mem_of_mem_take h)
    · exact mem_rep rfl _ z hz
  split at hz
  · obtain rfl := List.mem_singleton.1 hz; exact and_bit _ _
  split at hz
  · obtain rfl := List.mem_singleton.1 hz; exact or_bit _ _
  · exact bin2_bits _ _ _ _ z hz

/-! ### Go's library -/
theorem mem_V {s : ByteArray} {b : Int} : b ∈ V s ↔ ∃ c ∈ s.data.toList, (c.toNat : Int) = b := List.mem_map
theorem dropWhile_nil (p : UInt8 → Bool) : ∀ m : List UInt8, m.dropWhile p = [] ↔ ∀ b ∈ m, p b = true
  | [] => by simp
  | b :: m => by
    rw [List.dropWhile_cons]
    by_cases hb : p b = true
    · rw [if_pos hb, dropWhile_nil p m]
      simp [hb]
    · rw [if_neg hb]
      simp [hb]
theorem takeWhile_mem (p : UInt8 → Bool) : ∀ (m : List UInt8) (b : UInt8), b ∈ m.takeWhile p → p b = true
  | [], b, h => by simp at h
  | c :: m, b, h => by
    rw [List.takeWhile_cons] at h
    by_cases hc : p c = true
    · rw [if_pos hc] at h
      rcases List.mem_cons.1 h with rfl | h
      · exact hc
      · exact takeWhile_mem p m b h
    · rw [if_neg hc] at h
      simp at h
theorem trim_nil (l cs : List UInt8) : Lib.trimS l cs = [] ↔ ∀ b ∈ l, b ∈ cs := by
  have hd : ∀ m : List UInt8, m.dropWhile (cs.contains ·) = [] ↔ ∀ b ∈ m, b ∈ cs := by
    intro m
    rw [dropWhile_nil]
    simp
  unfold Lib.trimS Lib.trimLeftS
  rw [hd]
  unfold Lib.trimRightS
  constructor
  · intro h b hb
    by_cases hn : b ∈ (l.reverse.dropWhile (cs.contains ·)).reverse
    · exact h b hn
    · have hall : ∀ x ∈ l.reverse.dropWhile (cs.contains ·), x ∈ cs := fun x hx => h x (List.mem_reverse.2 hx)
      have : l.reverse.takeWhile (cs.contains ·) ++ l.reverse.dropWhile (cs.contains ·) = l.reverse := List.takeWhile_append_dropWhile
      have hm : b ∈ l.reverse.takeWhile (cs.contains ·) ++ l.reverse.dropWhile (cs.contains ·) := by rw [this]; exact List.mem_reverse.2 hb
      rcases List.mem_append.1 hm with hm | hm
      · have := takeWhile_mem _ _ _ hm
        simpa using this
      · exact hall b hm
  · intro h b hb
    exact h b (List.mem_reverse.1 ((List.dropWhile_sublist _).subset (List.mem_reverse.1 hb)))
theorem containsAny_iff (l cs : List UInt8) : Lib.containsAny l cs = true ↔ ∃ b ∈ l, b ∈ cs := by
  unfold Lib.containsAny
  rw [decide_eq_true_iff]
  induction l with
  | nil => simp [Lib.indexAny]
  | cons b l ih =>
    unfold Lib.indexAny
    by_cases hb : cs.contains b = true
    · rw [if_pos hb]
      simp at hb
      simp [hb]
    · rw [if_neg hb]
      have hge := Lib.indexAny_ge cs l
      simp only [Bool.not_eq_true] at hb
      have hnb : b ∉ cs := by simpa using hb
      by_cases he : Lib.indexAny l cs = -1
      · have : ¬ 0 ≤ Lib.indexAny l cs := by omega
        have hn := mt ih.2 this
        rw [if_pos (by rw [he]; rfl)]
        simp only [List.mem_cons, exists_eq_or_imp]
        constructor
        · intro h; omega
        · rintro (h | h)
          · exact absurd h hnb
          · exact absurd h hn
      · have h0 : 0 ≤ Lib.indexAny l cs := by omega
        rw [if_neg (by simpa using he)]
        simp only [List.mem_cons, exists_eq_or_imp]
        exact ⟨fun _ => .inr (ih.1 h0), fun _ => by omega⟩
theorem indexByte_iff (l : List UInt8) (c : UInt8) : 0 ≤ Lib.indexByte l c ↔ c ∈ l := by
  have h := containsAny_iff l [c]
  unfold Lib.containsAny at h
  rw [Lib.indexAny_one, decide_eq_true_iff] at h
  rw [h]
  simp
theorem repeat_one (c : UInt8) (n : Nat) : Lib.repeatL [c] n = List.replicate n c := by
  have := Lib.repeatL_replicate c 1 n
  simpa using this
end Go.Proofs.YtblhfodkbjdeoaaDoor.Vec
