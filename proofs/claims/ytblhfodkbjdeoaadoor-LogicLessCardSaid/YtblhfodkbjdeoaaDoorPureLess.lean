/- Less is known, never something else: with x in the place of some bits of known vectors each operator's answer has at each bit what it had, or x. No program in sight. -/
import Derived.Test.YtblhfodkbjdeoaaDoorSpec
namespace Go.Proofs.YtblhfodkbjdeoaaDoor.Less
open Go.RowKit Go.Proofs.YtblhfodkbjdeoaaDoorW.PrintWords Go.Proofs.YtblhfodkbjdeoaaDoor.Vec
set_option linter.unusedVariables false

def le1 (y x : Int) : Prop := y = 120 ∨ y = x
def leL : List Int → List Int → Prop
  | [], [] => True
  | y :: b, x :: a => le1 y x ∧ leL b a
  | _, _ => False
theorem le1_refl (x : Int) : le1 x x := .inr rfl
theorem leL_refl : ∀ l : List Int, leL l l
  | [] => trivial
  | x :: l => ⟨le1_refl x, leL_refl l⟩
theorem leL_length : ∀ {b a : List Int}, leL b a → b.length = a.length
  | [], [], _ => rfl
  | y :: b, x :: a, h => by rw [List.length_cons, List.length_cons, leL_length h.2]
  | [], _ :: _, h => h.elim
  | _ :: _, [], h => h.elim
theorem leL_append : ∀ {b a d c : List Int}, leL b a → leL d c → leL (b ++ d) (a ++ c)
  | [], [], _, _, _, h => h
  | y :: b, x :: a, _, _, h, h' => ⟨h.1, leL_append h.2 h'⟩
  | [], _ :: _, _, _, h, _ => h.elim
  | _ :: _, [], _, _, h, _ => h.elim
theorem leL_drop : ∀ {b a : List Int} (n : Nat), leL b a → leL (b.drop n) (a.drop n)
  | _, _, 0, h => h
  | [], [], n + 1, h => trivial
  | y :: b, x :: a, n + 1, h => leL_drop n h.2
  | [], _ :: _, n + 1, h => h.elim
  | _ :: _, [], n + 1, h => h.elim
theorem leL_take : ∀ {b a : List Int} (n : Nat), leL b a → leL (b.take n) (a.take n)
  | _, _, 0, h => trivial
  | [], [], n + 1, h => trivial
  | y :: b, x :: a, n + 1, h => ⟨h.1, leL_take n h.2⟩
  | [], _ :: _, n + 1, h => h.elim
  | _ :: _, [], n + 1, h => h.elim
theorem leL_rep : ∀ {n : Nat} {a : List Int}, a.length = n → leL (List.replicate n 120) a
  | 0, [], _ => trivial
  | n + 1, x :: a, h => ⟨.inl rfl, leL_rep (by simpa using h)⟩
  | 0, _ :: _, h => by simp at h
  | _ + 1, [], h => by simp at h
theorem known_cons' {b : Int} {l : List Int} : known (b :: l) = true ↔ oneB b = true ∧ known l = true := by
  unfold known
  rw [List.all_cons, Bool.and_eq_true]
theorem leL_known : ∀ {b a : List Int}, leL b a → known b = true → b = a
  | [], [], _, _ => rfl
  | y :: b, x :: a, h, hk => by
    have hk' := known_cons'.1 hk
    have := leL_known h.2 hk'.2
    rcases h.1 with e | e
    · rw [e] at hk'
      exact absurd hk'.1 (by decide)
    · rw [e, this]
  | [], _ :: _, h, _ => h.elim
  | _ :: _, [], h, _ => h.elim
theorem leL_fit {b a : List Int} (w : Nat) (h : leL b a) : leL (fit b w) (fit a w) := by
  unfold fit
  rw [leL_length h]
  split
  · exact leL_append (leL_refl _) h
  · exact leL_drop _ h
theorem leL_getD : ∀ {b a : List Int} (i : Nat), leL b a → le1 (b.getD i 0) (a.getD i 0)
  | [], [], i, _ => .inr rfl
  | y :: b, x :: a, 0, h => h.1
  | y :: b, x :: a, i + 1, h => by
    have := leL_getD i h.2
    simpa using this
  | [], _ :: _, _, h => h.elim
  | _ :: _, [], _, h => h.elim
/-- An operator of two bits under which less is known, never something else. -/
def Mono (f : Int → Int → Int) : Prop := ∀ y y' x x', oneB x = true → oneB x' = true → le1 y x → le1 y' x' → le1 (f y y') (f x x')
theorem mono_of {f : Int → Int → Int} (h : ∀ x x', (x = 48 ∨ x = 49) → (x' = 48 ∨ x' = 49) → le1 (f 120 120) (f x x') ∧ le1 (f 120 x') (f x x') ∧ le1 (f x 120) (f x x')) : Mono f := by
  intro y y' x x' hx hx' h1 h2
  obtain ⟨a, b, c⟩ := h x x' (one_cases hx) (one_cases hx')
  rcases h1 with rfl | rfl <;> rcases h2 with rfl | rfl
  · exact a
  · exact b
  · exact c
  · exact .inr rfl
theorem mono_and : Mono andB := mono_of fun x x' h h' => by
  unfold le1
  rcases h with rfl | rfl <;> rcases h' with rfl | rfl <;> decide
theorem mono_or : Mono orB := mono_of fun x x' h h' => by
  unfold le1
  rcases h with rfl | rfl <;> rcases h' with rfl | rfl <;> decide
theorem mono_xor : Mono xorB := mono_of fun x x' h h' => by
  unfold le1
  rcases h with rfl | rfl <;> rcases h' with rfl | rfl <;> decide
theorem one_of {f : Int → Int → Int} (h : ∀ x x', (x = 48 ∨ x = 49) → (x' = 48 ∨ x' = 49) → oneB (f x x') = true) : ∀ x x', oneB x = true → oneB x' = true → oneB (f x x') = true := fun x x' hx hx' => h x x' (one_cases hx) (one_cases hx')
theorem one_and : ∀ x x', oneB x = true → oneB x' = true → oneB (andB x x') = true := one_of fun x x' h h' => by rcases h with rfl | rfl <;> rcases h' with rfl | rfl <;> rfl
theorem one_or : ∀ x x', oneB x = true → oneB x' = true → oneB (orB x x') = true := one_of fun x x' h h' => by rcases h with rfl | rfl <;> rcases h' with rfl | rfl <;> rfl
theorem one_xor : ∀ x x', oneB x = true → oneB x' = true → oneB (xorB x x') = true := one_of fun x x' h h' => by rcases h with rfl | rfl <;> rcases h' with rfl | rfl <;> rfl
theorem leL_zip {f : Int → Int → Int} (hf : Mono f) : ∀ {b a b' a' : List Int}, leL b a → leL b' a' → known a = true → known a' = true → leL (each f b b') (each f a a')
  | [], [], _, _, _, _, _, _ => by simp [each, leL]
  | y :: b, x :: a, [], [], _, _, _, _ => by simp [each, leL]
  | y :: b, x :: a, y' :: b', x' :: a', h, h', k, k' => by
    have k1 := known_cons'.1 k
    have k2 := known_cons'.1 k'
    exact ⟨hf _ _ _ _ k1.1 k2.1 h.1 h'.1, leL_zip hf h.2 h'.2 k1.2 k2.2⟩
  | [], _ :: _, _, _, h, _, _, _ => h.elim
  | _ :: _, [], _, _, h, _, _, _ => h.elim
  | _ :: _, _ :: _, [], _ :: _, _, h, _, _ => h.elim
  | _ :: _, _ :: _, _ :: _, [], _, h, _, _ => h.elim
theorem le_not {y x : Int} (hx : oneB x = true) (h : le1 y x) : le1 (notB y) (notB x) := by
  rcases h with rfl | rfl
  · exact .inl rfl
  · exact .inr rfl
theorem leL_turned : ∀ {b a : List Int}, leL b a → known a = true → leL (turned b) (turned a)
  | [], [], _, _ => trivial
  | y :: b, x :: a, h, k => by
    have k1 := known_cons'.1 k
    exact ⟨le_not k1.1 h.1, leL_turned h.2 k1.2⟩
  | [], _ :: _, h, _ => h.elim
  | _ :: _, [], h, _ => h.elim
theorem leL_fold {f : Int → Int → Int} (hf : Mono f) (h1 : ∀ x x', oneB x = true → oneB x' = true → oneB (f x x') = true) : ∀ {b a : List Int} {y x : Int}, leL b a → known a = true → le1 y x → oneB x = true → le1 (b.foldl f y) (a.foldl f x)
  | [], [], _, _, _, _, h, _ => h
  | y' :: b, x' :: a, y, x, h, k, hyx, hx => by
    have k1 := known_cons'.1 k
    show le1 (b.foldl f (f y y')) (a.foldl f (f x x'))
    exact leL_fold hf h1 h.2 k1.2 (hf _ _ _ _ hx k1.1 hyx h.1) (h1 _ _ hx k1.1)
  | [], _ :: _, _, _, h, _, _, _ => h.elim
  | _ :: _, [], _, _, h, _, _, _ => h.elim
theorem any_le : ∀ {b a : List Int}, leL b a → b.any (· == 49) = true → a.any (· == 49) = true
  | [], [], _, h => h
  | y :: b, x :: a, h, hb => by
    rw [List.any_cons, Bool.or_eq_true] at hb ⊢
    rcases hb with e | e
    · left
      rw [beq_iff_eq] at e ⊢
      rcases h.1 with g | g
      · rw [g] at e; exact absurd e (by decide)
      · rw [← g]; exact e
    · exact .inr (any_le h.2 e)
  | [], _ :: _, h, _ => h.elim
  | _ :: _, [], h, _ => h.elim
theorem le_truth {b a : List Int} (h : leL b a) (k : known a = true) : le1 (truth b) (truth a) := by
  by_cases kb : known b = true
  · rw [leL_known h kb]
    exact .inr rfl
  unfold truth
  by_cases hb : b.any (· == 49) = true
  · rw [if_pos hb, if_pos (any_le h hb)]
    exact .inr rfl
  · rw [if_neg hb, if_neg kb]
    exact .inl rfl
theorem truth_one {a : List Int} (k : known a = true) : oneB (truth a) = true := by
  unfold truth
  by_cases h : a.any (· == 49) = true
  · rw [if_pos h]; rfl
  · rw [if_neg h, if_pos k]; rfl
theorem leL_one {y x : Int} (h : le1 y x) : leL [y] [x] := ⟨h, trivial⟩
theorem rep_known' (n : Nat) : known (List.replicate n 48) = true := by
  unfold known
  rw [List.all_eq_true]
  intro z hz
  rw [(List.mem_replicate.1 hz).2]
  rfl
theorem fit_known {l : List Int} (w : Nat) (h : known l = true) : known (fit l w) = true := by
  unfold known at *
  rw [List.all_eq_true] at *
  intro b hb
  unfold fit at hb
  split at hb
  · rcases List.mem_append.1 hb with hb | hb
    · rw [(List.mem_replicate.1 hb).2]; rfl
    · exact h b hb
  · exact h b (List.mem_of_mem_drop hb)
theorem turned_len (l : List Int) : (turned l).length = l.length := List.length_map _
theorem leL_bin2 (op : Int) (w : Nat) {b a b' a' : List Int} (h : leL b a) (h' : leL b' a') (k : known a = true) (k' : known a' = true) (la : a.length = w) (lb : a'.length = w) : leL (bin2 op w b b') (bin2 op w a a') := by
  unfold bin2
  by_cases h23 : op = 23
  · rw [if_pos h23, if_pos h23]; exact leL_zip mono_and h h' k k'
  rw [if_neg h23, if_neg h23]
  by_cases h25 : op = 25
  · rw [if_pos h25, if_pos h25]; exact leL_zip mono_or h h' k k'
  rw [if_neg h25, if_neg h25]
  by_cases h24 : op = 24
  · rw [if_pos h24, if_pos h24]; exact leL_zip mono_xor h h' k k'
  rw [if_neg h24, if_neg h24]
  by_cases h13 : op = 13 ∨ op = 14
  · rw [if_pos h13, if_pos h13, if_pos (c := known a = true ∧ known a' = true) ⟨k, k'⟩]
    by_cases hk : known b = true ∧ known b' = true
    · rw [if_pos hk, leL_known h hk.1, leL_known h' hk.2]
      exact leL_refl _
    · rw [if_neg hk]
      apply leL_rep
      split
      · rw [sumC_length]; omega
      · rw [sumC_length, turned_len]; omega
  · rw [if_neg h13, if_neg h13]
    unfold cmp
    rw [if_pos (c := known a = true ∧ known a' = true) ⟨k, k'⟩]
    by_cases hk : known b = true ∧ known b' = true
    · rw [if_pos hk, leL_known h hk.1, leL_known h' hk.2]
      exact leL_refl _
    · rw [if_neg hk]
      exact leL_one (.inl rfl)
theorem shl_len (l : List Int) (n : Nat) : (Vec.shl l n).length = l.length := by
  unfold Vec.shl
  rw [List.length_append, List.length_drop, List.length_replicate]; omega
theorem shr_len (l : List Int) (n : Nat) : (Vec.shr l n).length = l.length := by
  unfold Vec.shr
  rw [List.length_append, List.length_take, List.length_replicate]; omega
theorem leL_bin (op : Int) {b a b' a' : List Int} (h : leL b a) (h' : leL b' a') (k : known a = true) (k' : known a' = true) : leL (bin op b b') (bin op a a') := by
  unfold bin
  by_cases h15 : op = 15 ∨ op = 16
  · rw [if_pos h15, if_pos h15, if_pos k']
    by_cases kb : known b' = true
    · rw [if_pos kb, leL_known h' kb]
      split
      · unfold Vec.shl
        rw [leL_length h]
        exact leL_append (leL_drop _ h) (leL_refl _)
      · unfold Vec.shr
        rw [leL_length h]
        exact leL_append (leL_refl _) (leL_take _ h)
    · rw [if_neg kb]
      apply leL_rep
      split
      · rw [shl_len, leL_length h]
      · rw [shr_len, leL_length h]
  rw [if_neg h15, if_neg h15]
  by_cases h26 : op = 26
  · rw [if_pos h26, if_pos h26]
    exact leL_one (mono_and _ _ _ _ (truth_one k) (truth_one k') (le_truth h k) (le_truth h' k'))
  rw [if_neg h26, if_neg h26]
  by_cases h27 : op = 27
  · rw [if_pos h27, if_pos h27]
    exact leL_one (mono_or _ _ _ _ (truth_one k) (truth_one k') (le_truth h k) (le_truth h' k'))
  rw [if_neg h27, if_neg h27, leL_length h, leL_length h']
  exact leL_bin2 op _ (leL_fit _ h) (leL_fit _ h') (fit_known _ k) (fit_known _ k') (fit_length _ _) (fit_length _ _)
theorem leL_un (op : Int) {b a : List Int} (h : leL b a) (k : known a = true) : leL (un op b) (un op a) := by
  unfold un
  by_cases h7 : op = 7
  · rw [if_pos h7, if_pos h7]; exact leL_turned h k
  rw [if_neg h7, if_neg h7]
  by_cases h8 : op = 8
  · rw [if_pos h8, if_pos h8]; exact leL_one (le_not (truth_one k) (le_truth h k))
  rw [if_neg h8, if_neg h8]
  by_cases h10 : op = 10
  · rw [if_pos h10, if_pos h10]; exact leL_one (leL_fold mono_and one_and h k (.inr rfl) rfl)
  rw [if_neg h10, if_neg h10]
  by_cases h11 : op = 11
  · rw [if_pos h11, if_pos h11]; exact leL_one (leL_fold mono_or one_or h k (.inr rfl) rfl)
  rw [if_neg h11, if_neg h11]
  by_cases h12 : op = 12
  · rw [if_pos h12, if_pos h12]; exact leL_one (leL_fold mono_xor one_xor h k (.inr rfl) rfl)
  rw [if_neg h12, if_neg h12, if_pos k]
  by_cases kb : known b = true
  · rw [if_pos kb, leL_known h kb]
    exact leL_refl _
  · rw [if_neg kb]
    apply leL_rep
    rw [sumC_length, turned_len, List.length_replicate, leL_length h]
    omega
theorem leL_condA : ∀ {b a b' : List Int}, leL b a → b'.length = b.length → leL (each condB b b') a
  | [], [], [], _, _ => by simp [each, leL]
  | y :: b, x :: a, y' :: b', h, hl => by
    refine ⟨?_, leL_condA h.2 (by simpa using hl)⟩
    unfold condB
    split
    · rename_i hc
      rcases h.1 with e | e
      · rw [e] at hc; exact absurd hc.2 (by decide)
      · exact .inr e
    · exact .inl rfl
  | [], _ :: _, _, h, _ => h.elim
  | _ :: _, [], _, h, _ => h.elim
  | [], [], _ :: _, _, hl => by simp at hl
  | _ :: _, _ :: _, [], _, hl => by simp at hl
theorem leL_condB : ∀ {b b' a' : List Int}, leL b' a' → b'.length = b.length → leL (each condB b b') a'
  | [], [], [], _, _ => by simp [each, leL]
  | y :: b, y' :: b', x' :: a', h, hl => by
    refine ⟨?_, leL_condB h.2 (by simpa using hl)⟩
    unfold condB
    split
    · rename_i hc
      have e0 := hc.1
      have e1 := hc.2
      rcases h.1 with e | e
      · rw [e0, e] at e1; exact absurd e1 (by decide)
      · exact .inr (e0.trans e)
    · exact .inl rfl
  | _, [], _ :: _, h, _ => h.elim
  | _, _ :: _, [], h, _ => h.elim
  | _ :: _, [], [], _, hl => by simp at hl
  | [], _ :: _, _ :: _, _, hl => by simp at hl
theorem leL_cond {d c b a b' a' : List Int} (hc : leL d c) (h : leL b a) (h' : leL b' a') (k : known c = true) (hl : a.length = a'.length) : leL (Vec.cond d b b') (Vec.cond c a a') := by
  have ht := le_truth hc k
  have hb : b'.length = b.length := by rw [leL_length h, leL_length h', hl]
  rcases one_cases (truth_one k) with e | e
  · have ec : Vec.cond c a a' = a' := by unfold Vec.cond; rw [if_neg (by rw [e]; decide), if_pos e]
    rw [ec]
    unfold Vec.cond
    rcases ht with g | g
    · rw [if_neg (by rw [g]; decide), if_neg (by rw [g]; decide)]
      exact leL_condB h' hb
    · rw [if_neg (by rw [g, e]; decide), if_pos (g.trans e)]
      exact h'
  · have ec : Vec.cond c a a' = a := by unfold Vec.cond; rw [if_pos e]
    rw [ec]
    unfold Vec.cond
    rcases ht with g | g
    · rw [if_neg (by rw [g]; decide), if_neg (by rw [g]; decide)]
      exact leL_condA h hb
    · rw [if_pos (g.trans e)]
      exact h
theorem leL_bitAt {b a b' a' : List Int} (h : leL b a) (h' : leL b' a') (k' : known a' = true) : leL (bitAt b b') (bitAt a a') := by
  unfold bitAt
  rw [if_pos k']
  by_cases kb : known b' = true
  · rw [if_pos kb, leL_known h' kb, leL_length h]
    split
    · exact leL_one (leL_getD _ h)
    · exact leL_refl _
  · rw [if_neg kb]
    split
    · exact leL_one (.inl rfl)
    · exact leL_refl _
/-- x in the place of some bits. -/
def hideL (p : Nat → Bool) : Nat → List Int → List Int
  | _, [] => []
  | i, x :: l => (if p i = true then 120 else x) :: hideL p (i + 1) l
theorem hide_le (p : Nat → Bool) : ∀ (i : Nat) (l : List Int), leL (hideL p i l) l
  | _, [] => trivial
  | i, x :: l => by
    refine ⟨?_, hide_le p (i + 1) l⟩
    split
    · exact .inl rfl
    · exact .inr rfl
theorem hide_bits (p : Nat → Bool) : ∀ (i : Nat) {l : List Int}, (∀ z ∈ l, bitB z = true) → ∀ z ∈ hideL p i l, bitB z = true
  | _, [], _, z, hz => by simp [hideL] at hz
  | i, x :: l, h, z, hz => by
    rcases List.mem_cons.1 hz with e | e
    · rw [e]
      split
      · rfl
      · exact h x (by simp)
    · exact hide_bits p (i + 1) (fun y hy => h y (List.mem_cons_of_mem _ hy)) z e
theorem hide_length (p : Nat → Bool) (i : Nat) (l : List Int) : (hideL p i l).length = l.length := leL_length (hide_le p i l)
end Go.Proofs.YtblhfodkbjdeoaaDoor.Less
