/- What the printed functions of package logic answer, in the words of Spec: the small ones. -/
import Derived.Test.YtblhfodkbjdeoaaDoorSpec
import Derived.Test.YtblhfodkbjdeoaaDoorPLgx1
namespace Go.Proofs.YtblhfodkbjdeoaaDoor.PureL
open Go.RowKit Go.Proofs.YtblhfodkbjdeoaaDoorW.PrintWords Go.Proofs.YtblhfodkbjdeoaaDoorW.PrintLast Go.Proofs.YtblhfodkbjdeoaaDoorW.PrintMore Go.Proofs.YtblhfodkbjdeoaaDoor.Vec Go.Proofs.YtblhfodkbjdeoaaDoor.PLg
set_option linter.unusedVariables false

theorem lit1 (c : UInt8) : (⟨#[c]⟩ : ByteArray) = strOfNums [(c.toNat : Int)] := lit_str [c]
theorem V_lit1 (c : UInt8) : V ⟨#[c]⟩ = [(c.toNat : Int)] := bytesOf_lit [c]
theorem toList_nil (s : ByteArray) : s.toList = ([] : List UInt8) ↔ s.data.toList = [] := by rw [Lib.toList_data]

theorem data_bits (s : ByteArray) : (V s).all bitB = true ↔ ∀ c ∈ s.data.toList, c ∈ ([48, 49, 120, 122] : List UInt8) := by
  rw [List.all_eq_true]
  constructor
  · intro h c hc
    have := bit_cases (h (c.toNat : Int) (mem_V.2 ⟨c, hc, rfl⟩))
    have hc' : c = 48 ∨ c = 49 ∨ c = 120 ∨ c = 122 := by
      rcases this with e | e | e | e
      · exact .inl (UInt8.toNat_inj.1 (by have : c.toNat = 48 := by omega
                                          rw [this]; rfl))
      · exact .inr (.inl (UInt8.toNat_inj.1 (by have : c.toNat = 49 := by omega
                                                rw [this]; rfl)))
      · exact .inr (.inr (.inl (UInt8.toNat_inj.1 (by have : c.toNat = 120 := by omega
                                                      rw [this]; rfl))))
      · exact .inr (.inr (.inr (UInt8.toNat_inj.1 (by have : c.toNat = 122 := by omega
                                                      rw [this]; rfl))))
    simpa using hc'
  · intro h b hb
    obtain ⟨c, hc, rfl⟩ := mem_V.1 hb
    have := h c hc
    simp only [List.mem_cons, List.not_mem_nil, or_false] at this
    rcases this with rfl | rfl | rfl | rfl <;> rfl
theorem check (s : ByteArray) (hs : s.size ≤ 140737488355328) : logic_Check.f s = some (if isVec s = true then 0 else 10) := by
  unfold logic_Check.f isVec
  by_cases h1 : (s.size : Int) < 1
  · rw [if_pos h1]
    have : ¬ 1 ≤ s.size := by omega
    simp [this]
  rw [if_neg h1]
  have h1' : 1 ≤ s.size := by omega
  by_cases h2 : (s.size : Int) > 256
  · rw [if_pos h2]
    have : ¬ s.size ≤ 256 := by omega
    simp [this]
  rw [if_neg h2]
  have h2' : s.size ≤ 256 := by omega
  unfold strings_Trim.f
  rw [if_pos ⟨hs, by decide, by decide⟩]
  simp only [Option.bind_some, h1', h2', decide_true, Bool.true_and, toList_nil]
  have key := (trim_nil s.data.toList [48, 49, 120, 122]).trans (data_bits s).symm
  by_cases h : (V s).all bitB = true
  · rw [if_pos (by simpa using key.2 h), if_pos h]
  · rw [if_neg (by simpa using mt key.1 h), if_neg h]
theorem ev_checks (l : List ByteArray) (hl : l.length ≤ 10) (hs : ∀ s ∈ l, s.size ≤ 140737488355328) :
    Ev (fun k => logic_checks.f k l) (if l.all isVec = true then 0 else 10) := by
  have hstep : ∀ k (i : Nat), i < l.length → logic_checks.l0 (k + 1) l (l.length : Int) (i : Int) = if isVec (l.getD i ByteArray.empty) = true then logic_checks.l0 k l (l.length : Int) ((i + 1 : Nat) : Int) else some 10 := by
    intro k i hi
    simp only [logic_checks.l0]
    rw [if_pos (by omega), if_pos (by omega), if_pos (by omega)]
    have he : rdOf ByteArray.empty l (i : Int) = l.getD i ByteArray.empty := rfl
    have hm : l.getD i ByteArray.empty ∈ l := by rw [List.getD_eq_getElem?_getD, List.getElem?_eq_getElem hi]; exact List.getElem_mem hi
    rw [he, check _ (hs _ hm), Option.bind_some, w64_in (by omega) (by omega)]
    by_cases h : isVec (l.getD i ByteArray.empty) = true
    · rw [if_pos h, if_pos rfl, if_pos h]; rfl
    · rw [if_neg h, if_neg (by decide), if_neg h]
  have hend : ∀ k, logic_checks.l0 (k + 1) l (l.length : Int) (l.length : Int) = some 0 := by
    intro k
    simp only [logic_checks.l0]
    rw [if_neg (by omega)]
  have hget : ∀ j, (hj : j < l.length) → l.getD j ByteArray.empty = l[j] := fun j hj => by rw [List.getD_eq_getElem?_getD, List.getElem?_eq_getElem hj]; rfl
  by_cases h : l.all isVec = true
  · rw [if_pos h]
    exact scan_all l.length (fun k i => logic_checks.l0 k l (l.length : Int) i) (fun i => isVec (l.getD i ByteArray.empty)) (fun _ => 10) 0 hstep hend l.length 0 (by omega) (fun j _ hj => by
      rw [hget j hj]; exact List.all_eq_true.1 h _ (List.getElem_mem hj))
  · rw [if_neg h]
    have hn : ¬ ∀ j, j < l.length → isVec (l.getD j ByteArray.empty) = true := by
      intro ha
      apply h
      rw [List.all_eq_true]
      intro s hs
      obtain ⟨j, hj, rfl⟩ := List.getElem_of_mem hs
      rw [← hget j hj]; exact ha j hj
    obtain ⟨m, h1, h2, h3⟩ := first_not hn
    exact scan_no l.length (fun k i => logic_checks.l0 k l (l.length : Int) i) (fun i => isVec (l.getD i ByteArray.empty)) (fun _ => (10 : Int)) hstep m 0 m (by omega) h1 h2 (fun j _ hj => h3 j hj)
theorem checks2 (a b : ByteArray) (ha : a.size ≤ 140737488355328) (hb : b.size ≤ 140737488355328) : Ev (fun k => logic_checks.f k [a, b]) (if isVec a = true ∧ isVec b = true then 0 else 10) := by
  refine ev_congr (ev_checks [a, b] (by simp) (by simp [ha, hb])) ?_
  simp
theorem checks3 (a b c : ByteArray) (ha : a.size ≤ 140737488355328) (hb : b.size ≤ 140737488355328) (hc : c.size ≤ 140737488355328) : Ev (fun k => logic_checks.f k [a, b, c]) (if isVec a = true ∧ isVec b = true ∧ isVec c = true then 0 else 10) := by
  refine ev_congr (ev_checks [a, b, c] (by simp) (by simp [ha, hb, hc])) ?_
  simp

theorem bits_ascii {s : ByteArray} (h : ∀ b ∈ V s, bitB b = true) : s.data.toList.all (fun b => decide (b.toNat < 128)) = true := by
  rw [List.all_eq_true]
  intro c hc
  have := bit_cases (h _ (mem_V.2 ⟨c, hc, rfl⟩))
  rw [decide_eq_true_iff]
  omega
theorem ev_known (s : ByteArray) (h : ∀ b ∈ V s, bitB b = true) (hs : s.size ≤ 65536) : logic_known.f s = some (known (V s)) := by
  unfold logic_known.f strings_ContainsAny.f
  rw [if_pos ⟨hs, by decide, bits_ascii h, by decide⟩, Option.bind_some]
  congr 1
  rw [Bool.eq_iff_iff, Bool.not_eq_true', Bool.eq_false_iff]
  refine (not_congr (containsAny_iff _ _)).trans ?_
  unfold known
  rw [List.all_eq_true]
  constructor
  · intro hn b hb
    rcases bit_cases (h b hb) with rfl | rfl | rfl | rfl
    · rfl
    · rfl
    all_goals
      obtain ⟨c, hc, e⟩ := mem_V.1 hb
      refine absurd ⟨c, hc, ?_⟩ hn
      have : c.toNat = 120 ∨ c.toNat = 122 := by omega
      rcases this with e | e
      · have : c = 120 := UInt8.toNat_inj.1 e
        rw [this]; decide
      · have : c = 122 := UInt8.toNat_inj.1 e
        rw [this]; decide
  · rintro ha ⟨c, hc, hm⟩
    have := one_cases (ha _ (mem_V.2 ⟨c, hc, rfl⟩))
    simp only [List.mem_cons, List.not_mem_nil, or_false] at hm
    rcases hm with rfl | rfl <;> revert this <;> decide
theorem ev_all (c : UInt8) (n : Int) (h0 : 0 ≤ n) (h1 : n ≤ 65536) : logic_all.f ⟨#[c]⟩ n = some (strOfNums (List.replicate n.toNat (c.toNat : Int))) := by
  unfold logic_all.f strings_Repeat.f
  rw [if_pos ⟨h0, by omega, by
    have : (⟨#[c]⟩ : ByteArray).size = 1 := rfl
    rw [this]; omega⟩, Option.bind_some]
  congr 1
  have : (⟨#[c]⟩ : ByteArray).data.toList = [c] := rfl
  rw [this, repeat_one]
  apply bytesOf_inj
  rw [bytesOf_lit, bytesOf_str]
  · simp
  · intro b hb
    obtain ⟨_, rfl⟩ := List.mem_replicate.1 hb
    have := c.toNat_lt
    exact ⟨by omega, by omega⟩
theorem ev_not (b : Int) : logic_not.f b = some (notB b) := by
  unfold logic_not.f notB
  split
  · rfl
  split <;> rfl
theorem ev_and (a b : Int) : Ev (fun k => logic_and.f k a b) (andB a b) := by
  refine Ev.step (f := fun _ => some (andB a b)) (fun k => ?_) (ev_some fun _ => rfl)
  unfold logic_and.f andB
  simp only [logic_and.j0]
  by_cases ha : a = 48
  · simp [ha]
  by_cases hb : b = 48
  · simp [ha, hb]
  by_cases ha' : a = 49 <;> by_cases hb' : b = 49 <;> simp [ha, hb, ha', hb']
theorem ev_or (a b : Int) : Ev (fun k => logic_or.f k a b) (orB a b) := by
  refine Ev.step (f := fun _ => some (orB a b)) (fun k => ?_) (ev_some fun _ => rfl)
  unfold logic_or.f orB
  simp only [logic_or.j0]
  by_cases ha : a = 49
  · simp [ha]
  by_cases hb : b = 49
  · simp [ha, hb]
  by_cases ha' : a = 48 <;> by_cases hb' : b = 48 <;> simp [ha, hb, ha', hb']
theorem ev_xor (a b : Int) : Ev (fun k => logic_xor.f k a b) (xorB a b) := by
  refine Ev.step (f := fun _ => some (xorB a b)) (fun k => ?_) (ev_some fun _ => rfl)
  unfold logic_xor.f xorB
  simp only [logic_xor.j0, ev_not, Option.bind_some]
  by_cases ha : notB a = 120
  · simp [ha]
  by_cases hb : notB b = 120
  · simp [ha, hb]
  by_cases hab : a = b <;> simp [ha, hb, hab]
theorem ev_truth (s : ByteArray) (h : ∀ b ∈ V s, bitB b = true) (hs : s.size ≤ 65536) : logic_truth.f s = some (truth (V s)) := by
  unfold logic_truth.f strings_Contains.f truth
  simp only [Option.bind_some]
  have key : (decide (0 ≤ Lib.indexByte s.data.toList 49)) = (V s).any (· == 49) := by
    rw [Bool.eq_iff_iff, decide_eq_true_iff, indexByte_iff, List.any_eq_true]
    constructor
    · intro hc
      exact ⟨49, mem_V.2 ⟨49, hc, rfl⟩, rfl⟩
    · rintro ⟨b, hb, e⟩
      rw [beq_iff_eq] at e
      obtain ⟨c, hc, e'⟩ := mem_V.1 hb
      have : c = 49 := UInt8.toNat_inj.1 (by have : c.toNat = 49 := by omega
                                             rw [this]; rfl)
      rw [← this]; exact hc
  rw [key]
  by_cases h1 : (V s).any (· == 49) = true
  · rw [if_pos h1, if_pos h1]
  · rw [if_neg h1, if_neg h1, ev_known s h hs, Option.bind_some]
    by_cases hk : known (V s) = true
    · rw [if_pos hk, if_pos hk]
    · rw [if_neg hk, if_neg hk]
theorem ev_fit (s : ByteArray) (w : Nat) (hw : w ≤ 65536) (hs : s.size ≤ 65536) : logic_fit.f s (w : Int) = some (strOfNums (fit (V s) w)) := by
  have hb : ∀ b ∈ V s, Byte b := bytesOf_byte s
  unfold logic_fit.f fit
  rw [← size_len]
  by_cases h : s.size < w
  · rw [if_pos (by omega), if_pos h, w64_in (by omega) (by omega), ev_all _ _ (by omega) (by omega), Option.bind_some, strOfNums_size, List.length_replicate, if_pos (by omega)]
    congr 1
    apply bytesOf_inj
    have e : ((w : Int) - (s.size : Int)).toNat = w - s.size := by omega
    rw [bytesOf_append, bytesOf_str, bytesOf_str, e]
    · rfl
    · intro b hb'
      rcases List.mem_append.1 hb' with hb' | hb'
      · obtain ⟨_, rfl⟩ := List.mem_replicate.1 hb'; exact byte48
      · exact hb b hb'
    · intro b hb'
      obtain ⟨_, rfl⟩ := List.mem_replicate.1 hb'; exact byte48
  · rw [if_neg (by omega), if_neg h, w64_in (by omega) (by omega), if_pos (by omega), if_pos (by omega)]
    congr 1
    apply bytesOf_inj
    have e : ((s.size : Int) - (w : Int)).toNat = s.size - w := by omega
    rw [bytesOf_extract, e, bytesOf_str _ (fun b hb' => hb b (List.mem_of_mem_drop hb')), size_len, List.take_length]
end Go.Proofs.YtblhfodkbjdeoaaDoor.PureL
