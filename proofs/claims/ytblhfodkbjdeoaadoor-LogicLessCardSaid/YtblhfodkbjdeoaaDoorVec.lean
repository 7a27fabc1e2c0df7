/- Vectors of four values in plain Lean: strings as lists of numbers, the operators, and loops that fill or look through a list. No program in sight. -/
import Derived.Test.YtblhfodkbjdeoaaDoorWWords
import Derived.Lib.Bytes
import Derived.Lib.IndexAny
import Derived.Lib.Repeat
import Derived.Lib.SlTrimSet
namespace Go.Proofs.YtblhfodkbjdeoaaDoor.Vec
open Go.RowKit Go.Proofs.YtblhfodkbjdeoaaDoorW.PrintWords
set_option linter.unusedVariables false

/-! ### strings and lists -/
def Byte (b : Int) : Prop := 0 ≤ b ∧ b ≤ 255
theorem bytesOf_byte (s : ByteArray) : ∀ b ∈ bytesOf s, Byte b := by
  intro b hb
  unfold bytesOf at hb
  obtain ⟨c, _, rfl⟩ := List.mem_map.1 hb
  have := c.toNat_lt
  exact ⟨by omega, by omega⟩
theorem bytesOf_str (l : List Int) (h : ∀ b ∈ l, Byte b) : bytesOf (strOfNums l) = l := by
  unfold bytesOf
  rw [strOfNums_data, List.map_map]
  conv => rhs; rw [← List.map_id l]
  refine List.map_congr_left fun b hb => ?_
  obtain ⟨h0, h1⟩ := h b hb
  simp only [Function.comp, id]
  rw [UInt8.toNat_ofNat']
  omega
theorem ext_data {a b : ByteArray} (h : a.data.toList = b.data.toList) : a = b := by
  obtain ⟨⟨x⟩⟩ := a
  obtain ⟨⟨y⟩⟩ := b
  simp at h
  rw [h]
theorem str_bytesOf (s : ByteArray) : strOfNums (bytesOf s) = s := by
  apply ext_data
  rw [strOfNums_data]
  unfold bytesOf
  rw [List.map_map]
  conv => rhs; rw [← List.map_id s.data.toList]
  refine List.map_congr_left fun b _ => ?_
  simp
theorem bytesOf_inj {a b : ByteArray} (h : bytesOf a = bytesOf b) : a = b := by rw [← str_bytesOf a, h, str_bytesOf]
theorem eq_iff {a b : ByteArray} : a = b ↔ bytesOf a = bytesOf b := ⟨fun h => h ▸ rfl, bytesOf_inj⟩
theorem toList_inj {a b : ByteArray} : a.toList = b.toList ↔ a = b := by
  rw [Lib.toList_data, Lib.toList_data]
  exact ⟨ext_data, fun h => h ▸ rfl⟩
theorem toList_beq (a b : ByteArray) : (a.toList == b.toList) = decide (a = b) := by
  rw [Bool.eq_iff_iff, beq_iff_eq, decide_eq_true_iff, toList_inj]
theorem bytesOf_append (a b : ByteArray) : bytesOf (a ++ b) = bytesOf a ++ bytesOf b := by
  unfold bytesOf
  rw [← List.map_append]
  congr 1
theorem bytesOf_extract (s : ByteArray) (i j : Nat) : bytesOf (s.extract i j) = ((bytesOf s).take j).drop i := by
  unfold bytesOf
  rw [← List.map_take, ← List.map_drop]
  congr 1
  simp [ByteArray.data_extract, List.extract_eq_drop_take', Array.toList_extract]
theorem size_len (s : ByteArray) : s.size = (bytesOf s).length := (bytesOf_length s).symm
theorem bt_get (s : ByteArray) (i : Nat) : bt s (i : Int) = (bytesOf s).getD i 0 := by
  rw [← rd_bytesOf]
  rfl
theorem bytesOf_lit (l : List UInt8) : bytesOf ⟨l.toArray⟩ = l.map (fun b => (b.toNat : Int)) := by simp [bytesOf]
theorem lit_str (l : List UInt8) : (⟨l.toArray⟩ : ByteArray) = strOfNums (l.map (fun b => (b.toNat : Int))) := by
  apply bytesOf_inj
  rw [bytesOf_lit, bytesOf_str]
  intro b hb
  obtain ⟨c, _, rfl⟩ := List.mem_map.1 hb
  have := c.toNat_lt
  exact ⟨by omega, by omega⟩
theorem w64_in {x : Int} (h0 : -9223372036854775808 ≤ x) (h1 : x ≤ 9223372036854775807) : wrap64 x = x := by unfold wrap64; omega

/-! ### loops -/
theorem ev_congr {α : Type} {g : Nat → Option α} {r r' : α} (h : Ev g r) (e : r = r') : Ev g r' := e ▸ h
theorem ev_some {α : Type} {g : Nat → Option α} {r : α} (h : ∀ k, g k = some r) : Ev g r := ⟨0, fun k _ => h k⟩
theorem ev_bind_some {α β : Type} {g : Nat → Option α} {f : α → Option β} {a : α} {r : β} (h : Ev g a) (k : f a = some r) : Ev (fun n => (g n).bind f) r := Ev.bind (f := fun _ => f) h (ev_some fun _ => k)
theorem ev_det {α : Type} {g : Nat → Option α} {r r' : α} (h : Ev g r) (h' : Ev g r') : r = r' := by
  obtain ⟨K, h⟩ := h
  obtain ⟨K', h'⟩ := h'
  have a := h (max K K') (by omega)
  have b := h' (max K K') (by omega)
  exact Option.some.inj (a.symm.trans b)

theorem ev_pos {α : Type} {c : Prop} [Decidable c] {A B : Nat → Option α} {r : α} (h : c) (hA : Ev A r) : Ev (fun k => if c then A k else B k) r := Ev.congr (fun k => if_pos h) hA
theorem ev_neg {α : Type} {c : Prop} [Decidable c] {A B : Nat → Option α} {r : α} (h : ¬ c) (hB : Ev B r) : Ev (fun k => if c then A k else B k) r := Ev.congr (fun k => if_neg h) hB
/-- A call without rounds, and what follows. -/
theorem ev_now {α β : Type} {g : Option α} {f : Nat → α → Option β} {a : α} {r : β} (h : g = some a) (k : Ev (fun n => f n a) r) : Ev (fun n => g.bind (f n)) r := Ev.congr (fun n => by rw [h, Option.bind_some]) k

/-- A loop that fills a list, place by place, from the first one on. -/
theorem fill_up {β : Type} (n : Nat) (l : Nat → List Int → Int → Option β) (g : Nat → Nat → Option Int) (v : Nat → Int) (fin : List Int → β)
    (hstep : ∀ k xs (i : Nat), i < n → xs.length = n → l (k + 1) xs (i : Int) = (g k i).bind fun t => l k (xs.set i t) ((i + 1 : Nat) : Int))
    (hg : ∀ i, i < n → Ev (fun k => g k i) (v i)) (hend : ∀ k xs, xs.length = n → l (k + 1) xs (n : Int) = some (fin xs)) :
    ∀ (d i : Nat) (xs : List Int), d + i = n → xs.length = n → Ev (fun k => l k xs (i : Int)) (fin (xs.take i ++ (List.range' i d).map v))
  | 0, i, xs, hd, hx => by
    obtain rfl : i = n := by omega
    refine Ev.step (f := fun _ => some (fin xs)) (fun k => hend k xs hx) ?_
    refine ev_some fun _ => ?_
    simp [hx.symm ▸ List.take_length (l := xs)]
  | d + 1, i, xs, hd, hx => by
    refine Ev.step (f := fun k => (g k i).bind fun t => l k (xs.set i t) ((i + 1 : Nat) : Int)) (fun k => hstep k xs i (by omega) hx) ?_
    refine Ev.bind (hg i (by omega)) ?_
    refine ev_congr (fill_up n l g v fin hstep hg hend d (i + 1) (xs.set i (v i)) (by omega) (by simpa using hx)) ?_
    congr 1
    rw [List.range'_succ, List.map_cons]
    have h1 : (xs.set i (v i)).take (i + 1) = xs.take i ++ [v i] := by
      rw [List.take_set, List.take_succ_eq_append_getElem (by omega : i < xs.length), List.set_append]
      simp [Nat.min_eq_left (by omega : i ≤ xs.length)]
    rw [h1, List.append_assoc]
    rfl
/-- The same, from the last one down. -/
theorem fill_down {β σ : Type} (n : Nat) (I : σ → Prop) (l : Nat → σ → List Int → Int → Option β) (v : Nat → σ → Int) (nx : Nat → σ → σ) (fin : List Int → β) (hI : ∀ i s, i < n → I s → I (nx i s))
    (hstep : ∀ k s xs (i : Nat), i < n → I s → xs.length = n → l (k + 1) s xs (i : Int) = l k (nx i s) (xs.set i (v i s)) ((i : Int) - 1))
    (hend : ∀ k s xs, xs.length = n → l (k + 1) s xs (-1) = some (fin xs)) (R : Nat → σ → List Int) (h0 : ∀ s, R 0 s = []) (hR : ∀ i s, i < n → I s → R (i + 1) s = R i (nx i s) ++ [v i s]) :
    ∀ (i : Nat) (s : σ) (xs : List Int), i ≤ n → I s → xs.length = n → Ev (fun k => l k s xs ((i : Int) - 1)) (fin (R i s ++ xs.drop i))
  | 0, s, xs, hi, hs, hx => by
    refine Ev.step (f := fun _ => some (fin xs)) (fun k => ?_) (ev_some fun _ => by rw [h0]; simp)
    have := hend k s xs hx
    simpa using this
  | i + 1, s, xs, hi, hs, hx => by
    refine Ev.step (f := fun k => l k (nx i s) (xs.set i (v i s)) ((i : Int) - 1)) (fun k => ?_) ?_
    · have := hstep k s xs i (by omega) hs hx
      rw [show (((i + 1 : Nat) : Int) - 1) = (i : Int) by omega]
      exact this
    · refine ev_congr (fill_down n I l v nx fin hI hstep hend R h0 hR i (nx i s) (xs.set i (v i s)) (by omega) (hI i s (by omega) hs) (by simpa using hx)) ?_
      congr 1
      rw [hR i s (by omega) hs, List.append_assoc]
      congr 1
      rw [List.drop_eq_getElem_cons (by simpa using (by omega : i < xs.length))]
      simp [List.drop_set_of_lt]
/-- A loop that looks whether all places are so. -/
theorem scan_all {β : Type} (n : Nat) (l : Nat → Int → Option β) (p : Nat → Bool) (no : Nat → β) (yes : β)
    (hstep : ∀ k (i : Nat), i < n → l (k + 1) (i : Int) = if p i = true then l k ((i + 1 : Nat) : Int) else some (no i))
    (hend : ∀ k, l (k + 1) (n : Int) = some yes) :
    ∀ (d i : Nat), d + i = n → (∀ j, i ≤ j → j < n → p j = true) → Ev (fun k => l k (i : Int)) yes
  | 0, i, hd, _ => by
    obtain rfl : i = n := by omega
    exact Ev.step (f := fun _ => some yes) hend (ev_some fun _ => rfl)
  | d + 1, i, hd, hp => by
    refine Ev.step (f := fun k => l k ((i + 1 : Nat) : Int)) (fun k => ?_) (scan_all n l p no yes hstep hend d (i + 1) (by omega) (fun j h1 h2 => hp j (by omega) h2))
    rw [hstep k i (by omega), if_pos (hp i (by omega) (by omega))]
theorem scan_no {β : Type} (n : Nat) (l : Nat → Int → Option β) (p : Nat → Bool) (no : Nat → β)
    (hstep : ∀ k (i : Nat), i < n → l (k + 1) (i : Int) = if p i = true then l k ((i + 1 : Nat) : Int) else some (no i)) :
    ∀ (d i m : Nat), d + i = m → m < n → p m = false → (∀ j, i ≤ j → j < m → p j = true) → Ev (fun k => l k (i : Int)) (no m)
  | 0, i, m, hd, hm, hp, _ => by
    obtain rfl : i = m := by omega
    exact Ev.step (f := fun _ => some (no i)) (fun k => by rw [hstep k i hm, if_neg (by simp [hp])]) (ev_some fun _ => rfl)
  | d + 1, i, m, hd, hm, hp, ha => by
    refine Ev.step (f := fun k => l k ((i + 1 : Nat) : Int)) (fun k => ?_) (scan_no n l p no hstep d (i + 1) m (by omega) hm hp (fun j h1 h2 => ha j (by omega) h2))
    rw [hstep k i (by omega), if_pos (ha i (by omega) (by omega))]
/-- A loop that goes over all places with something in hand. -/
theorem scan_fold {β σ : Type} (n : Nat) (l : Nat → σ → Int → Option β) (f : σ → Nat → σ) (fin : σ → β)
    (hstep : ∀ k s (i : Nat), i < n → l (k + 1) s (i : Int) = l k (f s i) ((i + 1 : Nat) : Int)) (hend : ∀ k s, l (k + 1) s (n : Int) = some (fin s)) :
    ∀ (d i : Nat) (s : σ), d + i = n → Ev (fun k => l k s (i : Int)) (fin ((List.range' i d).foldl f s))
  | 0, i, s, hd => by
    obtain rfl : i = n := by omega
    exact Ev.step (f := fun _ => some (fin s)) (fun k => hend k s) (ev_some fun _ => rfl)
  | d + 1, i, s, hd => by
    refine Ev.step (f := fun k => l k (f s i) ((i + 1 : Nat) : Int)) (fun k => hstep k s i (by omega)) ?_
    rw [List.range'_succ, List.foldl_cons]
    exact scan_fold n l f fin hstep hend d (i + 1) (f s i) (by omega)
/-- The same, where something must hold of it. -/
theorem scan_foldI {β σ : Type} (n : Nat) (I : Nat → σ → Prop) (l : Nat → σ → Int → Option β) (f : σ → Nat → σ) (fin : σ → β) (hI : ∀ i s, i < n → I i s → I (i + 1) (f s i))
    (hstep : ∀ k s (i : Nat), i < n → I i s → l (k + 1) s (i : Int) = l k (f s i) ((i + 1 : Nat) : Int)) (hend : ∀ k s, I n s → l (k + 1) s (n : Int) = some (fin s)) :
    ∀ (d i : Nat) (s : σ), d + i = n → I i s → Ev (fun k => l k s (i : Int)) (fin ((List.range' i d).foldl f s))
  | 0, i, s, hd, hs => by
    obtain rfl : i = n := by omega
    exact Ev.step (f := fun _ => some (fin s)) (fun k => hend k s hs) (ev_some fun _ => rfl)
  | d + 1, i, s, hd, hs => by
    refine Ev.step (f := fun k => l k (f s i) ((i + 1 : Nat) : Int)) (fun k => hstep k s i (by omega) hs) ?_
    rw [List.range'_succ, List.foldl_cons]
    exact scan_foldI n I l f fin hI hstep hend d (i + 1) (f s i) (by omega) (hI i s (by omega) hs)
/-- A fold over places is one over what stands there. -/
theorem foldl_range' {α β : Type} (g : β → α → β) (d : α) : ∀ (l : List α) (i : Nat) (pre : List α) (s : β), pre.length = i → (List.range' i l.length).foldl (fun s j => g s ((pre ++ l).getD j d)) s = l.foldl g s
  | [], i, pre, s, _ => rfl
  | a :: l, i, pre, s, h => by
    rw [List.length_cons, List.range'_succ, List.foldl_cons, List.foldl_cons]
    have h1 : (pre ++ a :: l).getD i d = a := by
      rw [List.getD_eq_getElem?_getD, List.getElem?_append_right (by omega)]
      simp [h]
    rw [h1]
    have h2 := foldl_range' g d l (i + 1) (pre ++ [a]) (g s a) (by simp [h])
    simpa [List.append_assoc] using h2
theorem map_range' {α β : Type} (g : α → β) (d : α) : ∀ (l : List α) (i : Nat) (pre : List α), pre.length = i → (List.range' i l.length).map (fun j => g ((pre ++ l).getD j d)) = l.map g
  | [], i, pre, _ => rfl
  | a :: l, i, pre, h => by
    rw [List.length_cons, List.range'_succ, List.map_cons, List.map_cons]
    have h1 : (pre ++ a :: l).getD i d = a := by
      rw [List.getD_eq_getElem?_getD, List.getElem?_append_right (by omega)]
      simp [h]
    have h2 := map_range' g d l (i + 1) (pre ++ [a]) (by simp [h])
    rw [h1]
    congr 1
    simpa [List.append_assoc] using h2
theorem getD_lt {α : Type} (l : List α) (d : α) {i : Nat} (h : i < l.length) : l.getD i d = l[i] := by rw [List.getD_eq_getElem?_getD, List.getElem?_eq_getElem h]; rfl
theorem map_range'_zip (f : Int → Int → Int) (a b : List Int) (h : a.length ≤ b.length) : (List.range' 0 a.length).map (fun j => f (a.getD j 0) (b.getD j 0)) = List.zipWith f a b := by
  apply List.ext_getElem
  · simp; omega
  · intro i h1 h2
    have hi : i < a.length := by simpa using h1
    simp [List.getElem?_eq_getElem hi, List.getElem?_eq_getElem (by omega : i < b.length)]
/-- The first place that is not so. -/
theorem first_not {n : Nat} {p : Nat → Bool} (h : ¬ ∀ j, j < n → p j = true) : ∃ m, m < n ∧ p m = false ∧ ∀ j, j < m → p j = true := by
  induction n with
  | zero => exact absurd (fun j hj => absurd hj (by omega)) h
  | succ n ih =>
    by_cases hn : ∀ j, j < n → p j = true
    · refine ⟨n, by omega, ?_, hn⟩
      cases hp : p n
      · rfl
      · exact absurd (fun j hj => by by_cases e : j = n; (· rw [e]; exact hp); exact hn j (by omega)) h
    · obtain ⟨m, h1, h2, h3⟩ := ih hn
      exact ⟨m, by omega, h2, h3⟩
end Go.Proofs.YtblhfodkbjdeoaaDoor.Vec
