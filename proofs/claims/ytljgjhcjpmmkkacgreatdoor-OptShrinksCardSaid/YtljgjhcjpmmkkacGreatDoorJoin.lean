/- strings.Join as the evaluator takes it: what it answers is reckoned by itself.
   Conditions: the contract of strings.Join at the program, out of the shelf. -/
import Derived.Test.YtljgjhcjpmmkkacGreatDoorAx3
import Derived.Test.YtljgjhcjpmmkkacGreatDoorShelf
set_option linter.unusedVariables false
set_option linter.unusedSectionVars false
namespace Go.Proofs.YtljgjhcjpmmkkacGreatDoor.AX
open Go.RowKit
noncomputable def strsOf (l : List AV) : Option (List (List Nat)) := List.rec (some []) (fun x _ ih => match x with
  | .str s => (match ih with | some r => some (s :: r) | none => none)
  | _ => none) l
noncomputable def joinA (sep : List Nat) (l : List (List Nat)) : List Nat := List.rec [] (fun s r ih => match r with
  | [] => s
  | _ :: _ => lApp s (lApp sep ih (fun x => x)) (fun x => x)) l
noncomputable def pJoin (args : List AV) (t : Tr Blk) : Option AV := match args with
  | [.nslice, .str _] => some (.str [])
  | [.slice b o n _ sz _, .str sep] => (match Nat.beq n 0 with
    | true => some (.str [])
    | false => match Nat.beq sz 1 with
      | false => none
      | true => match Nat.ble n 140737488355328 with
        | false => none
        | true => match t.get b with
          | some (.cells c _ _) => (match gets c n o with
            | some l => (match strsOf l with
              | some ss => (match Nat.ble (lLen (joinA sep ss)) 140737488355328 with
                | true => some (.str (joinA sep ss))
                | false => none)
              | none => none)
            | none => none)
          | _ => none)
  | _ => none
variable [Env]
theorem strsOf_eq : ∀ {l : List AV} {ss : List (List Nat)}, strsOf l = some ss → l = ss.map AV.str
  | [], ss, h => by cases h; rfl
  | x :: l, ss, h => by
    cases x with
    | str s =>
      have e : strsOf (.str s :: l) = (match strsOf l with | some r => some (s :: r) | none => none) := rfl
      rw [e] at h
      cases hr : strsOf l with
      | none => rw [hr] at h; cases h
      | some r =>
        rw [hr] at h
        cases h
        rw [strsOf_eq hr]
        rfl
    | _ => cases h
theorem joinA_cons (sep s : List Nat) : ∀ (r : List (List Nat)), joinA sep (s :: r) = s ++ (r.map (sep ++ ·)).flatten
  | [] => by show s = s ++ _; simp
  | x :: r => by
    have e : joinA sep (s :: x :: r) = lApp s (lApp sep (joinA sep (x :: r)) (fun x => x)) (fun x => x) := rfl
    rw [e, lApp_eq, lApp_eq, joinA_cons sep x r]
    simp
def bytes (s : List Nat) : List UInt8 := s.map UInt8.ofNat
theorem bytes_flat (l : List (List Nat)) : bytes l.flatten = (l.map bytes).flatten := by simp [bytes, List.map_flatten, show (List.map UInt8.ofNat) = bytes from rfl]
theorem bytes_join (sep : List Nat) : ∀ (ss : List (List Nat)), bytes (joinA sep ss) = Go.Lib.join (ss.map bytes) (bytes sep)
  | [] => rfl
  | s :: r => by
    rw [joinA_cons, List.map_cons, Go.Lib.join_cons, Go.Lib.joinTail]
    have e : bytes (s ++ (r.map (sep ++ ·)).flatten) = bytes s ++ bytes (r.map (sep ++ ·)).flatten := by simp [bytes]
    rw [e, bytes_flat, List.map_map, List.map_map]
    congr 3
    funext x
    simp [bytes]
theorem joinA_small {sep : List Nat} (hs : ∀ x ∈ sep, x < 256) : ∀ {ss : List (List Nat)}, (∀ s ∈ ss, ∀ x ∈ s, x < 256) → ∀ x ∈ joinA sep ss, x < 256
  | [], _, x, h => by cases h
  | s :: r, hr, x, h => by
    rw [joinA_cons] at h
    simp only [List.mem_append, List.mem_flatten, List.mem_map] at h
    rcases h with h | ⟨l, ⟨y, hy, rfl⟩, h⟩
    · exact hr s (by simp) x h
    · rcases List.mem_append.1 h with h | h
      · exact hs x h
      · exact hr y (by simp [hy]) x h
theorem pJoin_ok {P : Program} {f : FuncId}
    (h0 : ∀ (a : Option Addr) (c : Nat) (sep : ByteArray) (w : World), Calls P f #[.slice a 0 c, .string sep] w fun e w' => e = .returned (.string ⟨#[]⟩) ∧ w' = w)
    (h1 : ∀ (bk o c : Nat) (xs : List ByteArray) (sep : ByteArray) (w : World), (∀ (j : Nat) x, xs[j]? = some x → w.cell? ⟨bk, o + j, none⟩ = some (.string x)) → bk < w.heap.size → xs.length ≤ 140737488355328 → xs.length ≤ c →
      (Go.Lib.join (xs.map (·.data.toList)) sep.data.toList).length ≤ 140737488355328 →
      Calls P f #[.slice (some ⟨bk, o, none⟩) xs.length c, .string sep] w fun e w' => e = .returned (.string ⟨(Go.Lib.join (xs.map (·.data.toList)) sep.data.toList).toArray⟩) ∧ Below w.heap.size w w') :
    PrimOK P f pJoin := by
  intro args t nx v hg ρ vs w hh hr
  have none_ok : ∀ (a : Option Addr) (c : Nat) (sep : List Nat), Calls P f #[.slice a 0 c, .string (enc sep)] w fun e w' => ∃ cv, e = .returned cv ∧ (AV.str []).rel ρ cv ∧ Below w.heap.size w w' := fun a c sep =>
    (h0 a c (enc sep) w).mono (fun e w' ⟨h2, h3⟩ => ⟨_, h2, ⟨rfl, fun x hx => by cases hx⟩, by rw [h3]; exact Below.refl _ _⟩)
  unfold pJoin at hg
  split at hg
  · rename_i sep
    cases hg
    obtain ⟨v0, vs0, rfl, r0, v1, vs1, rfl, r1, rfl⟩ := hr
    have e0 : v0 = .slice none 0 0 := r0
    obtain ⟨e1, _⟩ := rel_str r1
    subst e0 e1
    exact none_ok none 0 sep
  · rename_i b o n c sz ex sep
    obtain ⟨v0, vs0, rfl, r0, v1, vs1, rfl, r1, rfl⟩ := hr
    obtain ⟨e1, hs⟩ := rel_str r1
    subst e1
    obtain ⟨p, c', off, hp, hc, hn, hex, hoff, rfl⟩ : ∃ p c' off, ρ b = some p ∧ c ≤ c' ∧ n ≤ c' ∧ (ex = true → c' = c) ∧ (0 < c' → off = p.d + o ∧ p.d + o + c' * sz ≤ p.ext) ∧ v0 = .slice (some ⟨p.blk, off, none⟩) n c' := r0
    split at hg
    · rename_i hz
      obtain rfl : n = 0 := Nat.eq_of_beq_eq_true hz
      cases hg
      exact none_ok _ c' sep
    · rename_i hz
      split at hg
      · cases hg
      · rename_i hsz
        obtain rfl : sz = 1 := Nat.eq_of_beq_eq_true hsz
        split at hg
        · cases hg
        · rename_i hle
          have hle' : n ≤ 140737488355328 := Nat.le_of_ble_eq_true hle
          split at hg
          · rename_i cs x y hb
            split at hg
            · rename_i l hl
              split at hg
              · rename_i ss hss
                split at hg
                · rename_i hjl
                  cases hg
                  have hjl' := Nat.le_of_ble_eq_true hjl
                  rw [lLen_eq] at hjl'
                  obtain ⟨hlen, hget⟩ := gets_eq hl
                  obtain ⟨q, hq, hqs, hk⟩ := hh.blk _ _ hb
                  obtain rfl : p = q := Option.some.inj (hp.symm.trans hq)
                  have hl' := strsOf_eq hss
                  subst hl'
                  have hln : ss.length = n := by simpa using hlen
                  have hn0 : 0 < c' := by
                    have : n ≠ 0 := fun h => by subst h; simp at hz
                    omega
                  obtain ⟨rfl, hext⟩ := hoff hn0
                  have cell : ∀ (j : Nat) (s : List Nat), ss[j]? = some s → w.cell? ⟨p.blk, p.d + o + j, none⟩ = some (.string (enc s)) ∧ ∀ x ∈ s, x < 256 := by
                    intro j s hj
                    obtain ⟨cv, h5, h6⟩ := hk.2.1 (o + j) _ (hget j (.str s) (by simp [hj]))
                    obtain ⟨e6, h7⟩ := rel_str h6
                    subst e6
                    rw [← Nat.add_assoc] at h5
                    exact ⟨h5, h7⟩
                  have small : ∀ s ∈ ss, ∀ x ∈ s, x < 256 := fun s hm => by
                    obtain ⟨j, hj⟩ := List.mem_iff_getElem?.1 hm
                    exact (cell j s hj).2
                  have hdat : (ss.map enc).map (·.data.toList) = ss.map bytes := by rw [List.map_map]; rfl
                  have key := h1 p.blk (p.d + o) c' (ss.map enc) (enc sep) w (fun j x hx => by
                      simp only [List.getElem?_map, Option.map_eq_some_iff] at hx
                      obtain ⟨s, hs1, rfl⟩ := hx
                      exact (cell j s hs1).1) hqs (by simpa [hln] using hle') (by simpa [hln] using hn) (by
                      rw [hdat]
                      show (Go.Lib.join (ss.map bytes) (bytes sep)).length ≤ _
                      rw [← bytes_join]
                      simpa [bytes] using hjl')
                  rw [hdat] at key
                  simp only [List.length_map, hln] at key
                  refine key.mono (fun e w' ⟨h2, h3⟩ => ⟨_, h2, ⟨?_, joinA_small hs small⟩, h3⟩)
                  show Value.string ⟨(Go.Lib.join (ss.map bytes) (bytes sep)).toArray⟩ = Value.string (enc (joinA sep ss))
                  rw [← bytes_join]
                  rfl
                · cases hg
              · cases hg
            · cases hg
          · cases hg
  · cases hg
end Go.Proofs.YtljgjhcjpmmkkacGreatDoor.AX
