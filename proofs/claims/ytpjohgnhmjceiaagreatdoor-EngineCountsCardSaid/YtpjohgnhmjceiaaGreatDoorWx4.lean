/- The program's functions in the evaluator's terms: engine: the gates: what each of them answers, whatever comes in.
   Conditions: those of each theorem. -/
import Derived.Test.YtpjohgnhmjceiaaGreatDoorWx3
set_option linter.all false
set_option linter.unusedVariables false
set_option linter.unusedSectionVars false
set_option maxRecDepth 100000
open Go Go.Proofs.YtpjohgnhmjceiaaGreatDoor.AX Go.Proofs
namespace Go.Proofs.YtpjohgnhmjceiaaGreatDoor.WX
section
variable [Env]
theorem RowI.at {t : TB} {bd i : Nat} {v : AV} {l : List Int} {a : Int} (h : RowI t bd v l) (hx : l[i]? = some a) : ∃ d o c ex wr r, v = .slice d o l.length c 1 ex ∧ d < bd ∧ hv t d = some (.row r wr) ∧ r[o + i * 1]? = some (.int .i64 a) := by
 rcases h with ⟨-, rfl⟩ | ⟨d, o, c, ex, wr, r, h1, h2, h3, h4, h5⟩
 · simp at hx
 · exact ⟨d, o, c, ex, wr, r, h1, h2, h3, by rw [Nat.mul_one]; exact rowI_get h5 hx⟩
theorem RowN.at {t : TB} {bd i : Nat} {v : AV} {ns : List Nd} {x : Nd} (h : RowN t bd v ns) (hx : ns[i]? = some x) : ∃ d o c ex wr r iv, v = .slice d o ns.length c 8 ex ∧ d < bd ∧ hv t d = some (.row r wr) ∧ o + i * 8 + 8 ≤ r.length ∧ (r.drop (o + i * 8)).take 8 = ncells x iv ∧ RowI t bd iv x.ins ∧ isCell iv = true := by
 have hi : i < ns.length := (List.getElem?_eq_some_iff.1 hx).1
 rcases h with ⟨-, rfl⟩ | ⟨d, o, c, ex, wr, r, ivs, h1, h2, h3, h4, h5, h6, h7⟩
 · simp at hx
 · obtain ⟨iv, hiv⟩ := some_at (l := ivs) (i := i) (by omega)
   exact ⟨d, o, c, ex, wr, r, iv, h1, h2, h3, by omega, nodeN_all h5 h6 hx hiv, h7 i x iv hx hiv, (h7 i x iv hx hiv).cell⟩
theorem app_gen {t : TB} {nx sz d n e : Nat} {v : AV} {l cs : List AV} {ex : Bool} (h : (v = .nslice ∧ l = [] ∧ n = 0) ∨ v = .slice d 0 n n sz false ∧ hv t d = some (.row l true)) (hl : l.length = n * sz) (he : hv t e = some (.row cs true)) (hc : allCell cs = true) (hcs : cs.length = sz) (hs : (n + 1) * sz ≤ 65536) :
   ∃ t', appendA sz v (.slice e 0 1 1 sz ex) t nx = .ok (.slice nx 0 (n + 1) (n + 1) sz false) t' (nx + 1) ∧ (hv t' nx = some (.row (l ++ cs) true) ∧ Keep t t' nx (fun b => b = d)) := by
 have hsrc : srcCells (.slice e 0 1 1 sz ex) 1 sz t = some cs := by
   rw [src_row (k := 1) he (by omega), Nat.one_mul]
   congr 1
   exact whole hcs
 rcases h with ⟨rfl, rfl, rfl⟩ | ⟨rfl, hr⟩
 · obtain ⟨t', h1, h2⟩ := app_nil (t := t) (nx := nx) (sz := sz) (k := 1) (cs := cs) rfl hsrc hc (by decide) (by omega)
   exact ⟨t', h1, by rw [h2, upd_same]; rfl, Keep.upd kR h2 (.inl (Nat.le_refl _))⟩
 · obtain ⟨t', h1, t1, h2, h3⟩ := app_new_f (t := t) (nx := nx) (sz := sz) (k := 1) (b := d) (o := 0) (n := n) (c := n) (y := .slice e 0 1 1 sz ex) rfl hsrc hc hr (by omega) (by omega) hs
   refine ⟨t', h1, ?_, Keep.upd (Keep.upd kR h2 (.inr rfl)) h3 (.inl (Nat.le_refl _))⟩
   rw [lS h3, show (l.drop 0).take (n * sz) = l from whole hl]
/-- A list of its own, in the block d. -/
structure OL (t : TB) (nx d : Nat) (v : AV) (n sz : Nat) (l : List AV) : Prop where
 lt : d < nx
 v : (v = .nslice ∧ l = [] ∧ n = 0) ∨ v = .slice d 0 n n sz false ∧ hv t d = some (.row l true)
 len : l.length = n * sz
theorem OL.keep {t t' : TB} {nx nx' d n sz : Nat} {v : AV} {l : List AV} {W : Nat → Prop} (h : OL t nx d v n sz l) (hk : Keep t t' nx W) (hw : ¬ W d) (hn : nx ≤ nx') : OL t' nx' d v n sz l :=
 ⟨Nat.lt_of_lt_of_le h.lt hn, h.v.elim .inl (fun h1 => .inr ⟨h1.1, (hk d h.lt hw).trans h1.2⟩), h.len⟩
theorem OL.app {t : TB} {nx d n sz e : Nat} {v : AV} {l cs : List AV} {ex : Bool} (h : OL t nx d v n sz l) (he : hv t e = some (.row cs true)) (hc : allCell cs = true) (hcs : cs.length = sz) (hs : (n + 1) * sz ≤ 65536) :
   ∃ t', appendA sz v (.slice e 0 1 1 sz ex) t nx = .ok (.slice nx 0 (n + 1) (n + 1) sz false) t' (nx + 1) ∧ (OL t' (nx + 1) nx (.slice nx 0 (n + 1) (n + 1) sz false) (n + 1) sz (l ++ cs) ∧ Keep t t' nx (fun b => b = d)) := by
 obtain ⟨t', h1, h2, h3⟩ := app_gen h.v h.len he hc hcs hs
 exact ⟨t', h1, ⟨Nat.lt_succ_self _, .inr ⟨rfl, h2⟩, by rw [List.length_append, h.len, hcs, Nat.succ_mul]⟩, h3⟩
theorem OL.flat {t : TB} {nx d n sz : Nat} {v : AV} {l : List AV} (h : OL t nx d v n sz l) : flatC v = true := by
 rcases h.v with ⟨rfl, -⟩ | ⟨rfl, -⟩ <;> rfl
theorem OL.cell {t : TB} {nx d n sz : Nat} {v : AV} {l : List AV} (h : OL t nx d v n sz l) : isCell v = true := by
 rcases h.v with ⟨rfl, -⟩ | ⟨rfl, -⟩ <;> rfl
theorem agg3_flat {t t' : TB} {bd bd' : Nat} {vn vt : AV} {p : Int} {ns : List Nd} {ts : List Int} (h : RowN t bd vn ns) (h2 : RowI t' bd' vt ts) : ∀ v ∈ [vn, vt, .int .i64 p], flatC v = true := by
 intro v hv
 simp only [List.mem_cons, List.not_mem_nil, or_false] at hv
 rcases hv with rfl | rfl | rfl
 · rcases h with ⟨rfl, -⟩ | ⟨d, o, c, ex, wr, r, ivs, rfl, -⟩ <;> rfl
 · exact h2.flat
 · rfl
theorem node_at {r : List AV} {o j : Nat} {x : Nd} {iv v : AV} (h : (r.drop o).take 8 = ncells x iv) (hj : (ncells x iv)[j]? = some v) : r[o + j]? = some v := by
 rw [← h, List.getElem?_take, List.getElem?_drop] at hj
 split at hj
 · exact hj
 · cases hj
def isGate (x : Nd) : Prop := x.kind ≠ 2 ∧ x.kind ≠ 7 ∧ x.kind ≠ 8
def gv (l : List (List Nat)) (i : Nat) : List Nat := l.getD i []
def insV (v : List (List Nat)) (l : List Int) : List (List Nat) := l.map (fun k => gv v k.toNat)
def gateL (x : Nd) (vs : List (List Nat)) : List Nat :=
 if x.kind = 1 then x.value
 else if x.kind = 4 then (if truthL (gv vs 0) = 49 then gv vs 1 else gv vs 2)
 else if x.kind = 5 then isL (gv vs 0 = gv vs 1)
 else if x.kind = 6 then fitL (gv vs 0) x.wide.toNat
 else if x.op = 6 then condL (gv vs 0) (gv vs 1) (gv vs 2)
 else if x.op = 3 then bitL (gv vs 0) (gv vs 1)
 else if x.op = 4 then partL (gv vs 0) x.hi.toNat x.lo.toNat
 else if x.op = 5 then vs.flatten
 else if vs.length = 1 then unL x.op (gv vs 0)
 else binL x.op (gv vs 0) (gv vs 1)
/-- All values are vectors, as wide as their nodes. -/
structure VI (ns : List Nd) (v : List (List Nat)) : Prop where
 len : v.length = ns.length
 at_ : ∀ (i : Nat) (x : Nd), ns[i]? = some x → B4 (gv v i) ∧ ((gv v i).length : Int) = x.wide
theorem gv_at {v : List (List Nat)} {i : Nat} (h : i < v.length) : v[i]? = some (gv v i) := by
 unfold gv; rw [List.getD_eq_getElem?_getD, List.getElem?_eq_getElem h]; rfl
theorem gv_set {v : List (List Nat)} {i j : Nat} {s : List Nat} : gv (v.set i s) j = if i = j ∧ i < v.length then s else gv v j := by
 unfold gv
 rw [List.getD_eq_getElem?_getD, List.getD_eq_getElem?_getD, List.getElem?_set]
 by_cases h : i = j
 · subst h
   by_cases h2 : i < v.length
   · simp [h2]
   · simp [h2]
 · simp [h]
theorem insV_at {v : List (List Nat)} {l : List Int} {j : Nat} {k : Int} (h : l[j]? = some k) : gv (insV v l) j = gv v k.toNat := by
 unfold insV
 show (l.map _).getD j [] = _
 rw [List.getD_eq_getElem?_getD, List.getElem?_map, h]; rfl
theorem insV_len (v : List (List Nat)) (l : List Int) : (insV v l).length = l.length := by simp [insV]
theorem VI.ins {ns : List Nd} {v : List (List Nat)} (h : VI ns v) {l : List Int} (hin : ∀ k ∈ l, 0 ≤ k ∧ k < (ns.length : Int)) {j : Nat} {k : Int} (hk : l[j]? = some k) : B4 (gv (insV v l) j) ∧ ((gv (insV v l) j).length : Int) = wdN ns k := by
 have h1 := hin k (List.mem_of_getElem? hk)
 obtain ⟨x, hx⟩ := some_at (l := ns) (i := k.toNat) (by omega)
 rw [insV_at hk, show wdN ns k = x.wide from by unfold wdN; rw [hx]]
 exact h.at_ _ _ hx
theorem flat_bit : ∀ {vs : List (List Nat)}, (∀ s ∈ vs, B4 s) → B4 vs.flatten
 | [], _ => by intro c hc; simp at hc
 | s :: vs, h => by
   rw [List.flatten_cons]
   exact (h s (by simp)).app (flat_bit (fun u hu => h u (by simp [hu])))
theorem flat_len {v : List (List Nat)} {ns : List Nd} : ∀ {l : List Int}, (∀ (j : Nat) (k : Int), l[j]? = some k → ((gv v k.toNat).length : Int) = wdN ns k) → (((insV v l).flatten).length : Int) = (l.map (wdN ns)).sum
 | [], _ => rfl
 | k :: l, h => by
   have h0 := h 0 k rfl
   have ih := flat_len (l := l) (fun j k hk => h (j + 1) k hk)
   show ((gv v k.toNat ++ (insV v l).flatten).length : Int) = wdN ns k + (l.map (wdN ns)).sum
   rw [List.length_append, ← ih, ← h0]
   omega
theorem map1 {ns : List Nd} {l : List Int} {a : Int} (h : l.map (wdN ns) = [a]) : ∃ i, l = [i] ∧ wdN ns i = a := by
 match l, h with
 | [i], h => exact ⟨i, rfl, by simpa using h⟩
theorem map2 {ns : List Nd} {l : List Int} {a b : Int} (h : l.map (wdN ns) = [a, b]) : ∃ i j, l = [i, j] ∧ wdN ns i = a ∧ wdN ns j = b := by
 match l, h with
 | [i, j], h => exact ⟨i, j, rfl, by simpa using h⟩
theorem map3 {ns : List Nd} {l : List Int} {a b c : Int} (h : l.map (wdN ns) = [a, b, c]) : ∃ i j k, l = [i, j, k] ∧ wdN ns i = a ∧ wdN ns j = b ∧ wdN ns k = c := by
 match l, h with
 | [i, j, k], h => exact ⟨i, j, k, rfl, by simpa using h⟩
/-- What goes in, by the kind and the operator of a gate that may be. -/
theorem operW_cases {x : Nd} {w : List Int} (h : operW x w = x.wide) (h1 : 1 ≤ x.wide) :
   ((x.op = 7 ∨ x.op = 9) ∧ w = [x.wide]) ∨ ((x.op = 8 ∨ x.op = 10 ∨ x.op = 11 ∨ x.op = 12) ∧ (∃ a, w = [a]) ∧ x.wide = 1) ∨
   ((x.op = 13 ∨ x.op = 14 ∨ x.op = 23 ∨ x.op = 25 ∨ x.op = 24) ∧ w = [x.wide, x.wide]) ∨ ((x.op = 15 ∨ x.op = 16) ∧ ∃ b, w = [x.wide, b]) ∨
   ((17 ≤ x.op ∧ x.op ≤ 22) ∧ (∃ a, w = [a, a]) ∧ x.wide = 1) ∨ ((x.op = 26 ∨ x.op = 27 ∨ x.op = 3) ∧ (∃ a b, w = [a, b]) ∧ x.wide = 1) ∨
   (x.op = 6 ∧ ∃ a, w = [a, x.wide, x.wide]) ∨ (x.op = 4 ∧ ∃ a, w = [a] ∧ 0 ≤ x.lo ∧ x.lo ≤ x.hi ∧ x.hi < a ∧ x.wide = x.hi - x.lo + 1) ∨
   (x.op = 5 ∧ 1 ≤ w.length ∧ w.sum = x.wide) := by
 unfold operW at h
 split at h
 · rename_i e
   refine .inl ⟨e, ?_⟩
   split at h
   · rw [h]
   · omega
 split at h
 · rename_i e
   refine .inr (.inl ⟨e, ?_⟩)
   split at h
   · exact ⟨⟨_, rfl⟩, h.symm⟩
   · omega
 split at h
 · rename_i e
   refine .inr (.inr (.inl ⟨e, ?_⟩))
   split at h
   · split at h
     · rename_i e2; subst e2; rw [h]
     · omega
   · omega
 split at h
 · rename_i e
   refine .inr (.inr (.inr (.inl ⟨e, ?_⟩)))
   split at h
   · rw [h]; exact ⟨_, rfl⟩
   · omega
 split at h
 · rename_i e
   refine .inr (.inr (.inr (.inr (.inl ⟨e, ?_⟩))))
   split at h
   · split at h
     · rename_i e2; subst e2; exact ⟨⟨_, rfl⟩, h.symm⟩
     · omega
   · omega
 split at h
 · rename_i e
   refine .inr (.inr (.inr (.inr (.inr (.inl ⟨e, ?_⟩)))))
   split at h
   · exact ⟨⟨_, _, rfl⟩, h.symm⟩
   · omega
 split at h
 · rename_i e
   refine .inr (.inr (.inr (.inr (.inr (.inr (.inl ⟨e, ?_⟩))))))
   split at h
   · split at h
     · rename_i e2; subst e2; rw [h]; exact ⟨_, rfl⟩
     · omega
   · omega
 split at h
 · rename_i e
   refine .inr (.inr (.inr (.inr (.inr (.inr (.inr (.inl ⟨e, ?_⟩)))))))
   split at h
   · split at h
     · rename_i e2; exact ⟨_, rfl, e2.1, e2.2.1, e2.2.2, h.symm⟩
     · omega
   · omega
 split at h
 · rename_i e
   refine .inr (.inr (.inr (.inr (.inr (.inr (.inr (.inr ⟨e, ?_⟩)))))))
   split at h
   · rename_i e2; exact ⟨e2.1, h⟩
   · omega
 · omega
theorem gate_good {ns : List Nd} {v : List (List Nat)} {x : Nd} (hv : VI ns v) (hg : isGate x) (ho : ndOK (x.ins.map (wdN ns)) x) (hin : ∀ k ∈ x.ins, 0 ≤ k ∧ k < (ns.length : Int)) (hw : 1 ≤ x.wide) :
   B4 (gateL x (insV v x.ins)) ∧ ((gateL x (insV v x.ins)).length : Int) = x.wide := by
 have I : ∀ {j : Nat} {k : Int}, x.ins[j]? = some k → B4 (gv (insV v x.ins) j) ∧ ((gv (insV v x.ins) j).length : Int) = wdN ns k := fun hk => hv.ins hin hk
 unfold gateL
 rcases ho.2 with ⟨hk, -, h2, h3⟩ | ⟨hk, -⟩ | ⟨hk, h2⟩ | ⟨hk, a, h2⟩ | ⟨hk, ⟨a, h2⟩, h3⟩ | ⟨hk, a, h2⟩ | ⟨hk, -⟩ | ⟨hk, -⟩
 · rw [if_pos hk]; exact ⟨h2.2.2, h3⟩
 · exact absurd hk hg.1
 · rw [if_neg (by omega), if_neg (by omega), if_neg (by omega), if_neg (by omega)]
   rcases operW_cases h2 hw with ⟨e, w⟩ | ⟨e, ⟨a, w⟩, e1⟩ | ⟨e, w⟩ | ⟨e, b, w⟩ | ⟨e, ⟨a, w⟩, e1⟩ | ⟨e, ⟨a, b, w⟩, e1⟩ | ⟨e, a, w⟩ | ⟨e, a, w, l1, l2, l3, e1⟩ | ⟨e, w1, w2⟩
   · obtain ⟨i, hi, hwi⟩ := map1 w
     have h0 := I (j := 0) (k := i) (by rw [hi]; rfl)
     have u := unL_bit x.op (gv (insV v x.ins) 0)
     rw [if_neg (by omega), if_neg (by omega), if_neg (by omega), if_neg (by omega), if_pos (by rw [insV_len, hi]; rfl)]
     rw [if_neg (by omega)] at u
     exact ⟨u.1, by rw [u.2]; omega⟩
   · obtain ⟨i, hi, hwi⟩ := map1 w
     have u := unL_bit x.op (gv (insV v x.ins) 0)
     rw [if_neg (by omega), if_neg (by omega), if_neg (by omega), if_neg (by omega), if_pos (by rw [insV_len, hi]; rfl)]
     rw [if_pos (by omega)] at u
     exact ⟨u.1, by rw [u.2]; omega⟩
   · obtain ⟨i, j, hi, hwi, hwj⟩ := map2 w
     have h0 := I (j := 0) (k := i) (by rw [hi]; rfl)
     have h1 := I (j := 1) (k := j) (by rw [hi]; rfl)
     have u := binL_bit x.op h0.1 h1.1
     rw [if_neg (by omega), if_neg (by omega), if_neg (by omega), if_neg (by omega), if_neg (by rw [insV_len, hi]; simp)]
     rw [if_neg (by omega), if_pos (by omega)] at u
     exact ⟨u.1, by rw [u.2]; omega⟩
   · obtain ⟨i, j, hi, hwi, hwj⟩ := map2 w
     have h0 := I (j := 0) (k := i) (by rw [hi]; rfl)
     have h1 := I (j := 1) (k := j) (by rw [hi]; rfl)
     have u := binL_bit x.op h0.1 h1.1
     rw [if_neg (by omega), if_neg (by omega), if_neg (by omega), if_neg (by omega), if_neg (by rw [insV_len, hi]; simp)]
     rw [if_pos (by omega)] at u
     exact ⟨u.1, by rw [u.2]; omega⟩
   · obtain ⟨i, j, hi, hwi, hwj⟩ := map2 w
     have h0 := I (j := 0) (k := i) (by rw [hi]; rfl)
     have h1 := I (j := 1) (k := j) (by rw [hi]; rfl)
     have u := binL_bit x.op h0.1 h1.1
     rw [if_neg (by omega), if_neg (by omega), if_neg (by omega), if_neg (by omega), if_neg (by rw [insV_len, hi]; simp)]
     rw [if_neg (by omega), if_neg (by omega)] at u
     exact ⟨u.1, by rw [u.2]; omega⟩
   · obtain ⟨i, j, hi, hwi, hwj⟩ := map2 w
     have h0 := I (j := 0) (k := i) (by rw [hi]; rfl)
     have h1 := I (j := 1) (k := j) (by rw [hi]; rfl)
     rw [if_neg (by omega)]
     by_cases e3 : x.op = 3
     · rw [if_pos e3]
       have u := bitL_bit h0.1 (gv (insV v x.ins) 1)
       exact ⟨u.1, by rw [u.2]; omega⟩
     · have u := binL_bit x.op h0.1 h1.1
       rw [if_neg e3, if_neg (by omega), if_neg (by omega), if_neg (by rw [insV_len, hi]; simp)]
       rw [if_neg (by omega), if_neg (by omega)] at u
       exact ⟨u.1, by rw [u.2]; omega⟩
   · obtain ⟨i, j, k, hi, hwi, hwj, hwk⟩ := map3 w
     have h1 := I (j := 1) (k := j) (by rw [hi]; rfl)
     have h2 := I (j := 2) (k := k) (by rw [hi]; rfl)
     rw [if_pos e]
     have u := condL_bit (gv (insV v x.ins) 0) h1.1 h2.1 (by omega)
     exact ⟨u.1, by rw [u.2]; omega⟩
   · obtain ⟨i, hi, hwi⟩ := map1 w
     have h0 := I (j := 0) (k := i) (by rw [hi]; rfl)
     rw [if_neg (by omega), if_neg (by omega), if_pos e]
     have u := partL_bit h0.1 (hi := x.hi.toNat) (lo := x.lo.toNat) (by omega) (by omega)
     exact ⟨u.1, by rw [u.2]; omega⟩
   · rw [if_neg (by omega), if_neg (by omega), if_neg (by omega), if_pos e]
     refine ⟨flat_bit (fun s hs => ?_), ?_⟩
     · unfold insV at hs
       obtain ⟨k, hk, rfl⟩ := List.mem_map.1 hs
       obtain ⟨j, hj, e3⟩ := List.getElem_of_mem hk
       have e4 : x.ins[j]? = some k := by rw [List.getElem?_eq_getElem hj, e3]
       have := I e4
       rw [insV_at e4] at this
       exact this.1
     · rw [flat_len (ns := ns) (fun j k hk => by have := I hk; rw [insV_at hk] at this; exact this.2)]
       exact w2
 · obtain ⟨i, j, k, hi, hwi, hwj, hwk⟩ := map3 h2
   have h1 := I (j := 1) (k := j) (by rw [hi]; rfl)
   have h2 := I (j := 2) (k := k) (by rw [hi]; rfl)
   rw [if_neg (by omega), if_pos hk]
   split
   · exact ⟨h1.1, by omega⟩
   · exact ⟨h2.1, by omega⟩
 · rw [if_neg (by omega), if_neg (by omega), if_pos hk]
   have u := isL_bit (gv (insV v x.ins) 0 = gv (insV v x.ins) 1)
   exact ⟨u.1, by rw [u.2]; omega⟩
 · obtain ⟨i, hi, hwi⟩ := map1 h2
   have h0 := I (j := 0) (k := i) (by rw [hi]; rfl)
   rw [if_neg (by omega), if_neg (by omega), if_neg (by omega), if_pos hk]
   exact ⟨fitL_bit h0.1 _, by rw [fitL_len]; omega⟩
 · exact absurd hk hg.2.1
 · exact absurd hk hg.2.2
def nd0 : Nd := ⟨0, 0, 0, [], [], 0, 0, 0⟩
def ndAt (ns : List Nd) (k : Nat) : Nd := ns.getD k nd0
theorem ndAt_at {ns : List Nd} {k : Nat} {x : Nd} (h : ns[k]? = some x) : ndAt ns k = x := by unfold ndAt; rw [List.getD_eq_getElem?_getD, h]; rfl
def fol1 (ns : List Nd) (v : List (List Nat)) (k : Int) : List (List Nat) := v.set k.toNat (gateL (ndAt ns k.toNat) (insV v (ndAt ns k.toNat).ins))
def followL (ns : List Nd) (gs : List Int) (v : List (List Nat)) : List (List Nat) := gs.foldl (fol1 ns) v
/-- Nodes that may be, with gates that tell vectors. -/
structure NtG (ns : List Nd) : Prop where
 wide : ∀ x ∈ ns, 1 ≤ x.wide ∧ x.wide ≤ 256
 ins : ∀ x ∈ ns, ∀ k ∈ x.ins, 0 ≤ k ∧ k < (ns.length : Int)
 ok : ∀ x ∈ ns, ndOK (x.ins.map (wdN ns)) x
def GsOK (ns : List Nd) (gs : List Int) : Prop := ∀ k ∈ gs, 0 ≤ k ∧ ∃ x, ns[k.toNat]? = some x ∧ isGate x
theorem fol1_good {ns : List Nd} (hn : NtG ns) {v : List (List Nat)} {k : Int} (hk : 0 ≤ k ∧ ∃ x, ns[k.toNat]? = some x ∧ isGate x) (h : VI ns v) : VI ns (fol1 ns v k) := by
 obtain ⟨h0, x, hx, hg⟩ := hk
 have hm := List.mem_of_getElem? hx
 have g := gate_good h hg (hn.ok x hm) (hn.ins x hm) (hn.wide x hm).1
 refine ⟨by unfold fol1; rw [List.length_set]; exact h.len, fun i y hy => ?_⟩
 unfold fol1
 rw [gv_set, ndAt_at hx]
 by_cases e : k.toNat = i ∧ k.toNat < v.length
 · rw [if_pos e]
   obtain ⟨rfl, -⟩ := e
   rw [hx] at hy; cases hy
   exact g
 · rw [if_neg e]; exact h.at_ i y hy
theorem followL_snoc (ns : List Nd) (gs : List Int) (k : Int) (v : List (List Nat)) : followL ns (gs ++ [k]) v = fol1 ns (followL ns gs v) k := by unfold followL; rw [List.foldl_append]; rfl
/-- All gates have followed. -/
structure FixV (ns : List Nd) (v v' : List (List Nat)) : Prop where
 len : v'.length = v.length
 old : ∀ (i : Nat), (∀ x, ns[i]? = some x → ¬ isGate x) → gv v' i = gv v i
 new : ∀ (i : Nat) (x : Nd), ns[i]? = some x → isGate x → gv v' i = gateL x (insV v' x.ins)
theorem insV_congr {a b : List (List Nat)} {l : List Int} (h : ∀ k ∈ l, gv a k.toNat = gv b k.toNat) : insV a l = insV b l := List.map_congr_left h
theorem FixV.uniq {ns : List Nd} {v a b : List (List Nat)} (hl : ∀ (i : Nat) (x : Nd), ns[i]? = some x → isGate x → ∀ k ∈ x.ins, 0 ≤ k ∧ k < (i : Int)) (ha : FixV ns v a) (hb : FixV ns v b) : a = b := by
 have h : ∀ i, gv a i = gv b i := by
   intro i
   induction i using Nat.strongRecOn with
   | ind i ih =>
     by_cases hg : ∃ x, ns[i]? = some x ∧ isGate x
     · obtain ⟨x, hx, hg⟩ := hg
       rw [ha.new i x hx hg, hb.new i x hx hg]
       rw [insV_congr (a := a) (b := b) (fun k hk => ih k.toNat (by have := hl i x hx hg k hk; omega))]
     · have : ∀ x, ns[i]? = some x → ¬ isGate x := fun x hx hg2 => hg ⟨x, hx, hg2⟩
       rw [ha.old i this, hb.old i this]
 apply List.ext_getElem?
 intro i
 by_cases hi : i < v.length
 · rw [gv_at (by rw [ha.len]; exact hi), gv_at (by rw [hb.len]; exact hi), h i]
 · rw [List.getElem?_eq_none (by rw [ha.len]; omega), List.getElem?_eq_none (by rw [hb.len]; omega)]
theorem followL_len (ns : List Nd) : ∀ (gs : List Int) (v : List (List Nat)), (followL ns gs v).length = v.length
 | [], v => rfl
 | k :: gs, v => (followL_len ns gs _).trans (by unfold fol1; rw [List.length_set])
theorem fol_inv {ns : List Nd} {gs : List Int} {v : List (List Nat)} {lev : Int → Int} (hg : GsOK ns gs) (hv : v.length = ns.length) (hs : ∀ (i j : Nat) (a b : Int), i < j → gs[i]? = some a → gs[j]? = some b → lev a ≤ lev b)
   (hm : ∀ (i : Nat) (x : Nd), ns[i]? = some x → isGate x → ∀ k ∈ x.ins, 0 ≤ k ∧ lev k < lev (i : Int)) : ∀ m, m ≤ gs.length →
   (∀ i : Nat, (∀ j, j < m → gs[j]? ≠ some (i : Int)) → gv (followL ns (gs.take m) v) i = gv v i) ∧ (∀ (j i : Nat) (x : Nd), j < m → gs[j]? = some (i : Int) → ns[i]? = some x → gv (followL ns (gs.take m) v) i = gateL x (insV (followL ns (gs.take m) v) x.ins))
 | 0, _ => ⟨fun i _ => rfl, fun j i x hj => by omega⟩
 | m + 1, h => by
   obtain ⟨ih1, ih2⟩ := fol_inv hg hv hs hm m (by omega)
   obtain ⟨k, hk⟩ := some_at (l := gs) (i := m) (by omega)
   obtain ⟨k0, x, hx, hgx⟩ := hg k (List.mem_of_getElem? hk)
   have e : gs.take (m + 1) = gs.take m ++ [k] := by rw [List.take_succ, hk]; rfl
   have hkl : k.toNat < ns.length := (List.getElem?_eq_some_iff.1 hx).1
   have hkk : ((k.toNat : Nat) : Int) = k := by omega
   have hmk := hm k.toNat x hx hgx
   rw [hkk] at hmk
   rw [e, followL_snoc]
   generalize hw : followL ns (gs.take m) v = w at *
   have hwl : w.length = ns.length := by rw [← hw, followL_len]; exact hv
   have hne : ∀ i : Nat, (i : Int) ≠ k → gv (fol1 ns w k) i = gv w i := fun i hi => by
     unfold fol1; rw [gv_set, if_neg (by omega)]
   have hat : gv (fol1 ns w k) k.toNat = gateL x (insV w x.ins) := by
     unfold fol1; rw [gv_set, if_pos ⟨rfl, by omega⟩, ndAt_at hx]
   have hno : ∀ l : List Int, (∀ j ∈ l, 0 ≤ j ∧ lev j < lev k) → insV w l = insV (fol1 ns w k) l := fun l hl => insV_congr (fun j hj => by
     have := hl j hj
     refine (hne j.toNat (fun e => ?_)).symm
     rw [show ((j.toNat : Nat) : Int) = j by omega] at e
     subst e; omega)
   refine ⟨fun i hi => ?_, fun j i y hj hji hy => ?_⟩
   · rw [hne i (fun e => hi m (by omega) (by rw [hk, e]))]
     exact ih1 i (fun j hj => hi j (by omega))
   · by_cases e1 : (i : Int) = k
     · have e2 : k.toNat = i := by omega
       rw [e2] at hx hat
       rw [hx] at hy; cases hy
       rw [hat, hno _ hmk]
     · have hjm : j < m := by
         rcases Nat.lt_or_ge j m with h' | h'
         · exact h'
         · exact absurd (Option.some.inj ((by rw [← hji, show j = m by omega]; exact hk) : some (i : Int) = some k)) e1
       have h2 := ih2 j i y hjm hji hy
       obtain ⟨_, z, hz, hgz⟩ := hg i (List.mem_of_getElem? hji)
       have hy' : ns[((i : Int)).toNat]? = some y := hy
       rw [hy'] at hz; cases hz
       have hmi := hm i y hy hgz
       have hle := hs j m i k hjm hji hk
       rw [hne i e1, h2, hno _ (fun q hq => ⟨(hmi q hq).1, by have := (hmi q hq).2; omega⟩)]
theorem follow_fix {ns : List Nd} {gs : List Int} {v : List (List Nat)} {lev : Int → Int} (hg : GsOK ns gs) (hall : ∀ (i : Nat) (x : Nd), ns[i]? = some x → isGate x → (i : Int) ∈ gs) (hv : v.length = ns.length) (hs : ∀ (i j : Nat) (a b : Int), i < j → gs[i]? = some a → gs[j]? = some b → lev a ≤ lev b)
   (hm : ∀ (i : Nat) (x : Nd), ns[i]? = some x → isGate x → ∀ k ∈ x.ins, 0 ≤ k ∧ lev k < lev (i : Int)) : FixV ns v (followL ns gs v) := by
 obtain ⟨h1, h2⟩ := fol_inv (v := v) hg hv hs hm gs.length (Nat.le_refl _)
 rw [List.take_length] at h1 h2
 refine ⟨followL_len _ _ _, fun i hi => h1 i (fun j _ hj => ?_), fun i x hx hgx => ?_⟩
 · obtain ⟨_, x, hx, hgx⟩ := hg i (List.mem_of_getElem? hj)
   exact hi x hx hgx
 · obtain ⟨j, hj, e⟩ := List.getElem_of_mem (hall i x hx hgx)
   exact h2 j i x hj (by rw [List.getElem?_eq_getElem hj, e]) hx
theorem rise_same (a : List Nat) : riseL a a = false := by
 unfold riseL
 cases a.getLast? with
 | none => rfl
 | some x =>
   show (if x = 48 then decide (x ≠ 48) else if x = 49 then false else decide (x = 49)) = false
   by_cases h : x = 48
   · simp [h]
   · by_cases h2 : x = 49
     · simp [h2]
     · simp [h, h2]
def insAt (ns : List Nd) (k : Nat) (j : Nat) : Nat := ((ndAt ns k).ins.getD j 0).toNat
/-- One flip-flop's look at its clock: what clocks were, which ones rose. -/
def flip1 (ns : List Nd) (v : List (List Nat)) (p : List (List Nat) × List Int) (k : Int) : List (List Nat) × List Int :=
 (p.1.set k.toNat (gv v (insAt ns k.toNat 0)), if riseL (gv p.1 k.toNat) (gv v (insAt ns k.toNat 0)) = true then p.2 ++ [k] else p.2)
def flipsL (ns : List Nd) (v : List (List Nat)) (fl : List Int) (was : List (List Nat)) : List (List Nat) × List Int := fl.foldl (flip1 ns v) (was, [])
/-- All settles: gates follow, flip-flops take their data, at most one at a time. -/
inductive Settle (ns : List Nd) (gs fl : List Int) : Nat → List (List Nat) → List (List Nat) → List (List Nat) → List (List Nat) → Prop
 | stop {v was w : List (List Nat)} : flipsL ns (followL ns gs v) fl was = (w, []) → Settle ns gs fl 0 v was (followL ns gs v) w
 | rise {n : Nat} {v was w v' was' : List (List Nat)} {k : Int} : flipsL ns (followL ns gs v) fl was = (w, [k]) → Settle ns gs fl n ((followL ns gs v).set k.toNat (gv (followL ns gs v) (insAt ns k.toNat 1))) w v' was' → Settle ns gs fl (n + 1) v was v' was'
theorem NtG.isV {ns : List Nd} (hn : NtG ns) {v : List (List Nat)} (hv : VI ns v) {k : Int} (h0 : 0 ≤ k ∧ k < (ns.length : Int)) : isV (gv v k.toNat) := by
 obtain ⟨x, hx⟩ := some_at (l := ns) (i := k.toNat) (by omega)
 have h1 := hv.at_ _ _ hx
 have h2 := hn.wide x (List.mem_of_getElem? hx)
 exact ⟨by omega, by omega, h1.1⟩
theorem VI.wd {ns : List Nd} {v : List (List Nat)} (hv : VI ns v) {k : Int} (h0 : 0 ≤ k ∧ k < (ns.length : Int)) : ((gv v k.toNat).length : Int) = wdN ns k := by
 obtain ⟨x, hx⟩ := some_at (l := ns) (i := k.toNat) (by omega)
 rw [show wdN ns k = x.wide from by unfold wdN; rw [hx]]
 exact (hv.at_ _ _ hx).2
theorem insV_0 {v : List (List Nat)} {i : Int} {l : List Int} : gv (insV v (i :: l)) 0 = gv v i.toNat := rfl
theorem insV_1 {v : List (List Nat)} {i j : Int} {l : List Int} : gv (insV v (i :: j :: l)) 1 = gv v j.toNat := rfl
theorem insV_2 {v : List (List Nat)} {i j k : Int} {l : List Int} : gv (insV v (i :: j :: k :: l)) 2 = gv v k.toNat := rfl
theorem gate_k3 {x : Nd} {w : List Int} (h : nodeP w x) (hg : isGate x) (h1 : x.kind ≠ 1) (h4 : x.kind ≠ 4) (h5 : x.kind ≠ 5) (h6 : x.kind ≠ 6) : x.kind = 3 ∧ operW x w = x.wide := by
 rcases h with ⟨e, -⟩ | ⟨e, -⟩ | ⟨e, h⟩ | ⟨e, -⟩ | ⟨e, -⟩ | ⟨e, -⟩ | ⟨e, -⟩ | ⟨e, -⟩
 · exact absurd e h1
 · exact absurd e hg.1
 · exact ⟨e, h⟩
 · exact absurd e h4
 · exact absurd e h5
 · exact absurd e h6
 · exact absurd e hg.2.1
 · exact absurd e hg.2.2
section
variable {x : Nd} {w : List Int} (h : operW x w = x.wide) (h1 : 1 ≤ x.wide)
include h h1
theorem opw6 (e : x.op = 6) : ∃ a, w = [a, x.wide, x.wide] := by
 rcases operW_cases h h1 with ⟨e', w'⟩ | ⟨e', w'⟩ | ⟨e', w'⟩ | ⟨e', w'⟩ | ⟨e', w'⟩ | ⟨e', w'⟩ | ⟨e', w'⟩ | ⟨e', w'⟩ | ⟨e', w'⟩ <;> first | exact w' | (exfalso; omega)
theorem opw3 (e : x.op = 3) : ∃ a b, w = [a, b] := by
 rcases operW_cases h h1 with ⟨e', w'⟩ | ⟨e', w'⟩ | ⟨e', w'⟩ | ⟨e', w'⟩ | ⟨e', w'⟩ | ⟨e', w'⟩ | ⟨e', w'⟩ | ⟨e', w'⟩ | ⟨e', w'⟩ <;> first | exact w'.1 | (exfalso; omega)
theorem opw4 (e : x.op = 4) : ∃ a, w = [a] ∧ 0 ≤ x.lo ∧ x.lo ≤ x.hi ∧ x.hi < a ∧ x.wide = x.hi - x.lo + 1 := by
 rcases operW_cases h h1 with ⟨e', w'⟩ | ⟨e', w'⟩ | ⟨e', w'⟩ | ⟨e', w'⟩ | ⟨e', w'⟩ | ⟨e', w'⟩ | ⟨e', w'⟩ | ⟨e', w'⟩ | ⟨e', w'⟩ <;> first | exact w' | (exfalso; omega)
theorem opw1 (h6 : x.op ≠ 6) (h3 : x.op ≠ 3) (h4 : x.op ≠ 4) (h5 : x.op ≠ 5) (hl : w.length = 1) : (7 ≤ x.op ∧ x.op ≤ 12) ∧ ∃ a, w = [a] := by
 rcases operW_cases h h1 with ⟨e', w'⟩ | ⟨e', ⟨a, w'⟩, -⟩ | ⟨e', w'⟩ | ⟨e', a, w'⟩ | ⟨e', ⟨a, w'⟩, -⟩ | ⟨e', ⟨a, b, w'⟩, -⟩ | ⟨e', a, w'⟩ | ⟨e', w'⟩ | ⟨e', w'⟩
 · exact ⟨by omega, _, w'⟩
 · exact ⟨by omega, _, w'⟩
 · rw [w'] at hl; simp at hl
 · rw [w'] at hl; simp at hl
 · rw [w'] at hl; simp at hl
 · rw [w'] at hl; simp at hl
 · omega
 · omega
 · omega
theorem opw2 (h6 : x.op ≠ 6) (h3 : x.op ≠ 3) (h4 : x.op ≠ 4) (h5 : x.op ≠ 5) (hl : w.length ≠ 1) : (13 ≤ x.op ∧ x.op ≤ 27) ∧ ∃ a b, w = [a, b] := by
 rcases operW_cases h h1 with ⟨e', w'⟩ | ⟨e', ⟨a, w'⟩, -⟩ | ⟨e', w'⟩ | ⟨e', a, w'⟩ | ⟨e', ⟨a, w'⟩, -⟩ | ⟨e', ⟨a, b, w'⟩, -⟩ | ⟨e', a, w'⟩ | ⟨e', w'⟩ | ⟨e', w'⟩
 · rw [w'] at hl; simp at hl
 · rw [w'] at hl; simp at hl
 · exact ⟨by omega, _, _, w'⟩
 · exact ⟨by omega, _, _, w'⟩
 · exact ⟨by omega, _, _, w'⟩
 · exact ⟨by omega, _, _, w'⟩
 · omega
 · omega
 · omega
end
theorem ins_take {v : List (List Nat)} {l : List Int} {m : Nat} {k : Int} (h : l[m]? = some k) : (insV v (l.take (m + 1))).flatten = (insV v (l.take m)).flatten ++ gv v k.toNat := by
 rw [List.take_succ, h]
 unfold insV
 simp
theorem aeq_func {f : FuncId} {a b : List AV} (h : ∀ v ∈ a, flatC v = true) (k : ∀ v ∈ b, flatC v = true) : aeq (.func f a b) (.func f a b) = true := by
 show (match Nat.beq f f, aeqL a a, aeqL b b with | true, true, true => true | _, _, _ => false) = true
 rw [nbeq, aeqL_self h, aeqL_self k]
theorem Fit_okI {t : TB} {nx : Nat} {s : List Nat} {w : Int} (hs : isV s) (h1 : 1 ≤ w) (h2 : w ≤ 256) : WF tb 170 [.str s, .int .i64 w] t nx (fun v t' nx' => v = .tup [.str (fitL s w.toNat), .int .i64 0] ∧ nx ≤ nx' ∧ Keep t t' nx (fun _ => False)) := by
 have h := Fit_ok (t := t) (nx := nx) (w := w.toNat) hs (by omega) (by omega)
 rw [show ((w.toNat : Nat) : Int) = w by omega] at h
 exact h
theorem Part_okI {t : TB} {nx : Nat} {s : List Nat} {hi lo : Int} (hs : isV s) (h1 : 0 ≤ lo) (h2 : lo ≤ hi) (h3 : hi < (s.length : Int)) : WF tb 173 [.str s, .int .i64 hi, .int .i64 lo] t nx (fun v t' nx' => v = .tup [.str (partL s hi.toNat lo.toNat), .int .i64 0] ∧ nx ≤ nx' ∧ Keep t t' nx (fun _ => False)) := by
 have h := Part_ok (t := t) (nx := nx) (hi := hi.toNat) (lo := lo.toNat) hs (by omega) (by omega)
 rw [show ((hi.toNat : Nat) : Int) = hi by omega, show ((lo.toNat : Nat) : Int) = lo by omega] at h
 exact h
def gin_r0 : LI := [.o 4 (.mov (.c (.str [])))]
def gin_r1 : List DIns := [⟨0, [], .o 5 (.load (.t 1))⟩,
 ⟨1, [0], .o 6 (.nilck (.t 5))⟩,
 ⟨2, [1], .o 7 (.faddr (.t 6) 6)⟩,
 ⟨3, [2], .o 8 (.load (.t 7))⟩,
 ⟨4, [], .o 9 (.faddr (.t 2) 3)⟩,
 ⟨5, [4], .o 10 (.load (.t 9))⟩,
 ⟨6, [], .mv 11 0⟩,
 ⟨7, [5, 6], .o 12 (.iaddr 1 (.t 10) (.t 11))⟩,
 ⟨8, [7], .o 13 (.load (.t 12))⟩,
 ⟨9, [3, 8], .o 14 (.iaddr 1 (.t 8) (.t 13))⟩,
 ⟨10, [9], .o 15 (.load (.t 14))⟩,
 ⟨11, [10, 0, 1, 2, 3, 4, 5, 6, 7, 8, 9, 10], .mv 4 15⟩]
def gin_c : IC := (.seq (.reg gin_r0) (.seq (.draw gin_r1) .ret))
theorem gin_tab : tb 201 = some (.code 3 16 gin_c [.tmp 4]) := by kernel_rfl
theorem gin_ok {t : TB} {nx bd R V n : Nat} {vn vt gsv flv dlv wav lav qv : AV} {p : Int} {v : List (List Nat)} {B1 B2 j : Nat} {x : Nd} {iv : AV} {k : Int} (hR : hv t R = some (.row [vn, vt, (.int .i64 p), gsv, flv, dlv, (.slice V 0 n n 1 false), wav, lav, qv] true)) (hV : hv t V = some (.row (strs v) true)) (hVn : v.length = n) (h1 : hv t B1 = some (.row [.ptr R 0] true)) (h2 : hv t B2 = some (.row (ncells x iv) true)) (hI : RowI t bd iv x.ins) (hk : x.ins[j]? = some k) (hk0 : 0 ≤ k ∧ k < (n : Int)) : WF tb 201 [.int .i64 ((j : Nat) : Int), .ptr B1 0, .ptr B2 0] t nx (fun v' t' nx' => v' = .str (gv v k.toNat) ∧ nx ≤ nx' ∧ Keep t t' nx (fun _ => False)) := by
 have hj : j < x.ins.length := (List.getElem?_eq_some_iff.1 hk).1
 obtain ⟨dI, oI, cI, exI, wrI, rI, hIe, hId, hIr, hIg⟩ := RowI.at hI hk
 refine k_fun gin_tab rfl ?_
 unfold gin_c
 change WC _ _ (Bt.put (some _) (Bt.put (some _) (Bt.put (some _) Bt.e 0) 1) 2) _ _ _
 refine k_seq (k_reg (rO (o_mov ev_c) (r_nil (k_seq (k_draw (eO 0 rfl (o_load (eV (z1 (get_other rfl get_same))) h1 rfl) (eO 1 rfl (o_nilck eZ) (eO 2 rfl (o_faddr (off := 6) eZ) (eO 3 rfl (o_load eZ hR rfl) (eO 4 rfl (o_faddr (off := 3) (eV (z1 (z4 get_same)))) (eO 5 rfl (o_load eZ h2 rfl) (eO 6 rfl (o_mov (eV (z1 (z2 (z4 (get_other rfl (get_other rfl get_same))))))) (eO 7 rfl (o_iaddrE (i := j) (eV (z1 ds)) hIe eZ hj) (eO 8 rfl (o_load eZ hIr hIg) (eO 9 rfl (o_iaddr (i := k.toNat) (eV (z1 (z4 ds))) (ev_cast eZ (by omega)) (by omega)) ?_)))))))))))))))
 refine eO 10 rfl (o_load eZ hV (by rw [show 0 + k.toNat * 1 = k.toNat by omega]; exact strs_get (gv_at (by omega)))) ?_
 refine eO 11 rfl (o_mov eZ) (e_done (k_ret ?_))
 exact ⟨_, ans_tmp ds, rfl, by omega, kR⟩
def gate_r0 : LI := [.o 2 (.box (.t 0)),
 .o 3 (.box (.t 1)),
 .o 4 (.mov (.c (.str [])))]
def gate_r1 : LI := [.o 10 (.mkfn 201 [] [(.t 2), (.t 3)]),
 .mv 5 10]
def gate_r2 : LI := [.o 6 (.mov (.c (.str [])))]
def gate_r3 : LI := [.o 11 (.faddr (.t 3) 0),
 .o 12 (.load (.t 11))]
def gate_r4 : LI := [.o 14 (.bin .eql (.t 12) (kI 1)),
 .mv 13 14]
def gate_r5 : LI := [.o 15 (.faddr (.t 3) 4),
 .o 16 (.load (.t 15)),
 .mv 4 16]
def gate_r6 : LI := [.o 18 (.bin .eql (.t 12) (kI 4)),
 .mv 17 18]
def gate_r7 : LI := [.mv 20 5,
 ⟨(some 21), none, (.callV (.t 20) [(kI 0)])⟩,
 .f 22 169 [(.t 21)],
 .mv 19 22,
 .o 23 (.extr (.t 19) 0),
 .o 24 (.extr (.t 19) 1),
 .mv 7 23,
 .mv 8 24]
def gate_r8 : LI := [.mv 25 7,
 .o 26 (.bin .eql (.t 25) (.c (.int .u8 49)))]
def gate_r9 : LI := [.mv 27 5,
 ⟨(some 28), none, (.callV (.t 27) [(kI 1)])⟩,
 .mv 4 28]
def gate_r10 : LI := [.mv 29 5,
 ⟨(some 30), none, (.callV (.t 29) [(kI 2)])⟩,
 .mv 4 30]
def gate_r11 : LI := [.o 32 (.bin .eql (.t 12) (kI 5)),
 .mv 31 32]
def gate_r12 : LI := [.mv 33 5,
 ⟨(some 34), none, (.callV (.t 33) [(kI 0)])⟩,
 .mv 35 5,
 ⟨(some 36), none, (.callV (.t 35) [(kI 1)])⟩,
 .o 37 (.bin .eql (.t 34) (.t 36))]
def gate_r13 : LI := [.o 4 (.mov (.c (.str [49])))]
def gate_r14 : LI := [.o 4 (.mov (.c (.str [48])))]
def gate_r15 : LI := [.o 39 (.bin .eql (.t 12) (kI 6)),
 .mv 38 39]
def gate_r16 : List DIns := [⟨0, [], .mv 41 5⟩,
 ⟨1, [0], ⟨(some 42), none, (.callV (.t 41) [(kI 0)])⟩⟩,
 ⟨2, [], .o 43 (.faddr (.t 3) 2)⟩,
 ⟨3, [2], .o 44 (.load (.t 43))⟩,
 ⟨4, [1, 3, 1], .f 45 170 [(.t 42), (.t 44)]⟩,
 ⟨5, [4], .mv 40 45⟩,
 ⟨6, [5], .o 46 (.extr (.t 40) 0)⟩,
 ⟨7, [5], .o 47 (.extr (.t 40) 1)⟩,
 ⟨8, [6, 4, 0, 1, 2, 3, 4, 5, 6], .mv 6 46⟩]
def gate_r17 : LI := [.mv 48 6,
 .mv 4 48]
def gate_r18 : LI := [.o 60 (.faddr (.t 3) 1),
 .o 61 (.load (.t 60)),
 .o 62 (.bin .eql (.t 61) (kI 6)),
 .mv 59 62]
def gate_r19 : LI := [.mv 64 5,
 ⟨(some 65), none, (.callV (.t 64) [(kI 0)])⟩,
 .mv 66 5,
 ⟨(some 67), none, (.callV (.t 66) [(kI 1)])⟩,
 .mv 68 5,
 ⟨(some 69), none, (.callV (.t 68) [(kI 2)])⟩,
 .f 70 171 [(.t 65), (.t 67), (.t 69)],
 .mv 63 70,
 .o 71 (.extr (.t 63) 0),
 .o 72 (.extr (.t 63) 1),
 .mv 6 71]
def gate_r20 : LI := [.o 74 (.faddr (.t 3) 1),
 .o 75 (.load (.t 74)),
 .o 76 (.bin .eql (.t 75) (kI 3)),
 .mv 73 76]
def gate_r21 : LI := [.mv 78 5,
 ⟨(some 79), none, (.callV (.t 78) [(kI 0)])⟩,
 .mv 80 5,
 ⟨(some 81), none, (.callV (.t 80) [(kI 1)])⟩,
 .f 82 172 [(.t 79), (.t 81)],
 .mv 77 82,
 .o 83 (.extr (.t 77) 0),
 .o 84 (.extr (.t 77) 1),
 .mv 6 83]
def gate_r22 : LI := [.o 86 (.faddr (.t 3) 1),
 .o 87 (.load (.t 86)),
 .o 88 (.bin .eql (.t 87) (kI 4)),
 .mv 85 88]
def gate_r23 : List DIns := [⟨0, [], .mv 90 5⟩,
 ⟨1, [0], ⟨(some 91), none, (.callV (.t 90) [(kI 0)])⟩⟩,
 ⟨2, [], .o 92 (.faddr (.t 3) 5)⟩,
 ⟨3, [2], .o 93 (.load (.t 92))⟩,
 ⟨4, [], .o 94 (.faddr (.t 3) 6)⟩,
 ⟨5, [4], .o 95 (.load (.t 94))⟩,
 ⟨6, [1, 3, 5, 1], .f 96 173 [(.t 91), (.t 93), (.t 95)]⟩,
 ⟨7, [6], .mv 89 96⟩,
 ⟨8, [7], .o 97 (.extr (.t 89) 0)⟩,
 ⟨9, [7], .o 98 (.extr (.t 89) 1)⟩,
 ⟨10, [8, 6, 0, 1, 2, 3, 4, 5, 6, 7, 8], .mv 6 97⟩]
def gate_r24 : LI := [.o 100 (.faddr (.t 3) 1),
 .o 101 (.load (.t 100)),
 .o 102 (.bin .eql (.t 101) (kI 5)),
 .mv 99 102]
def gate_r25 : LI := [.o 103 (.faddr (.t 3) 3),
 .o 104 (.load (.t 103)),
 .o 105 (.len .slc (.t 104)),
 .o 106 (.mov (kI 0))]
def gate_r26 : LI := [.o 107 (.bin .lss (.t 106) (.t 105))]
def gate_r27 : LI := [.mv 108 106,
 .mv 9 108]
def gate_r28 : LI := [.mv 109 6,
 .mv 110 5,
 .mv 111 9,
 ⟨(some 112), none, (.callV (.t 110) [(.t 111)])⟩,
 .o 113 (.bin .add (.t 109) (.t 112)),
 .mv 6 113]
def gate_r29 : LI := [.o 114 (.bin .add (.t 106) (kI 1)),
 .mv 106 114]
def gate_r30 : LI := [.o 116 (.faddr (.t 3) 3),
 .o 117 (.load (.t 116)),
 .o 118 (.len .slc (.t 117)),
 .o 119 (.bin .eql (.t 118) (kI 1)),
 .mv 115 119]
def gate_r31 : List DIns := [⟨0, [], .o 121 (.faddr (.t 3) 1)⟩,
 ⟨1, [0], .o 122 (.load (.t 121))⟩,
 ⟨2, [], .mv 123 5⟩,
 ⟨3, [2], ⟨(some 124), none, (.callV (.t 123) [(kI 0)])⟩⟩,
 ⟨4, [1, 3, 3], .f 125 175 [(.t 122), (.t 124)]⟩,
 ⟨5, [4], .mv 120 125⟩,
 ⟨6, [5], .o 126 (.extr (.t 120) 0)⟩,
 ⟨7, [5], .o 127 (.extr (.t 120) 1)⟩,
 ⟨8, [6, 4, 0, 1, 2, 3, 4, 5, 6], .mv 6 126⟩]
def gate_r32 : List DIns := [⟨0, [], .o 50 (.faddr (.t 3) 1)⟩,
 ⟨1, [0], .o 51 (.load (.t 50))⟩,
 ⟨2, [], .mv 52 5⟩,
 ⟨3, [2], ⟨(some 53), none, (.callV (.t 52) [(kI 0)])⟩⟩,
 ⟨4, [], .mv 54 5⟩,
 ⟨5, [4, 3], ⟨(some 55), none, (.callV (.t 54) [(kI 1)])⟩⟩,
 ⟨6, [1, 3, 5, 5], .f 56 176 [(.t 51), (.t 53), (.t 55)]⟩,
 ⟨7, [6], .mv 49 56⟩,
 ⟨8, [7], .o 57 (.extr (.t 49) 0)⟩,
 ⟨9, [7], .o 58 (.extr (.t 49) 1)⟩,
 ⟨10, [8, 6, 0, 1, 2, 3, 4, 5, 6, 7, 8], .mv 6 57⟩]
def gate_r33 : LI := [.mv 128 6,
 .mv 4 128]
def gate_c : IC := (.seq (.reg gate_r0) (.seq (.reg gate_r1) (.seq (.reg gate_r2) (.seq (.seq (.reg gate_r3) (.block 0 (.seq (.reg gate_r4) (.cond (.t 13) (.seq (.reg gate_r5) .ret) (.seq (.reg gate_r6) (.cond (.t 17) (.seq (.seq (.reg gate_r7) (.seq (.reg gate_r8) (.cond (.t 26) (.seq (.reg gate_r9) .ret) .skip))) (.seq (.reg gate_r10) .ret)) (.seq (.reg gate_r11) (.cond (.t 31) (.seq (.seq (.reg gate_r12) (.cond (.t 37) (.seq (.reg gate_r13) .ret) .skip)) (.seq (.reg gate_r14) .ret)) (.seq (.reg gate_r15) (.cond (.t 38) (.seq (.draw gate_r16) (.seq (.reg gate_r17) .ret)) .skip)))))))))) (.seq (.block 1 (.seq (.reg gate_r18) (.cond (.t 59) (.reg gate_r19) (.seq (.reg gate_r20) (.cond (.t 73) (.reg gate_r21) (.seq (.reg gate_r22) (.cond (.t 85) (.draw gate_r23) (.seq (.reg gate_r24) (.cond (.t 99) (.seq (.reg gate_r25) (.block 2 (.loop (.seq (.reg gate_r26) (.seq (.cond (.t 107) .skip (.exit 2)) (.seq (.block 3 (.seq (.reg gate_r27) (.reg gate_r28))) (.reg gate_r29))))))) (.seq (.reg gate_r30) (.cond (.t 115) (.draw gate_r31) (.draw gate_r32)))))))))))) (.seq (.reg gate_r33) .ret))))))
theorem gate_tab : tb 159 = some (.code 2 129 gate_c [.tmp 4]) := by kernel_rfl
set_option maxHeartbeats 4000000 in
theorem gate_ok {t : TB} {nx bd R V n : Nat} {vn vt gsv flv dlv wav lav qv : AV} {p : Int} {v : List (List Nat)} {ns : List Nd} {x : Nd} {iv : AV} (hR : hv t R = some (.row [vn, vt, (.int .i64 p), gsv, flv, dlv, (.slice V 0 n n 1 false), wav, lav, qv] true)) (hV : hv t V = some (.row (strs v) true)) (hVn : v.length = n) (hI : RowI t bd iv x.ins) (hb : bd ≤ nx) (hRn : R < nx) (hVx : V < nx) (hn : NtG ns) (hVI : VI ns v) (hnn : n = ns.length) (hg : isGate x) (ho : ndOK (x.ins.map (wdN ns)) x) (hin : ∀ k ∈ x.ins, 0 ≤ k ∧ k < (ns.length : Int)) (hw : 1 ≤ x.wide ∧ x.wide ≤ 256) (hil : x.ins.length < 60000) : WF tb 159 [.ptr R 0, .agg (ncells x iv)] t nx (fun v' t' nx' => v' = .str (gateL x (insV v x.ins)) ∧ nx ≤ nx' ∧ Keep t t' nx (fun _ => False)) := by
 have hic := hI.cell
 have hmap : (x.ins.map (wdN ns)).length = x.ins.length := by simp
 unfold ncells
 refine k_fun gate_tab rfl ?_
 unfold gate_c
 change WC _ _ (Bt.put (some _) (Bt.put (some _) Bt.e 0) 1) _ _ _
 refine k_seq (k_reg (r_heap (o_box (eV (get_other rfl get_same))) rfl (fun t1 (hh2 : hv t1 = upd (hv t) nx (some (.row [(.ptr R 0)] true))) => r_heap (o_box (eV (z1 get_same))) rfl (fun t3 (hh4 : hv t3 = upd (hv t1) (nx + 1) (some (.row [(.int .i64 x.kind), (.int .i64 x.op), (.int .i64 x.wide), iv, (.str x.value), (.int .i64 x.hi), (.int .i64 x.lo), (.int .i64 x.time)] true))) => rO (o_mov ev_c) (r_nil (k_seq (k_reg (rO (o_mkfn evs_nil (evs_cons (eV (z2 ds)) (evs_cons (eV (z1 ds)) evs_nil))) (m1 ds (r_nil (k_seq (k_reg (rO (o_mov ev_c) (r_nil (k_seq (k_seq (k_reg (rO (o_faddr (off := 0) (eV (z4 ds))) (rO (o_load eZ (lS hh4) rfl) (r_nil (k_block (k_seq (k_reg (rO (o_eql eZ ev_c) (m1 ds (r_nil ?_))))))))))))))))))))))))))
 refine k_if eZ (fun hc5 => ?_) (fun hc5 => ?_)
 · refine k_seq (k_reg (rO (o_faddr (off := 4) (eV (z8 ds))) (rO (o_load eZ (lS hh4) rfl) (m1 ds (r_nil (k_ret ?_))))))
   have h_ : gateL x (insV v x.ins) = x.value := by unfold gateL; exact if_pos (by omega)
   exact ⟨_, ans_tmp ds, by rw [h_], by omega, kU (kU kR hh2) hh4⟩
 refine k_seq (k_reg (rO (o_eql (eV (z2 ds)) ev_c) (m1 ds (r_nil ?_))))
 refine k_if eZ (fun hc6 => ?_) (fun hc6 => ?_)
 · refine k_seq (k_seq ?_)
   obtain ⟨a_, ha_⟩ := (nodeP4 (by omega)).1 ho.2
   obtain ⟨i, j, k, hins, hwi, hwj, hwk⟩ := map3 ha_
   have hri := hin i (by rw [hins]; simp)
   have hvi := hn.isV hVI hri
   have hli := hVI.wd hri
   have hrj := hin j (by rw [hins]; simp)
   have hvj := hn.isV hVI hrj
   have hlj := hVI.wd hrj
   have hrk := hin k (by rw [hins]; simp)
   have hvk := hn.isV hVI hrk
   have hlk := hVI.wd hrk
   refine k_reg (m1 (z1 (z2 (z4 ds))) ?_)
   refine r_call (w_callV eZ (evs_cons ev_c evs_nil)) rfl (WF.mono (gin_ok (x := x) (j := 0) (k := i) (lN hh4 (lN hh2 hR)) (lN hh4 (lN hh2 hV)) hVn (lN hh4 (lS hh2)) (lS hh4) (hI.keep (fun d hd hw => (show Keep t t3 nx (fun _ => False) from kU (kU kR hh2) hh4) d (by omega) hw) (Nat.le_refl bd)) (by rw [hins]; rfl) (by omega)) ?_)
   rintro _ t8 n9 ⟨rfl, hng7, hkg7⟩
   refine r_call (w_callF (evs_cons eZ evs_nil)) rfl (WF.mono (Truth_ok hvi) ?_)
   rintro _ t11 n12 ⟨rfl, hnu10, hku10⟩
   refine m1 ds (rO (o_extr eZ rfl) (rO (o_extr (eV (z1 ds)) rfl) (m1 (z1 ds) (m1 (z1 ds) (r_nil (k_seq (k_reg (m1 (z1 ds) (rO (o_eqlK eZ ev_c) (r_nil ?_))))))))))
   refine k_if eZ (fun hc13 => ?_) (fun hc13 => ?_)
   · refine k_seq (k_reg (m1 (z1 (z16 ds)) ?_))
     refine r_call (w_callV eZ (evs_cons ev_c evs_nil)) rfl (WF.mono (gin_ok (x := x) (j := 1) (k := j) (Keep.look hku10 (by omega) id (Keep.look hkg7 (by omega) id (lN hh4 (lN hh2 hR)))) (Keep.look hku10 (by omega) id (Keep.look hkg7 (by omega) id (lN hh4 (lN hh2 hV)))) hVn (Keep.look hku10 (by omega) id (Keep.look hkg7 (by omega) id (lN hh4 (lS hh2)))) (Keep.look hku10 (by omega) id (Keep.look hkg7 (by omega) id (lS hh4))) (hI.keep (fun d hd hw => (show Keep t t11 nx (fun _ => False) from Keep.trans (Keep.trans (kU (kU kR hh2) hh4) hkg7 (by omega) (fun d _ h => h)) hku10 (by omega) (fun d _ h => h)) d (by omega) hw) (Nat.le_refl bd)) (by rw [hins]; rfl) (by omega)) ?_)
     rintro _ t15 n16 ⟨rfl, hng14, hkg14⟩
     refine m1 ds (r_nil (k_ret ?_))
     have h_ : gateL x (insV v x.ins) = (gv v j.toNat) := by have hgl := insV_len v x.ins; unfold gateL; rw [hins] at hgl ⊢; (try rw [insV_0]); (try rw [insV_1]); (try rw [insV_2]); (repeat first | rw [if_pos (by first | assumption | omega)] | rw [if_neg (by first | assumption | omega)]); first | done | rfl | (unfold isL; (repeat first | rw [if_pos (by first | assumption | omega)] | rw [if_neg (by first | assumption | omega)]))
     exact ⟨_, ans_tmp ds, by rw [h_], by omega, Keep.trans (Keep.trans (Keep.trans (kU (kU kR hh2) hh4) hkg7 (by omega) (fun d _ h => h)) hku10 (by omega) (fun d _ h => h)) hkg14 (by omega) (fun d _ h => h)⟩
   refine k_skip (k_seq (k_reg (m1 (z1 (z16 ds)) ?_)))
   refine r_call (w_callV eZ (evs_cons ev_c evs_nil)) rfl (WF.mono (gin_ok (x := x) (j := 2) (k := k) (Keep.look hku10 (by omega) id (Keep.look hkg7 (by omega) id (lN hh4 (lN hh2 hR)))) (Keep.look hku10 (by omega) id (Keep.look hkg7 (by omega) id (lN hh4 (lN hh2 hV)))) hVn (Keep.look hku10 (by omega) id (Keep.look hkg7 (by omega) id (lN hh4 (lS hh2)))) (Keep.look hku10 (by omega) id (Keep.look hkg7 (by omega) id (lS hh4))) (hI.keep (fun d hd hw => (show Keep t t11 nx (fun _ => False) from Keep.trans (Keep.trans (kU (kU kR hh2) hh4) hkg7 (by omega) (fun d _ h => h)) hku10 (by omega) (fun d _ h => h)) d (by omega) hw) (Nat.le_refl bd)) (by rw [hins]; rfl) (by omega)) ?_)
   rintro _ t18 n19 ⟨rfl, hng17, hkg17⟩
   refine m1 ds (r_nil (k_ret ?_))
   have h_ : gateL x (insV v x.ins) = (gv v k.toNat) := by have hgl := insV_len v x.ins; unfold gateL; rw [hins] at hgl ⊢; (try rw [insV_0]); (try rw [insV_1]); (try rw [insV_2]); (repeat first | rw [if_pos (by first | assumption | omega)] | rw [if_neg (by first | assumption | omega)]); first | done | rfl | (unfold isL; (repeat first | rw [if_pos (by first | assumption | omega)] | rw [if_neg (by first | assumption | omega)]))
   exact ⟨_, ans_tmp ds, by rw [h_], by omega, Keep.trans (Keep.trans (Keep.trans (kU (kU kR hh2) hh4) hkg7 (by omega) (fun d _ h => h)) hku10 (by omega) (fun d _ h => h)) hkg17 (by omega) (fun d _ h => h)⟩
 refine k_seq (k_reg (rO (o_eql (eV (z4 ds)) ev_c) (m1 ds (r_nil ?_))))
 refine k_if eZ (fun hc20 => ?_) (fun hc20 => ?_)
 · refine k_seq (k_seq ?_)
   obtain ⟨⟨a_, ha_⟩, -⟩ := (nodeP5 (by omega)).1 ho.2
   obtain ⟨i, j, hins, hwi, hwj⟩ := map2 ha_
   have hri := hin i (by rw [hins]; simp)
   have hvi := hn.isV hVI hri
   have hli := hVI.wd hri
   have hrj := hin j (by rw [hins]; simp)
   have hvj := hn.isV hVI hrj
   have hlj := hVI.wd hrj
   refine k_reg (m1 (z1 (z8 ds)) ?_)
   refine r_call (w_callV eZ (evs_cons ev_c evs_nil)) rfl (WF.mono (gin_ok (x := x) (j := 0) (k := i) (lN hh4 (lN hh2 hR)) (lN hh4 (lN hh2 hV)) hVn (lN hh4 (lS hh2)) (lS hh4) (hI.keep (fun d hd hw => (show Keep t t3 nx (fun _ => False) from kU (kU kR hh2) hh4) d (by omega) hw) (Nat.le_refl bd)) (by rw [hins]; rfl) (by omega)) ?_)
   rintro _ t22 n23 ⟨rfl, hng21, hkg21⟩
   refine m1 (z1 (z2 (z8 ds))) ?_
   refine r_call (w_callV eZ (evs_cons ev_c evs_nil)) rfl (WF.mono (gin_ok (x := x) (j := 1) (k := j) (Keep.look hkg21 (by omega) id (lN hh4 (lN hh2 hR))) (Keep.look hkg21 (by omega) id (lN hh4 (lN hh2 hV))) hVn (Keep.look hkg21 (by omega) id (lN hh4 (lS hh2))) (Keep.look hkg21 (by omega) id (lS hh4)) (hI.keep (fun d hd hw => (show Keep t t22 nx (fun _ => False) from Keep.trans (kU (kU kR hh2) hh4) hkg21 (by omega) (fun d _ h => h)) d (by omega) hw) (Nat.le_refl bd)) (by rw [hins]; rfl) (by omega)) ?_)
   rintro _ t25 n26 ⟨rfl, hng24, hkg24⟩
   refine rO (o_str_eql (eV (z2 ds)) eZ) (r_nil ?_)
   refine k_if eZ (fun hc27 => ?_) (fun hc27 => ?_)
   · refine k_seq (k_reg (rO (o_mov ev_c) (r_nil (k_ret ?_))))
     have h_ : gateL x (insV v x.ins) = [49] := by have hgl := insV_len v x.ins; unfold gateL; rw [hins] at hgl ⊢; (try rw [insV_0]); (try rw [insV_1]); (try rw [insV_2]); (repeat first | rw [if_pos (by first | assumption | omega)] | rw [if_neg (by first | assumption | omega)]); first | done | rfl | (unfold isL; (repeat first | rw [if_pos (by first | assumption | omega)] | rw [if_neg (by first | assumption | omega)]))
     exact ⟨_, ans_tmp ds, by rw [h_], by omega, Keep.trans (Keep.trans (kU (kU kR hh2) hh4) hkg21 (by omega) (fun d _ h => h)) hkg24 (by omega) (fun d _ h => h)⟩
   refine k_skip (k_seq (k_reg (rO (o_mov ev_c) (r_nil (k_ret ?_)))))
   have h_ : gateL x (insV v x.ins) = [48] := by have hgl := insV_len v x.ins; unfold gateL; rw [hins] at hgl ⊢; (try rw [insV_0]); (try rw [insV_1]); (try rw [insV_2]); (repeat first | rw [if_pos (by first | assumption | omega)] | rw [if_neg (by first | assumption | omega)]); first | done | rfl | (unfold isL; (repeat first | rw [if_pos (by first | assumption | omega)] | rw [if_neg (by first | assumption | omega)]))
   exact ⟨_, ans_tmp ds, by rw [h_], by omega, Keep.trans (Keep.trans (kU (kU kR hh2) hh4) hkg21 (by omega) (fun d _ h => h)) hkg24 (by omega) (fun d _ h => h)⟩
 refine k_seq (k_reg (rO (o_eql (eV (z2 (z4 ds))) ev_c) (m1 ds (r_nil ?_))))
 refine k_if eZ (fun hc28 => ?_) (fun hc28 => ?_)
 · refine k_seq ?_
   obtain ⟨a_, ha_⟩ := (nodeP6 (by omega)).1 ho.2
   obtain ⟨i, hins, hwi⟩ := map1 ha_
   have hri := hin i (by rw [hins]; simp)
   have hvi := hn.isV hVI hri
   have hli := hVI.wd hri
   refine k_draw (eO 0 rfl (o_mov (eV (z1 (z2 (z8 ds))))) (eO 2 rfl (o_faddr (off := 2) (eV (z1 (z2 (z4 (z8 ds)))))) (eO 3 rfl (o_load eZ (lS hh4) rfl) ?_)))
   refine d_call (ix := 1) (pr := [0]) (d := (some 42)) (g := none) (F' := [(⟨3, [2], .o 44 (.load (.t 43))⟩, (.int .i64 x.wide)), (⟨2, [], .o 43 (.faddr (.t 3) 2)⟩, (.ptr (nx + 1) 2))]) (w_callV (eV (z2 ds)) (evs_cons ev_c evs_nil)) rfl (by kernel_rfl) (by kernel_rfl) (by kernel_rfl) (by kernel_rfl) (WF.mono (gin_ok (x := x) (j := 0) (k := i) (lN hh4 (lN hh2 hR)) (lN hh4 (lN hh2 hV)) hVn (lN hh4 (lS hh2)) (lS hh4) (hI.keep (fun d hd hw => (show Keep t t3 nx (fun _ => False) from kU (kU kR hh2) hh4) d (by omega) hw) (Nat.le_refl bd)) (by rw [hins]; rfl) (by omega)) ?_)
   rintro _ t30 n31 ⟨rfl, hng29, hkg29⟩
   refine ⟨?_, ?_⟩
   · exact (all_cons_ (still_op rfl rfl (o_load (eV (z2 ds)) (Keep.look hkg29 (by omega) id (lS hh4)) rfl) (aeq_flat rfl)) (all_cons_ (still_op rfl rfl (o_faddr (off := 2) (eV (z2 (z16 ds)))) (aeq_flat rfl)) all_nil_))
   refine d_call (ix := 4) (pr := [1, 3, 1]) (d := (some 45)) (g := none) (F' := []) (w_callF (evs_cons eZ (evs_cons (eV (z1 ds)) evs_nil))) rfl (by kernel_rfl) (by kernel_rfl) (by kernel_rfl) (by kernel_rfl) (WF.mono (Fit_okI hvi (by omega) (by omega)) ?_)
   rintro _ t33 n34 ⟨rfl, hnf32, hkf32⟩
   refine ⟨?_, ?_⟩
   · exact all_nil_
   refine eO 5 rfl (o_mov eZ) (eO 6 rfl (o_extr eZ rfl) (eO 7 rfl (o_extr (eV (z1 ds)) rfl) (eO 8 rfl (o_mov (eV (z1 ds))) (e_done (k_seq (k_reg (m1 ds (m1 ds (r_nil (k_ret ?_))))))))))
   have h_ : gateL x (insV v x.ins) = (fitL (gv v i.toNat) x.wide.toNat) := by have hgl := insV_len v x.ins; unfold gateL; rw [hins] at hgl ⊢; (try rw [insV_0]); (try rw [insV_1]); (try rw [insV_2]); (repeat first | rw [if_pos (by first | assumption | omega)] | rw [if_neg (by first | assumption | omega)]); first | done | rfl | (unfold isL; (repeat first | rw [if_pos (by first | assumption | omega)] | rw [if_neg (by first | assumption | omega)]))
   exact ⟨_, ans_tmp ds, by rw [h_], by omega, Keep.trans (Keep.trans (kU (kU kR hh2) hh4) hkg29 (by omega) (fun d _ h => h)) hkf32 (by omega) (fun d _ h => h)⟩
 refine k_skip (k_seq (k_block (k_seq ?_)))
 obtain ⟨hk3, hop⟩ := gate_k3 ho.2 hg (by omega) (by omega) (by omega) (by omega)
 refine k_reg (rO (o_faddr (off := 1) (eV (z2 (z4 (z8 ds))))) (rO (o_load eZ (lS hh4) rfl) (rO (o_eql eZ ev_c) (m1 ds (r_nil ?_)))))
 refine k_if eZ (fun hc35 => ?_) (fun hc35 => ?_)
 · obtain ⟨a_, ha_⟩ := opw6 hop hw.1 (by omega)
   obtain ⟨i, j, k, hins, hwi, hwj, hwk⟩ := map3 ha_
   have hri := hin i (by rw [hins]; simp)
   have hvi := hn.isV hVI hri
   have hli := hVI.wd hri
   have hrj := hin j (by rw [hins]; simp)
   have hvj := hn.isV hVI hrj
   have hlj := hVI.wd hrj
   have hrk := hin k (by rw [hins]; simp)
   have hvk := hn.isV hVI hrk
   have hlk := hVI.wd hrk
   refine k_reg (m1 (z1 (z2 (z4 (z8 ds)))) ?_)
   refine r_call (w_callV eZ (evs_cons ev_c evs_nil)) rfl (WF.mono (gin_ok (x := x) (j := 0) (k := i) (lN hh4 (lN hh2 hR)) (lN hh4 (lN hh2 hV)) hVn (lN hh4 (lS hh2)) (lS hh4) (hI.keep (fun d hd hw => (show Keep t t3 nx (fun _ => False) from kU (kU kR hh2) hh4) d (by omega) hw) (Nat.le_refl bd)) (by rw [hins]; rfl) (by omega)) ?_)
   rintro _ t37 n38 ⟨rfl, hng36, hkg36⟩
   refine m1 (z1 (z16 ds)) ?_
   refine r_call (w_callV eZ (evs_cons ev_c evs_nil)) rfl (WF.mono (gin_ok (x := x) (j := 1) (k := j) (Keep.look hkg36 (by omega) id (lN hh4 (lN hh2 hR))) (Keep.look hkg36 (by omega) id (lN hh4 (lN hh2 hV))) hVn (Keep.look hkg36 (by omega) id (lN hh4 (lS hh2))) (Keep.look hkg36 (by omega) id (lS hh4)) (hI.keep (fun d hd hw => (show Keep t t37 nx (fun _ => False) from Keep.trans (kU (kU kR hh2) hh4) hkg36 (by omega) (fun d _ h => h)) d (by omega) hw) (Nat.le_refl bd)) (by rw [hins]; rfl) (by omega)) ?_)
   rintro _ t40 n41 ⟨rfl, hng39, hkg39⟩
   refine m1 (z1 (z2 (z16 ds))) ?_
   refine r_call (w_callV eZ (evs_cons ev_c evs_nil)) rfl (WF.mono (gin_ok (x := x) (j := 2) (k := k) (Keep.look hkg39 (by omega) id (Keep.look hkg36 (by omega) id (lN hh4 (lN hh2 hR)))) (Keep.look hkg39 (by omega) id (Keep.look hkg36 (by omega) id (lN hh4 (lN hh2 hV)))) hVn (Keep.look hkg39 (by omega) id (Keep.look hkg36 (by omega) id (lN hh4 (lS hh2)))) (Keep.look hkg39 (by omega) id (Keep.look hkg36 (by omega) id (lS hh4))) (hI.keep (fun d hd hw => (show Keep t t40 nx (fun _ => False) from Keep.trans (Keep.trans (kU (kU kR hh2) hh4) hkg36 (by omega) (fun d _ h => h)) hkg39 (by omega) (fun d _ h => h)) d (by omega) hw) (Nat.le_refl bd)) (by rw [hins]; rfl) (by omega)) ?_)
   rintro _ t43 n44 ⟨rfl, hng42, hkg42⟩
   refine r_call (w_callF (evs_cons (eV (z4 ds)) (evs_cons (eV (z2 ds)) (evs_cons eZ evs_nil)))) rfl (WF.mono (Cond_ok hvi hvj hvk (by omega)) ?_)
   rintro _ t46 n47 ⟨rfl, hnf45, hkf45⟩
   refine m1 ds (rO (o_extr eZ rfl) (rO (o_extr (eV (z1 ds)) rfl) (m1 (z1 ds) (r_nil (k_seq (k_reg (m1 ds (m1 ds (r_nil (k_ret ?_))))))))))
   have h_ : gateL x (insV v x.ins) = (condL (gv v i.toNat) (gv v j.toNat) (gv v k.toNat)) := by have hgl := insV_len v x.ins; unfold gateL; rw [hins] at hgl ⊢; (try rw [insV_0]); (try rw [insV_1]); (try rw [insV_2]); (repeat first | rw [if_pos (by first | assumption | omega)] | rw [if_neg (by first | assumption | omega)]); first | done | rfl | (unfold isL; (repeat first | rw [if_pos (by first | assumption | omega)] | rw [if_neg (by first | assumption | omega)]))
   exact ⟨_, ans_tmp ds, by rw [h_], by omega, Keep.trans (Keep.trans (Keep.trans (Keep.trans (kU (kU kR hh2) hh4) hkg36 (by omega) (fun d _ h => h)) hkg39 (by omega) (fun d _ h => h)) hkg42 (by omega) (fun d _ h => h)) hkf45 (by omega) (fun d _ h => h)⟩
 refine k_seq (k_reg (rO (o_faddr (off := 1) (eV (z2 (z16 ds)))) (rO (o_load eZ (lS hh4) rfl) (rO (o_eql eZ ev_c) (m1 ds (r_nil ?_))))))
 refine k_if eZ (fun hc48 => ?_) (fun hc48 => ?_)
 · obtain ⟨a_, b_, ha_⟩ := opw3 hop hw.1 (by omega)
   obtain ⟨i, j, hins, hwi, hwj⟩ := map2 ha_
   have hri := hin i (by rw [hins]; simp)
   have hvi := hn.isV hVI hri
   have hli := hVI.wd hri
   have hrj := hin j (by rw [hins]; simp)
   have hvj := hn.isV hVI hrj
   have hlj := hVI.wd hrj
   refine k_reg (m1 (z1 (z2 (z16 ds))) ?_)
   refine r_call (w_callV eZ (evs_cons ev_c evs_nil)) rfl (WF.mono (gin_ok (x := x) (j := 0) (k := i) (lN hh4 (lN hh2 hR)) (lN hh4 (lN hh2 hV)) hVn (lN hh4 (lS hh2)) (lS hh4) (hI.keep (fun d hd hw => (show Keep t t3 nx (fun _ => False) from kU (kU kR hh2) hh4) d (by omega) hw) (Nat.le_refl bd)) (by rw [hins]; rfl) (by omega)) ?_)
   rintro _ t50 n51 ⟨rfl, hng49, hkg49⟩
   refine m1 (z1 (z4 (z16 ds))) ?_
   refine r_call (w_callV eZ (evs_cons ev_c evs_nil)) rfl (WF.mono (gin_ok (x := x) (j := 1) (k := j) (Keep.look hkg49 (by omega) id (lN hh4 (lN hh2 hR))) (Keep.look hkg49 (by omega) id (lN hh4 (lN hh2 hV))) hVn (Keep.look hkg49 (by omega) id (lN hh4 (lS hh2))) (Keep.look hkg49 (by omega) id (lS hh4)) (hI.keep (fun d hd hw => (show Keep t t50 nx (fun _ => False) from Keep.trans (kU (kU kR hh2) hh4) hkg49 (by omega) (fun d _ h => h)) d (by omega) hw) (Nat.le_refl bd)) (by rw [hins]; rfl) (by omega)) ?_)
   rintro _ t53 n54 ⟨rfl, hng52, hkg52⟩
   refine r_call (w_callF (evs_cons (eV (z2 ds)) (evs_cons eZ evs_nil))) rfl (WF.mono (Bit_ok hvi hvj) ?_)
   rintro _ t56 n57 ⟨rfl, hnf55, hkf55⟩
   refine m1 ds (rO (o_extr eZ rfl) (rO (o_extr (eV (z1 ds)) rfl) (m1 (z1 ds) (r_nil (k_seq (k_reg (m1 ds (m1 ds (r_nil (k_ret ?_))))))))))
   have h_ : gateL x (insV v x.ins) = (bitL (gv v i.toNat) (gv v j.toNat)) := by have hgl := insV_len v x.ins; unfold gateL; rw [hins] at hgl ⊢; (try rw [insV_0]); (try rw [insV_1]); (try rw [insV_2]); (repeat first | rw [if_pos (by first | assumption | omega)] | rw [if_neg (by first | assumption | omega)]); first | done | rfl | (unfold isL; (repeat first | rw [if_pos (by first | assumption | omega)] | rw [if_neg (by first | assumption | omega)]))
   exact ⟨_, ans_tmp ds, by rw [h_], by omega, Keep.trans (Keep.trans (Keep.trans (kU (kU kR hh2) hh4) hkg49 (by omega) (fun d _ h => h)) hkg52 (by omega) (fun d _ h => h)) hkf55 (by omega) (fun d _ h => h)⟩
 refine k_seq (k_reg (rO (o_faddr (off := 1) (eV (z2 (z4 (z16 ds))))) (rO (o_load eZ (lS hh4) rfl) (rO (o_eql eZ ev_c) (m1 ds (r_nil ?_))))))
 refine k_if eZ (fun hc58 => ?_) (fun hc58 => ?_)
 · obtain ⟨a_, ha_, hlo, hhi, hha, -⟩ := opw4 hop hw.1 (by omega)
   obtain ⟨i, hins, hwi⟩ := map1 ha_
   have hri := hin i (by rw [hins]; simp)
   have hvi := hn.isV hVI hri
   have hli := hVI.wd hri
   refine k_draw (eO 0 rfl (o_mov (eV (z1 (z2 (z4 (z16 ds)))))) (eO 2 rfl (o_faddr (off := 5) (eV (z1 (z2 (z8 (z16 ds)))))) (eO 3 rfl (o_load eZ (lS hh4) rfl) (eO 4 rfl (o_faddr (off := 6) (eV (z1 (z4 (z8 (z16 ds)))))) (eO 5 rfl (o_load eZ (lS hh4) rfl) ?_)))))
   refine d_call (ix := 1) (pr := [0]) (d := (some 91)) (g := none) (F' := [(⟨5, [4], .o 95 (.load (.t 94))⟩, (.int .i64 x.lo)), (⟨4, [], .o 94 (.faddr (.t 3) 6)⟩, (.ptr (nx + 1) 6)), (⟨3, [2], .o 93 (.load (.t 92))⟩, (.int .i64 x.hi)), (⟨2, [], .o 92 (.faddr (.t 3) 5)⟩, (.ptr (nx + 1) 5))]) (w_callV (eV (z4 ds)) (evs_cons ev_c evs_nil)) rfl (by kernel_rfl) (by kernel_rfl) (by kernel_rfl) (by kernel_rfl) (WF.mono (gin_ok (x := x) (j := 0) (k := i) (lN hh4 (lN hh2 hR)) (lN hh4 (lN hh2 hV)) hVn (lN hh4 (lS hh2)) (lS hh4) (hI.keep (fun d hd hw => (show Keep t t3 nx (fun _ => False) from kU (kU kR hh2) hh4) d (by omega) hw) (Nat.le_refl bd)) (by rw [hins]; rfl) (by omega)) ?_)
   rintro _ t60 n61 ⟨rfl, hng59, hkg59⟩
   refine ⟨?_, ?_⟩
   · exact (all_cons_ (still_op rfl rfl (o_load (eV (z2 ds)) (Keep.look hkg59 (by omega) id (lS hh4)) rfl) (aeq_flat rfl)) (all_cons_ (still_op rfl rfl (o_faddr (off := 6) (eV (z16 (z16 ds)))) (aeq_flat rfl)) (all_cons_ (still_op rfl rfl (o_load (eV (z4 ds)) (Keep.look hkg59 (by omega) id (lS hh4)) rfl) (aeq_flat rfl)) (all_cons_ (still_op rfl rfl (o_faddr (off := 5) (eV (z16 (z16 ds)))) (aeq_flat rfl)) all_nil_))))
   refine d_call (ix := 6) (pr := [1, 3, 5, 1]) (d := (some 96)) (g := none) (F' := []) (w_callF (evs_cons eZ (evs_cons (eV (z1 (z2 ds))) (evs_cons (eV (z1 ds)) evs_nil)))) rfl (by kernel_rfl) (by kernel_rfl) (by kernel_rfl) (by kernel_rfl) (WF.mono (Part_okI hvi (by omega) (by omega) (by omega)) ?_)
   rintro _ t63 n64 ⟨rfl, hnf62, hkf62⟩
   refine ⟨?_, ?_⟩
   · exact all_nil_
   refine eO 7 rfl (o_mov eZ) (eO 8 rfl (o_extr eZ rfl) (eO 9 rfl (o_extr (eV (z1 ds)) rfl) (eO 10 rfl (o_mov (eV (z1 ds))) (e_done (k_seq (k_reg (m1 ds (m1 ds (r_nil (k_ret ?_))))))))))
   have h_ : gateL x (insV v x.ins) = (partL (gv v i.toNat) x.hi.toNat x.lo.toNat) := by have hgl := insV_len v x.ins; unfold gateL; rw [hins] at hgl ⊢; (try rw [insV_0]); (try rw [insV_1]); (try rw [insV_2]); (repeat first | rw [if_pos (by first | assumption | omega)] | rw [if_neg (by first | assumption | omega)]); first | done | rfl | (unfold isL; (repeat first | rw [if_pos (by first | assumption | omega)] | rw [if_neg (by first | assumption | omega)]))
   exact ⟨_, ans_tmp ds, by rw [h_], by omega, Keep.trans (Keep.trans (kU (kU kR hh2) hh4) hkg59 (by omega) (fun d _ h => h)) hkf62 (by omega) (fun d _ h => h)⟩
 refine k_seq (k_reg (rO (o_faddr (off := 1) (eV (z2 (z8 (z16 ds))))) (rO (o_load eZ (lS hh4) rfl) (rO (o_eql eZ ev_c) (m1 ds (r_nil ?_))))))
 refine k_if eZ (fun hc65 => ?_) (fun hc65 => ?_)
 · refine k_seq (k_reg (rO (o_faddr (off := 3) (eV (z2 (z4 (z8 (z16 ds)))))) (rO (o_load eZ (lS hh4) rfl) (rO (o_len_I hI eZ) (rO (o_mov ev_c) (r_nil (k_block (k_loop (fun mm Tv tv nv => ∃ (m : Nat) (s : List Nat), m ≤ x.ins.length ∧ s = (insV v (x.ins.take m)).flatten ∧ s.length ≤ m * 256 ∧ (Tv.get 5 = some (.func 201 [] [(.ptr nx 0), (.ptr (nx + 1) 0)]) ∧ Tv.get 6 = some (.str s) ∧ Tv.get 105 = some (.int .i64 ((x.ins.length : Nat) : Int)) ∧ Tv.get 106 = some (.int .i64 ((m : Nat) : Int))) ∧ hv tv nx = some (.row [.ptr R 0] true) ∧ hv tv (nx + 1) = some (.row (ncells x iv) true) ∧ nx + 2 ≤ nv ∧ Keep t tv nx (fun _ => False) ∧ mm + m = x.ins.length) (fun mm Tv tv nv hI => ?_) (x.ins.length) ⟨0, [], by omega, rfl, by simp, ⟨(z1 (z2 (z4 (z8 (z16 ds))))), (z2 (z4 (z8 (z16 ds)))), (z1 ds), ds⟩, (lN hh4 (lS hh2)), (lS hh4), by omega, kU (kU kR hh2) hh4, by omega⟩))))))))
   obtain ⟨m, s, hm, hsf, hsl, ⟨q5, q6, q105, q106⟩, hb1, hb2, hnv, hkv, hmm⟩ := hI
   have hR1 := hkv.look (by omega) id hR
   have hV1 := hkv.look (by omega) id hV
   refine k_seq (k_reg (rO (o_lss (eV q106) (eV q105)) (r_nil (k_seq ?_))))
   refine k_if eZ (fun hc66 => ?_) (fun hc66 => ?_)
   · refine k_skip (k_seq (k_block (k_seq (k_reg (m1 (z1 q106) (m1 ds (r_nil ?_)))))))
     obtain ⟨k, hk⟩ := some_at (l := x.ins) (i := m) (by omega)
     have hrk := hin k (List.mem_of_getElem? hk)
     have hvk := (hn.isV hVI hrk).2.1
     refine k_reg (m1 (z1 (z2 q6)) (m1 (z4 q5) (m1 (z2 ds) (r_call (w_callV (eV (z1 ds)) (evs_cons eZ evs_nil)) rfl (WF.mono (gin_ok (x := x) (j := m) (k := k) hR1 hV1 hVn hb1 hb2 (hI.keep (fun d hd hw => (show Keep t tv nx (fun _ => False) from hkv) d (by omega) hw) (Nat.le_refl bd)) hk (by omega)) ?_)))))
     rintro _ t68 n69 ⟨rfl, hng67, hkg67⟩
     refine rO (o_cat (eV (z1 (z2 ds))) eZ (by omega)) (m1 ds (r_nil (k_reg (rO (o_addN (a := m) (b := 1) (eV (z1 (z8 q106))) ev_c (by omega)) (m1 ds (r_nil ?_))))))
     exact ⟨x.ins.length - (m + 1), by omega, m + 1, _, by omega, by rw [ins_take hk, hsf], by rw [List.length_append]; omega, ⟨(z1 (z2 (z8 q5))), (z2 ds), (z1 (z2 (z8 q105))), ds⟩, (Keep.look hkg67 (by omega) id hb1), (Keep.look hkg67 (by omega) id hb2), by omega, Keep.trans (hkv) hkg67 (by omega) (fun d _ h => h), by omega⟩
   refine k_exit (exK_same (k_seq (k_reg (m1 (z1 q6) (m1 ds (r_nil (k_ret ?_)))))))
   have h_ : gateL x (insV v x.ins) = s := by unfold gateL; (repeat first | rw [if_pos (by first | assumption | omega)] | rw [if_neg (by first | assumption | omega)]); rw [hsf, List.take_of_length_le (by omega)]
   exact ⟨_, ans_tmp ds, by rw [h_], by omega, hkv⟩
 refine k_seq (k_reg (rO (o_faddr (off := 3) (eV (z2 (z4 (z8 (z16 ds)))))) (rO (o_load eZ (lS hh4) rfl) (rO (o_len_I hI eZ) (rO (o_eql eZ ev_c) (m1 ds (r_nil ?_)))))))
 refine k_if eZ (fun hc70 => ?_) (fun hc70 => ?_)
 · obtain ⟨hop1, a_, ha_⟩ := opw1 hop hw.1 (by omega) (by omega) (by omega) (by omega) (by omega)
   obtain ⟨i, hins, hwi⟩ := map1 ha_
   have hri := hin i (by rw [hins]; simp)
   have hvi := hn.isV hVI hri
   have hli := hVI.wd hri
   refine k_draw (eO 0 rfl (o_faddr (off := 1) (eV (z1 (z2 (z16 (z16 ds)))))) (eO 1 rfl (o_load eZ (lS hh4) rfl) (eO 2 rfl (o_mov (eV (z2 (z16 (z16 ds))))) ?_)))
   refine d_call (ix := 3) (pr := [2]) (d := (some 124)) (g := none) (F' := [(⟨1, [0], .o 122 (.load (.t 121))⟩, (.int .i64 x.op)), (⟨0, [], .o 121 (.faddr (.t 3) 1)⟩, (.ptr (nx + 1) 1))]) (w_callV eZ (evs_cons ev_c evs_nil)) rfl (by kernel_rfl) (by kernel_rfl) (by kernel_rfl) (by kernel_rfl) (WF.mono (gin_ok (x := x) (j := 0) (k := i) (lN hh4 (lN hh2 hR)) (lN hh4 (lN hh2 hV)) hVn (lN hh4 (lS hh2)) (lS hh4) (hI.keep (fun d hd hw => (show Keep t t3 nx (fun _ => False) from kU (kU kR hh2) hh4) d (by omega) hw) (Nat.le_refl bd)) (by rw [hins]; rfl) (by omega)) ?_)
   rintro _ t72 n73 ⟨rfl, hng71, hkg71⟩
   refine ⟨?_, ?_⟩
   · exact (all_cons_ (still_op rfl rfl (o_load (eV (z1 (z2 ds))) (Keep.look hkg71 (by omega) id (lS hh4)) rfl) (aeq_flat rfl)) (all_cons_ (still_op rfl rfl (o_faddr (off := 1) (eV (z1 (z2 (z4 (z16 (z16 ds))))))) (aeq_flat rfl)) all_nil_))
   refine d_call (ix := 4) (pr := [1, 3, 3]) (d := (some 125)) (g := none) (F' := []) (w_callF (evs_cons (eV (z2 ds)) (evs_cons eZ evs_nil))) rfl (by kernel_rfl) (by kernel_rfl) (by kernel_rfl) (by kernel_rfl) (WF.mono (Unary_ok hvi hop1.1 hop1.2) ?_)
   rintro _ t75 n76 ⟨rfl, hnf74, hkf74⟩
   refine ⟨?_, ?_⟩
   · exact all_nil_
   refine eO 5 rfl (o_mov eZ) (eO 6 rfl (o_extr eZ rfl) (eO 7 rfl (o_extr (eV (z1 ds)) rfl) (eO 8 rfl (o_mov (eV (z1 ds))) (e_done (k_seq (k_reg (m1 ds (m1 ds (r_nil (k_ret ?_))))))))))
   have h_ : gateL x (insV v x.ins) = (unL x.op (gv v i.toNat)) := by have hgl := insV_len v x.ins; unfold gateL; rw [hins] at hgl ⊢; (try rw [insV_0]); (try rw [insV_1]); (try rw [insV_2]); (repeat first | rw [if_pos (by first | assumption | omega)] | rw [if_neg (by first | assumption | omega)]); first | done | rfl | (unfold isL; (repeat first | rw [if_pos (by first | assumption | omega)] | rw [if_neg (by first | assumption | omega)]))
   exact ⟨_, ans_tmp ds, by rw [h_], by omega, Keep.trans (Keep.trans (kU (kU kR hh2) hh4) hkg71 (by omega) (fun d _ h => h)) hkf74 (by omega) (fun d _ h => h)⟩
 obtain ⟨hop1, a_, b_, ha_⟩ := opw2 hop hw.1 (by omega) (by omega) (by omega) (by omega) (by omega)
 obtain ⟨i, j, hins, hwi, hwj⟩ := map2 ha_
 have hri := hin i (by rw [hins]; simp)
 have hvi := hn.isV hVI hri
 have hli := hVI.wd hri
 have hrj := hin j (by rw [hins]; simp)
 have hvj := hn.isV hVI hrj
 have hlj := hVI.wd hrj
 refine k_draw (eO 0 rfl (o_faddr (off := 1) (eV (z1 (z2 (z16 (z16 ds)))))) (eO 1 rfl (o_load eZ (lS hh4) rfl) (eO 2 rfl (o_mov (eV (z2 (z16 (z16 ds))))) (eO 4 rfl (o_mov (eV (z1 (z2 (z16 (z16 ds)))))) ?_))))
 refine d_call (ix := 3) (pr := [2]) (d := (some 53)) (g := none) (F' := [(⟨4, [], .mv 54 5⟩, (.func 201 [] [(.ptr nx 0), (.ptr (nx + 1) 0)])), (⟨1, [0], .o 51 (.load (.t 50))⟩, (.int .i64 x.op)), (⟨0, [], .o 50 (.faddr (.t 3) 1)⟩, (.ptr (nx + 1) 1))]) (w_callV (eV (z1 ds)) (evs_cons ev_c evs_nil)) rfl (by kernel_rfl) (by kernel_rfl) (by kernel_rfl) (by kernel_rfl) (WF.mono (gin_ok (x := x) (j := 0) (k := i) (lN hh4 (lN hh2 hR)) (lN hh4 (lN hh2 hV)) hVn (lN hh4 (lS hh2)) (lS hh4) (hI.keep (fun d hd hw => (show Keep t t3 nx (fun _ => False) from kU (kU kR hh2) hh4) d (by omega) hw) (Nat.le_refl bd)) (by rw [hins]; rfl) (by omega)) ?_)
 rintro _ t78 n79 ⟨rfl, hng77, hkg77⟩
 refine ⟨?_, ?_⟩
 · exact (all_cons_ (still_op rfl rfl (o_mov (eV (z1 (z4 (z16 (z16 ds)))))) (aeq_func (by simp [flatC]) (by simp [flatC]))) (all_cons_ (still_op rfl rfl (o_load (eV (z4 ds)) (Keep.look hkg77 (by omega) id (lS hh4)) rfl) (aeq_flat rfl)) (all_cons_ (still_op rfl rfl (o_faddr (off := 1) (eV (z8 (z16 (z16 ds))))) (aeq_flat rfl)) all_nil_)))
 refine d_call (ix := 5) (pr := [4, 3]) (d := (some 55)) (g := none) (F' := [(⟨1, [0], .o 51 (.load (.t 50))⟩, (.int .i64 x.op)), (⟨0, [], .o 50 (.faddr (.t 3) 1)⟩, (.ptr (nx + 1) 1))]) (w_callV (eV (z1 ds)) (evs_cons ev_c evs_nil)) rfl (by kernel_rfl) (by kernel_rfl) (by kernel_rfl) (by kernel_rfl) (WF.mono (gin_ok (x := x) (j := 1) (k := j) (Keep.look hkg77 (by omega) id (lN hh4 (lN hh2 hR))) (Keep.look hkg77 (by omega) id (lN hh4 (lN hh2 hV))) hVn (Keep.look hkg77 (by omega) id (lN hh4 (lS hh2))) (Keep.look hkg77 (by omega) id (lS hh4)) (hI.keep (fun d hd hw => (show Keep t t78 nx (fun _ => False) from Keep.trans (kU (kU kR hh2) hh4) hkg77 (by omega) (fun d _ h => h)) d (by omega) hw) (Nat.le_refl bd)) (by rw [hins]; rfl) (by omega)) ?_)
 rintro _ t81 n82 ⟨rfl, hng80, hkg80⟩
 refine ⟨?_, ?_⟩
 · exact (all_cons_ (still_op rfl rfl (o_load (eV (z1 (z4 ds))) (Keep.look hkg80 (by omega) id (Keep.look hkg77 (by omega) id (lS hh4))) rfl) (aeq_flat rfl)) (all_cons_ (still_op rfl rfl (o_faddr (off := 1) (eV (z1 (z8 (z16 (z16 ds)))))) (aeq_flat rfl)) all_nil_))
 refine d_call (ix := 6) (pr := [1, 3, 5, 5]) (d := (some 56)) (g := none) (F' := []) (w_callF (evs_cons (eV (z4 ds)) (evs_cons (eV (z1 ds)) (evs_cons eZ evs_nil)))) rfl (by kernel_rfl) (by kernel_rfl) (by kernel_rfl) (by kernel_rfl) (WF.mono (Binary_ok hvi hvj hop1.1 hop1.2) ?_)
 rintro _ t84 n85 ⟨rfl, hnf83, hkf83⟩
 refine ⟨?_, ?_⟩
 · exact all_nil_
 refine eO 7 rfl (o_mov eZ) (eO 8 rfl (o_extr eZ rfl) (eO 9 rfl (o_extr (eV (z1 ds)) rfl) (eO 10 rfl (o_mov (eV (z1 ds))) (e_done (k_seq (k_reg (m1 ds (m1 ds (r_nil (k_ret ?_))))))))))
 have h_ : gateL x (insV v x.ins) = (binL x.op (gv v i.toNat) (gv v j.toNat)) := by have hgl := insV_len v x.ins; unfold gateL; rw [hins] at hgl ⊢; (try rw [insV_0]); (try rw [insV_1]); (try rw [insV_2]); (repeat first | rw [if_pos (by first | assumption | omega)] | rw [if_neg (by first | assumption | omega)]); first | done | rfl | (unfold isL; (repeat first | rw [if_pos (by first | assumption | omega)] | rw [if_neg (by first | assumption | omega)]))
 exact ⟨_, ans_tmp ds, by rw [h_], by omega, Keep.trans (Keep.trans (Keep.trans (kU (kU kR hh2) hh4) hkg77 (by omega) (fun d _ h => h)) hkg80 (by omega) (fun d _ h => h)) hkf83 (by omega) (fun d _ h => h)⟩
end
section
variable [Env]
/-- A list of numbers of its own, above lo, not in the block V. -/
def IL (t : TB) (lo hi V : Nat) (v : AV) (l : List Int) : Prop := (v = .nslice ∧ l = []) ∨ ∃ G, v = .slice G 0 l.length l.length 1 false ∧ hv t G = some (.row (ints l) true) ∧ lo < G ∧ G < hi ∧ G ≠ V
theorem IL.keep {t t' : TB} {lo hi hi' V n : Nat} {v : AV} {l : List Int} {W : Nat → Prop} (h : IL t lo hi V v l) (hk : Keep t t' n W) (hn : hi ≤ n) (hw : ∀ b, W b → b = V ∨ b ≤ lo ∨ hi ≤ b) (hh : hi ≤ hi') : IL t' lo hi' V v l :=
 h.elim .inl (fun ⟨G, h1, h2, h3, h4, h5⟩ => .inr ⟨G, h1, (hk G (by omega) (fun e => by have := hw G e; omega)).trans h2, h3, by omega, h5⟩)
theorem IL.flat {t : TB} {lo hi V : Nat} {v : AV} {l : List Int} (h : IL t lo hi V v l) : flatC v = true := by
 rcases h with ⟨rfl, -⟩ | ⟨G, rfl, -⟩ <;> rfl
theorem IL.cell {t : TB} {lo hi V : Nat} {v : AV} {l : List Int} (h : IL t lo hi V v l) : isCell v = true := by
 rcases h with ⟨rfl, -⟩ | ⟨G, rfl, -⟩ <;> rfl
theorem o_len_IL {T : TA} {t t0 : TB} {nx lo hi V : Nat} {v : AV} {l : List Int} {x : Opd} (h : IL t0 lo hi V v l) (hx : x.ev T = some v) : (IOp.len .slc x).run T t nx = .ok (.int .i64 ((l.length : Nat) : Int)) t nx := by
 rcases h with ⟨rfl, rfl⟩ | ⟨G, rfl, -⟩
 · exact o_len_nslice hx
 · exact o_len_slice hx
theorem IL.at_ {t : TB} {lo hi V i : Nat} {v : AV} {l : List Int} {k : Int} (h : IL t lo hi V v l) (hk : l[i]? = some k) : ∃ G, v = .slice G 0 l.length l.length 1 false ∧ hv t G = some (.row (ints l) true) ∧ lo < G ∧ G < hi ∧ G ≠ V := by
 rcases h with ⟨-, rfl⟩ | h
 · simp at hk
 · exact h
/-- What of a run its functions share: values, what clocks were. -/
structure SR (t : TB) (nx bd R V WA : Nat) (vn vt : AV) (p : Int) (gsv flv lav : AV) (n : Nat) (v was : List (List Nat)) : Prop where
 hR : hv t R = some (.row [vn, vt, .int .i64 p, gsv, flv, .nslice, .slice V 0 n n 1 false, .slice WA 0 n n 1 true, lav, .nslice] true)
 hV : hv t V = some (.row (strs v) true)
 hW : hv t WA = some (.row (strs was) true)
 hs : bd ≤ WA ∧ WA < R ∧ R < V ∧ V < nx
 hn : v.length = n ∧ was.length = n
theorem SR.keep {t t' : TB} {nx nx' bd R V WA n m : Nat} {vn vt gsv flv lav : AV} {p : Int} {v was : List (List Nat)} {W : Nat → Prop} (h : SR t nx bd R V WA vn vt p gsv flv lav n v was) (hk : Keep t t' m W) (hm : nx ≤ m) (hw : ∀ b, W b → b ≠ R ∧ b ≠ V ∧ b ≠ WA) (hn : nx ≤ nx') : SR t' nx' bd R V WA vn vt p gsv flv lav n v was := by
 have hs := h.hs
 exact ⟨(hk R (by omega) (fun e => (hw _ e).1 rfl)).trans h.hR, (hk V (by omega) (fun e => (hw _ e).2.1 rfl)).trans h.hV, (hk WA (by omega) (fun e => (hw _ e).2.2 rfl)).trans h.hW, by omega, h.hn⟩
/-- The netlist that is run. -/
structure NR (t : TB) (bd : Nat) (vn vt : AV) (ns : List Nd) (ts : List Int) : Prop where
 hN : RowN t bd vn ns
 hT : RowI t bd vt ts
 g : NtG ns
 few : ns.length ≤ 4096
 tl : ts.length ≤ 90
 nets : ∀ k ∈ ts, 0 ≤ k ∧ k < (ns.length : Int)
 il : ∀ x ∈ ns, x.ins.length < 60000
theorem NR.keep {t t' : TB} {bd n : Nat} {vn vt : AV} {ns : List Nd} {ts : List Int} {W : Nat → Prop} (h : NR t bd vn vt ns ts) (hk : Keep t t' n W) (hb : bd ≤ n) (hw : ∀ b, b < bd → ¬ W b) : NR t' bd vn vt ns ts :=
 ⟨h.hN.keep (fun d hd _ => hk d (by omega) (hw d hd)) (Nat.le_refl _), h.hT.keep (fun d hd _ => hk d (by omega) (hw d hd)) (Nat.le_refl _), h.g, h.few, h.tl, h.nets, h.il⟩
theorem followL_take {ns : List Nd} {gs : List Int} {i : Nat} {k : Int} {v : List (List Nat)} (h : gs[i]? = some k) : followL ns (gs.take (i + 1)) v = fol1 ns (followL ns (gs.take i) v) k := by
 rw [List.take_succ, h]; exact followL_snoc _ _ _ _
def follow_r0 : LI := [.mv 4 0,
 .o 5 (.nilck (.t 4)),
 .o 6 (.faddr (.t 5) 3),
 .o 7 (.load (.t 6)),
 .o 8 (.len .slc (.t 7)),
 .o 9 (.mov (kI 0))]
def follow_r1 : LI := [.o 10 (.bin .lss (.t 9) (.t 8))]
def follow_r2 : LI := [.o 11 (.iaddr 1 (.t 7) (.t 9)),
 .o 12 (.load (.t 11)),
 .mv 3 12]
def follow_r3 : List DIns := [⟨0, [], .mv 13 0⟩,
 ⟨1, [0], .o 14 (.nilck (.t 13))⟩,
 ⟨2, [1], .o 15 (.faddr (.t 14) 6)⟩,
 ⟨3, [2], .o 16 (.load (.t 15))⟩,
 ⟨4, [], .mv 17 3⟩,
 ⟨5, [], .mv 18 0⟩,
 ⟨6, [], .mv 19 0⟩,
 ⟨7, [6], .o 20 (.nilck (.t 19))⟩,
 ⟨8, [7], .o 21 (.faddr (.t 20) 0)⟩,
 ⟨9, [8], .o 22 (.faddr (.t 21) 0)⟩,
 ⟨10, [9], .o 23 (.load (.t 22))⟩,
 ⟨11, [], .mv 24 3⟩,
 ⟨12, [10, 11], .o 25 (.iaddr 8 (.t 23) (.t 24))⟩,
 ⟨13, [12], .o 26 (.loadA 8 (.t 25))⟩,
 ⟨14, [5, 13], .f 27 159 [(.t 18), (.t 26)]⟩,
 ⟨15, [3, 4, 0, 1, 2, 3, 4, 5, 6, 7, 8, 9, 10, 11, 12, 13, 14], .o 28 (.iaddr 1 (.t 16) (.t 17))⟩,
 ⟨16, [15, 14, 14, 0, 1, 2, 3, 4, 5, 6, 7, 8, 9, 10, 11, 12, 13, 14], .x (.store 1 (.t 28) (.t 27))⟩]
def follow_r4 : LI := [.o 29 (.bin .add (.t 9) (kI 1)),
 .mv 9 29]
def follow_c : IC := (.seq (.reg follow_r0) (.block 0 (.loop (.seq (.reg follow_r1) (.seq (.cond (.t 10) .skip (.exit 0)) (.seq (.block 1 (.seq (.reg follow_r2) (.draw follow_r3))) (.reg follow_r4)))))))
theorem follow_tab : tb 108 = some (.code 1 30 follow_c []) := by kernel_rfl
set_option maxHeartbeats 2000000 in
theorem follow_ok {t : TB} {nx bd R V WA n : Nat} {vn vt gsv flv lav : AV} {p : Int} {v was : List (List Nat)} {ns : List Nd} {ts : List Int} {gs : List Int} (hS : SR t nx bd R V WA vn vt p gsv flv lav n v was) (hL : NR t bd vn vt ns ts) (hgs : IL t R nx V gsv gs) (hG : GsOK ns gs) (hgl : gs.length ≤ 4096) (hVI : VI ns v) : WF tb 108 [.ptr R 0] t nx (fun v' t' nx' => v' = .tup [] ∧ SR t' nx' bd R V WA vn vt p gsv flv lav n (followL ns gs v) was ∧ VI ns (followL ns gs v) ∧ nx ≤ nx' ∧ Keep t t' nx (fun b => b = V)) := by
 have hs := hS.hs
 have hn := hS.hn
 have hvl := hVI.len
 have hfw := hL.few
 refine k_fun follow_tab rfl ?_
 unfold follow_c
 change WC _ _ (Bt.put (some _) Bt.e 0) _ _ _
 refine k_seq (k_reg (m1 get_same (rO (o_nilck eZ) (rO (o_faddr (off := 3) eZ) (rO (o_load eZ hS.hR rfl) (rO (o_len_IL hgs eZ) (rO (o_mov ev_c) (r_nil (k_block (k_loop (fun mm Tv tv nv => ∃ (i : Nat) (v1 : List (List Nat)), i ≤ gs.length ∧ v1 = followL ns (gs.take i) v ∧ VI ns v1 ∧ SR tv nv bd R V WA vn vt p gsv flv lav n v1 was ∧ NR tv bd vn vt ns ts ∧ IL tv R nv V gsv gs ∧ (Tv.get 0 = some (.ptr R 0) ∧ Tv.get 7 = some gsv ∧ Tv.get 8 = some (.int .i64 ((gs.length : Nat) : Int)) ∧ Tv.get 9 = some (.int .i64 ((i : Nat) : Int))) ∧ nx ≤ nv ∧ Keep t tv nx (fun b => b = V) ∧ mm + i = gs.length) (fun mm Tv tv nv hI => ?_) (gs.length) ⟨0, v, by omega, rfl, hVI, hS.keep (show Keep t t nx (fun b => False) from Keep.refl t nx _) (Nat.le_refl _) (fun _ h => h.elim) (by omega), hL.keep (show Keep t t nx (fun b => False) from Keep.refl t nx _) (by omega) (fun _ _ h => h), hgs.keep (show Keep t t nx (fun b => False) from Keep.refl t nx _) (Nat.le_refl _) (fun _ h => h.elim) (by omega), ⟨(z2 (z4 get_same)), (z2 ds), (z1 ds), ds⟩, by omega, kR, by omega⟩))))))))))
 obtain ⟨i, v1, hi, hv1, hVI1, hS1, hL1, hgs1, ⟨q0, q7, q8, q9⟩, hnv, hkv, hmm⟩ := hI
 have hs1 := hS1.hs
 have hn1 := hS1.hn
 have hvl1 := hVI1.len
 refine k_seq (k_reg (rO (o_lss (eV q9) (eV q8)) (r_nil (k_seq ?_))))
 refine k_if eZ (fun hc1 => ?_) (fun hc1 => ?_)
 · refine k_skip (k_seq (k_block (k_seq ?_)))
   obtain ⟨k, hk⟩ := some_at (l := gs) (i := i) (by omega)
   obtain ⟨G, hGe, hGr, hG1, hG2, hG3⟩ := hgs1.at_ hk
   obtain ⟨hk0, x, hx, hgx⟩ := hG k (List.mem_of_getElem? hk)
   have hkl : k.toNat < ns.length := (List.getElem?_eq_some_iff.1 hx).1
   have hxm := List.mem_of_getElem? hx
   obtain ⟨dN, oN, cN, exN, wrN, rN, iv, hNe, hNd, hNr, hNl, hNg, hI, hic⟩ := RowN.at hL1.hN hx
   refine k_reg (rO (o_iaddrE (i := i) (eV (z1 q7)) hGe (eV (z1 q9)) (by omega)) ?_)
   refine rO (o_load eZ hGr (by simp only [Nat.zero_add, Nat.mul_one]; exact ints_get hk)) ?_
   refine m1 ds (r_nil (k_draw (eO 0 rfl (o_mov (eV (z4 q0))) (eO 1 rfl (o_nilck eZ) (eO 2 rfl (o_faddr (off := 6) eZ) (eO 3 rfl (o_load eZ hS1.hR rfl) (eO 4 rfl (o_mov (eV (z4 ds))) (eO 5 rfl (o_mov (eV (z1 (z8 q0)))) (eO 6 rfl (o_mov (eV (z2 (z8 q0)))) (eO 7 rfl (o_nilck eZ) (eO 8 rfl (o_faddr (off := 0) eZ) (eO 9 rfl (o_faddr (off := 0) eZ) (eO 10 rfl (o_load eZ hS1.hR rfl) (eO 11 rfl (o_mov (eV (z1 (z2 (z8 ds))))) (eO 12 rfl (o_iaddrE (i := k.toNat) (eV (z1 ds)) hNe (ev_cast eZ (by omega)) (by omega)) (eO 13 rfl (o_loadA (n := 8) eZ hNr (by omega) hNg) (d_call (ix := 14) (pr := [5, 13]) (d := (some 27)) (g := none) (F' := [(⟨8, [7], .o 21 (.faddr (.t 20) 0)⟩, (.ptr R 0)), (⟨7, [6], .o 20 (.nilck (.t 19))⟩, (.ptr R 0)), (⟨6, [], .mv 19 0⟩, (.ptr R 0)), (⟨4, [], .mv 17 3⟩, (.int .i64 k)), (⟨3, [2], .o 16 (.load (.t 15))⟩, (.slice V 0 n n 1 false)), (⟨2, [1], .o 15 (.faddr (.t 14) 6)⟩, (.ptr R 6)), (⟨1, [0], .o 14 (.nilck (.t 13))⟩, (.ptr R 0)), (⟨0, [], .mv 13 0⟩, (.ptr R 0))]) (w_callF (evs_cons (eV (z8 ds)) (evs_cons eZ evs_nil))) rfl (by kernel_rfl) (by kernel_rfl) (by kernel_rfl) (by kernel_rfl) (WF.mono (gate_ok (x := x) (ns := ns) hS1.hR hS1.hV (by omega) (hI.keep (fun d hd _ => (show Keep tv tv nv (fun _ => False) from (show Keep tv tv nv (fun b => False) from Keep.refl tv nv _)) d (by omega) id) (Nat.le_refl bd)) (by omega) (by omega) (by omega) hL.g hVI1 (by omega) hgx (hL.g.ok x hxm) (hL.g.ins x hxm) (hL.g.wide x hxm) (hL.il x hxm)) ?_))))))))))))))))))
   rintro _ t2 n3 ⟨rfl, hn_g, hk_g⟩
   refine ⟨?_, ?_⟩
   · exact (all_cons_ (still_op rfl rfl (o_faddr (off := 0) (eV (z1 (z2 (z4 ds))))) (aeq_flat rfl)) (all_cons_ (still_op rfl rfl (o_nilck (eV (z8 ds))) (aeq_flat rfl)) (all_cons_ (still_op rfl rfl (o_mov (eV (z1 (z2 (z16 q0))))) (aeq_flat rfl)) (all_cons_ (still_op rfl rfl (o_mov (eV (z1 (z2 (z4 (z8 ds)))))) (aeq_flat rfl)) (all_cons_ (still_op rfl rfl (o_load (eV (z4 (z8 ds))) (Keep.look hk_g (by omega) id hS1.hR) rfl) (aeq_flat rfl)) (all_cons_ (still_op rfl rfl (o_faddr (off := 6) (eV (z1 (z4 (z8 ds))))) (aeq_flat rfl)) (all_cons_ (still_op rfl rfl (o_nilck (eV (z2 (z4 (z8 ds))))) (aeq_flat rfl)) (all_cons_ (still_op rfl rfl (o_mov (eV (z1 (z2 (z16 q0))))) (aeq_flat rfl)) all_nil_))))))))
   refine eO 15 rfl (o_iaddr (i := k.toNat) (eV (z1 (z2 (z8 ds)))) (ev_cast (eV (z2 (z8 ds))) (by omega)) (by omega)) ?_
   refine d_heap (ix := 16) (pr := [15, 14, 14, 0, 1, 2, 3, 4, 5, 6, 7, 8, 9, 10, 11, 12, 13, 14]) (d := none) (g := none) (F' := []) (o := (.store 1 (.t 28) (.t 27))) (o_storeS (l := v1) (o := 0 + k.toNat * 1) eZ (eV (z1 ds)) (Keep.look hk_g (by omega) id hS1.hV) (by first | omega | (simp only [List.length_set]; omega))) rfl (by kernel_rfl) (by kernel_rfl) (by kernel_rfl) (by kernel_rfl) (fun ts_V hs_V => ⟨?_, ?_⟩)
   · exact all_nil_
   refine e_done (k_reg (rO (o_addN (a := i) (b := 1) (eV (z1 (z4 (z16 q9)))) ev_c (by omega)) (m1 ds (r_nil ?_))))
   have hk3 := (show Keep tv ts_V nv (fun b => b = V) from Keep.upd (Keep.trans (Keep.refl tv nv _) hk_g (by omega) (fun d _ h => h.elim)) hs_V (by first | exact .inl (by omega) | (right; first | exact rfl | (show _ ∨ _; omega) | omega)))
   have hst : hv ts_V V = some (.row (strs (fol1 ns v1 k)) true) := by have h_ := (lS hs_V); rw [show 0 + k.toNat * 1 = k.toNat by omega] at h_; unfold fol1; rw [ndAt_at hx]; exact h_
   have hg1 := fol1_good hL.g (hG k (List.mem_of_getElem? hk)) hVI1
   exact ⟨gs.length - (i + 1), by omega, i + 1, fol1 ns v1 k, by omega, by rw [followL_take hk, ← hv1], hg1, ⟨(lN hs_V (Keep.look hk_g (by omega) id hS1.hR)), hst, (lN hs_V (Keep.look hk_g (by omega) id hS1.hW)), by omega, ⟨by rw [hg1.len]; omega, hn1.2⟩⟩, hL1.keep hk3 (by omega) (fun b hb h_ => by have e_ : b = V := h_; omega), hgs1.keep hk3 (Nat.le_refl _) (fun b h_ => .inl h_) (by omega), ⟨(z1 (z2 (z4 (z16 q0)))), (z1 (z2 (z4 (z16 q7)))), (z1 (z2 (z4 (z16 q8)))), ds⟩, by omega, Keep.upd (Keep.trans (hkv) hk_g (by omega) ((fun _ _ h => h.elim))) hs_V (.inr rfl), by omega⟩
 refine k_exit (exK_same ?_)
 rw [List.take_of_length_le (by omega)] at hv1
 subst hv1
 exact ⟨_, ans_none, rfl, hS1, hVI1, by omega, hkv⟩
end
section
variable [Env]
def FlOK (ns : List Nd) (fl : List Int) : Prop := ∀ k ∈ fl, 0 ≤ k ∧ ∃ x, ns[k.toNat]? = some x ∧ x.kind = 7
def WV (fl : List Int) (was : List (List Nat)) : Prop := ∀ k ∈ fl, isV (gv was k.toNat)
theorem flip_ins {ns : List Nd} (hn : NtG ns) {x : Nd} (hx : x ∈ ns) (hk : x.kind = 7) : ∃ c d, x.ins = [c, d] ∧ (0 ≤ c ∧ c < (ns.length : Int)) ∧ (0 ≤ d ∧ d < (ns.length : Int)) ∧ wdN ns d = x.wide := by
 obtain ⟨a, ha⟩ := (nodeP7 hk).1 (hn.ok x hx).2
 obtain ⟨c, d, hi, -, hd⟩ := map2 ha
 have h1 := hn.ins x hx
 rw [hi] at h1
 exact ⟨c, d, hi, h1 c (by simp), h1 d (by simp), hd⟩
theorem insAt0 {ns : List Nd} {k : Nat} {x : Nd} {c d : Int} (hx : ns[k]? = some x) (hi : x.ins = [c, d]) : insAt ns k 0 = c.toNat := by unfold insAt; rw [ndAt_at hx, hi]; rfl
theorem insAt1 {ns : List Nd} {k : Nat} {x : Nd} {c d : Int} (hx : ns[k]? = some x) (hi : x.ins = [c, d]) : insAt ns k 1 = d.toNat := by unfold insAt; rw [ndAt_at hx, hi]; rfl
theorem flipsL_take {ns : List Nd} {v was : List (List Nat)} {fl : List Int} {q : Nat} {k : Int} (h : fl[q]? = some k) : flipsL ns v (fl.take (q + 1)) was = flip1 ns v (flipsL ns v (fl.take q) was) k := by
 unfold flipsL; rw [List.take_succ, h]; simp
theorem flips_mono {ns : List Nd} {v : List (List Nat)} : ∀ (l : List Int) (p : List (List Nat) × List Int), p.2.length ≤ (l.foldl (flip1 ns v) p).2.length
 | [], p => Nat.le_refl _
 | k :: l, p => by
   refine Nat.le_trans ?_ (flips_mono l (flip1 ns v p k))
   unfold flip1
   dsimp only
   split
   · simp
   · exact Nat.le_refl _
theorem flips_few {ns : List Nd} {v was : List (List Nat)} {fl : List Int} (q : Nat) : (flipsL ns v (fl.take q) was).2.length ≤ (flipsL ns v fl was).2.length := by
 have h := flips_mono (ns := ns) (v := v) (fl.drop q) (flipsL ns v (fl.take q) was)
 unfold flipsL at h ⊢
 rw [← List.foldl_append, List.take_append_drop] at h
 exact h
theorem Settle.few {ns : List Nd} {gs fl : List Int} {n : Nat} {v was v' was' : List (List Nat)} (h : Settle ns gs fl n v was v' was') : (flipsL ns (followL ns gs v) fl was).2.length ≤ 1 := by
 cases h with
 | stop e => rw [e]; simp
 | rise e _ => rw [e]; simp
def esOf (ns : List Nd) (v : List (List Nat)) (ros : List Int) : List (AV × AV × Nat) := match ros with
 | [] => []
 | k :: _ => [(.int .i64 k, .str (gv v (insAt ns k.toNat 1)), 0)]
theorem Settle.cases_ {ns : List Nd} {gs fl : List Int} {n : Nat} {v was v' was' w : List (List Nat)} {ros : List Int} (h : Settle ns gs fl n v was v' was') (e : flipsL ns (followL ns gs v) fl was = (w, ros)) :
   (ros = [] ∧ v' = followL ns gs v ∧ was' = w) ∨ ∃ k m, ros = [k] ∧ n = m + 1 ∧ Settle ns gs fl m ((followL ns gs v).set k.toNat (gv (followL ns gs v) (insAt ns k.toNat 1))) w v' was' := by
 cases h with
 | stop e2 => rw [e] at e2; cases e2; exact .inl ⟨rfl, rfl, rfl⟩
 | rise e2 h2 => rw [e] at e2; cases e2; exact .inr ⟨_, _, rfl, rfl, h2⟩
theorem VI.set {ns : List Nd} (hn : NtG ns) {v : List (List Nat)} (h : VI ns v) {k : Nat} {x : Nd} {d : Int} (hx : ns[k]? = some x) (hd : 0 ≤ d ∧ d < (ns.length : Int)) (hw : wdN ns d = x.wide) : VI ns (v.set k (gv v d.toNat)) := by
 refine ⟨by rw [List.length_set]; exact h.len, fun i y hy => ?_⟩
 rw [gv_set]
 by_cases e : k = i ∧ k < v.length
 · rw [if_pos e]
   obtain ⟨rfl, -⟩ := e
   rw [hx] at hy; cases hy
   have h1 := h.wd hd
   exact ⟨(hn.isV h hd).2.2, by omega⟩
 · rw [if_neg e]; exact h.at_ i y hy
theorem WV.set {fl : List Int} {was : List (List Nat)} (h : WV fl was) {k : Nat} {s : List Nat} (hs : isV s) : WV fl (was.set k s) := by
 intro j hj
 rw [gv_set]
 split
 · exact hs
 · exact h j hj
theorem o_mupd0 {T : TA} {t : TB} {nx : Nat} {x k y : Opd} {b clk : Nat} {j : Int} {v : AV} (hx : x.ev T = some (.map b)) (hk : k.ev T = some (.int .i64 j)) (hy : y.ev T = some v) (hb : hv t b = some (.map [] clk)) :
   ∃ t', (IOp.mupd .int x k y).run T t nx = .ok .undef t' nx ∧ hv t' = upd (hv t) b (some (.map [(.int .i64 j, v, clk)] (clk + 1))) := by
 have h1 := map_iff.1 hb
 simp only [IOp.run, hx, hy, hk, h1]
 refine ⟨_, rfl, ?_⟩
 rw [hv_put]; rfl
theorem iter_get {t : TB} {b : Nat} {m : Option Nat} {s l : Nat} {se : List Nat} (h : hv t b = some (.iter m s se l)) : t.get b = some (.iter m s se l) := by
 unfold hv at h
 cases e : t.get b with
 | none => rw [e] at h; cases h
 | some k =>
   rw [e] at h
   cases k with
   | cells c n w =>
     have h' : (gets c n 0).map (fun l => HB.row l w) = some (.iter m s se l) := h
     cases e2 : gets c n 0 with
     | none => rw [e2] at h'; cases h'
     | some q => rw [e2] at h'; cases h'
   | map es clk => cases h
   | iter a b c d => cases h; rfl
theorem o_range {T : TA} {t : TB} {nx b clk : Nat} {es : List (AV × AV × Nat)} {x : Opd} (hx : x.ev T = some (.map b)) (hb : hv t b = some (.map es clk)) : ∃ t', (IOp.range x).run T t nx = .ok (.ptr nx 0) t' (nx + 1) ∧ hv t' = upd (hv t) nx (some (.iter (some b) clk [] clk)) := by
 refine ⟨t.put (some (.iter (some b) clk [] clk)) nx, ?_, by rw [hv_put]; rfl⟩
 have h1 := map_iff.1 hb
 simp only [IOp.run, hx, h1, fNat_eq]
theorem o_next0 {T : TA} {t : TB} {nx i m s l clk : Nat} {x : Opd} (hx : x.ev T = some (.ptr i 0)) (hi : hv t i = some (.iter (some m) s [] l)) (hm : hv t m = some (.map [] clk)) : (IOp.next x).run T t nx = .ok (.tup [.bool false]) t nx := by
 have h1 := map_iff.1 hm
 have h2 := iter_get hi
 simp only [IOp.run, hx, h1, h2]
 rfl
theorem o_next1 {T : TA} {t : TB} {nx i m : Nat} {x : Opd} {k v : AV} (hx : x.ev T = some (.ptr i 0)) (hi : hv t i = some (.iter (some m) 1 [] 1)) (hm : hv t m = some (.map [(k, v, 0)] 1)) :
   ∃ t', (IOp.next x).run T t nx = .ok (.tup [.bool true, k, v]) t' nx ∧ hv t' = upd (hv t) i (some (.iter (some m) 1 [0] 1)) := by
 have h1 := map_iff.1 hm
 have h2 := iter_get hi
 refine ⟨t.put (some (.iter (some m) 1 [0] 1)) i, ?_, by rw [hv_put]; rfl⟩
 simp only [IOp.run, hx, h1, h2]
 rfl
theorem o_next2 {T : TA} {t : TB} {nx i m : Nat} {x : Opd} {k v : AV} (hx : x.ev T = some (.ptr i 0)) (hi : hv t i = some (.iter (some m) 1 [0] 1)) (hm : hv t m = some (.map [(k, v, 0)] 1)) : (IOp.next x).run T t nx = .ok (.tup [.bool false]) t nx := by
 have h1 := map_iff.1 hm
 have h2 := iter_get hi
 simp only [IOp.run, hx, h1, h2]
 rfl
theorem o_entry1 {T : TA} {t : TB} {nx i m : Nat} {x : Opd} {k v : AV} (hx : x.ev T = some (.ptr i 0)) (hi : hv t i = some (.iter (some m) 1 [0] 1)) (hm : hv t m = some (.map [(k, v, 0)] 1)) : (IOp.entry x).run T t nx = .ok (.tup [k, v]) t nx := by
 have h1 := map_iff.1 hm
 have h2 := iter_get hi
 simp only [IOp.run, hx, h1, h2]
 rfl
theorem flips_mem {ns : List Nd} {v : List (List Nat)} : ∀ (l : List Int) (p : List (List Nat) × List Int) (k : Int), k ∈ (l.foldl (flip1 ns v) p).2 → k ∈ p.2 ∨ k ∈ l
 | [], p, k, h => .inl h
 | j :: l, p, k, h => by
   rcases flips_mem l (flip1 ns v p j) k h with h1 | h1
   · unfold flip1 at h1
     dsimp only at h1
     split at h1
     · rcases List.mem_append.1 h1 with h2 | h2
       · exact .inl h2
       · exact .inr (by simp at h2; simp [h2])
     · exact .inl h1
   · exact .inr (by simp [h1])
theorem flips_sub {ns : List Nd} {v was w : List (List Nat)} {fl : List Int} {k : Int} (h : flipsL ns v fl was = (w, [k])) : k ∈ fl := by
 have h1 := flips_mem (ns := ns) (v := v) fl (was, []) k (by unfold flipsL at h; rw [h]; simp)
 rcases h1 with h1 | h1
 · cases h1
 · exact h1
def settle_r0 : LI := [.o 2 (.mov (.c (.bool true)))]
def settle_r1 : LI := [.mv 10 2]
def settle_r2 : LI := [.mv 11 0,
 .f 12 108 [(.t 11)]]
def settle_r3 : LI := [.o 2 (.mov (.c (.bool false)))]
def settle_r4 : LI := [.o 13 .mkmap,
 .mv 3 13]
def settle_r5 : LI := [.mv 14 0,
 .o 15 (.nilck (.t 14)),
 .o 16 (.faddr (.t 15) 4),
 .o 17 (.load (.t 16)),
 .o 18 (.len .slc (.t 17)),
 .o 19 (.mov (kI 0))]
def settle_r6 : LI := [.o 20 (.bin .lss (.t 19) (.t 18))]
def settle_r7 : LI := [.o 21 (.iaddr 1 (.t 17) (.t 19)),
 .o 22 (.load (.t 21)),
 .mv 5 22]
def settle_r8 : LI := [.mv 23 0,
 .o 24 (.nilck (.t 23)),
 .o 25 (.faddr (.t 24) 0),
 .o 26 (.faddr (.t 25) 0),
 .o 27 (.load (.t 26)),
 .mv 28 5,
 .o 29 (.iaddr 8 (.t 27) (.t 28)),
 .o 30 (.loadA 8 (.t 29)),
 .o 6 (.alloc [(.int .i64 0), (.int .i64 0), (.int .i64 0), .nslice, (.str []), (.int .i64 0), (.int .i64 0), (.int .i64 0)]),
 .x (.store 8 (.t 6) (.t 30))]
def settle_r9 : List DIns := [⟨0, [], .mv 31 0⟩,
 ⟨1, [0], .o 32 (.nilck (.t 31))⟩,
 ⟨2, [1], .o 33 (.faddr (.t 32) 6)⟩,
 ⟨3, [2], .o 34 (.load (.t 33))⟩,
 ⟨4, [], .o 35 (.faddr (.t 6) 3)⟩,
 ⟨5, [4], .o 36 (.load (.t 35))⟩,
 ⟨6, [5], .o 37 (.iaddr 1 (.t 36) (kI 0))⟩,
 ⟨7, [6], .o 38 (.load (.t 37))⟩,
 ⟨8, [3, 7], .o 39 (.iaddr 1 (.t 34) (.t 38))⟩,
 ⟨9, [8], .o 40 (.load (.t 39))⟩,
 ⟨10, [9, 0, 1, 2, 3, 4, 5, 6, 7, 8, 9], .mv 7 40⟩]
def settle_r10 : LI := [.mv 41 0,
 .o 42 (.nilck (.t 41)),
 .o 43 (.faddr (.t 42) 7),
 .o 44 (.load (.t 43)),
 .mv 45 5,
 .o 46 (.iaddr 1 (.t 44) (.t 45)),
 .o 47 (.load (.t 46)),
 .mv 48 7,
 .f 49 110 [(.t 47), (.t 48)]]
def settle_r11 : List DIns := [⟨0, [], .mv 50 3⟩,
 ⟨1, [], .mv 51 5⟩,
 ⟨2, [], .mv 52 0⟩,
 ⟨3, [2], .o 53 (.nilck (.t 52))⟩,
 ⟨4, [3], .o 54 (.faddr (.t 53) 6)⟩,
 ⟨5, [4], .o 55 (.load (.t 54))⟩,
 ⟨6, [], .o 56 (.faddr (.t 6) 3)⟩,
 ⟨7, [6], .o 57 (.load (.t 56))⟩,
 ⟨8, [7], .o 58 (.iaddr 1 (.t 57) (kI 1))⟩,
 ⟨9, [8], .o 59 (.load (.t 58))⟩,
 ⟨10, [5, 9], .o 60 (.iaddr 1 (.t 55) (.t 59))⟩,
 ⟨11, [10], .o 61 (.load (.t 60))⟩,
 ⟨12, [0, 1, 11, 0, 1, 2, 3, 4, 5, 6, 7, 8, 9, 10, 11], .x (.mupd .int (.t 50) (.t 51) (.t 61))⟩]
def settle_r12 : LI := [.o 2 (.mov (.c (.bool true)))]
def settle_r13 : LI := [.mv 62 0,
 .o 63 (.nilck (.t 62)),
 .o 64 (.faddr (.t 63) 7),
 .o 65 (.load (.t 64)),
 .mv 66 5,
 .mv 67 7,
 .o 68 (.iaddr 1 (.t 65) (.t 66)),
 .x (.store 1 (.t 68) (.t 67))]
def settle_r14 : LI := [.o 69 (.bin .add (.t 19) (kI 1)),
 .mv 19 69]
def settle_r15 : LI := [.mv 70 3,
 .o 71 (.range (.t 70))]
def settle_r16 : LI := [.o 72 (.next (.t 71)),
 .o 73 (.extr (.t 72) 0)]
def settle_r17 : LI := [.o 74 (.entry (.t 71)),
 .o 75 (.extr (.t 74) 0),
 .o 76 (.extr (.t 74) 1),
 .mv 8 75,
 .mv 9 76]
def settle_r18 : LI := [.mv 77 0,
 .o 78 (.nilck (.t 77)),
 .o 79 (.faddr (.t 78) 6),
 .o 80 (.load (.t 79)),
 .mv 81 8,
 .mv 82 9,
 .o 83 (.iaddr 1 (.t 80) (.t 81)),
 .x (.store 1 (.t 83) (.t 82))]
def settle_c : IC := (.seq (.reg settle_r0) (.block 0 (.loop (.seq (.seq (.reg settle_r1) (.cond (.t 10) .skip (.exit 0))) (.block 1 (.seq (.reg settle_r2) (.seq (.reg settle_r3) (.seq (.reg settle_r4) (.seq (.seq (.reg settle_r5) (.block 2 (.loop (.seq (.reg settle_r6) (.seq (.cond (.t 20) .skip (.exit 2)) (.seq (.block 3 (.seq (.reg settle_r7) (.seq (.reg settle_r8) (.seq (.draw settle_r9) (.seq (.seq (.reg settle_r10) (.cond (.t 49) (.seq (.draw settle_r11) (.reg settle_r12)) .skip)) (.reg settle_r13)))))) (.reg settle_r14))))))) (.seq (.reg settle_r15) (.block 4 (.loop (.seq (.reg settle_r16) (.seq (.cond (.t 73) .skip (.exit 4)) (.block 5 (.seq (.reg settle_r17) (.reg settle_r18)))))))))))))))))
theorem settle_tab : tb 57 = some (.code 1 84 settle_c []) := by kernel_rfl
set_option maxHeartbeats 4000000 in
theorem settle_ok {t : TB} {nx bd R V WA n : Nat} {vn vt gsv flv lav : AV} {p : Int} {v was : List (List Nat)} {ns : List Nd} {ts : List Int} {gs fl : List Int} {v2 was2 : List (List Nat)} {m0 : Nat} (hS : SR t nx bd R V WA vn vt p gsv flv lav n v was) (hL : NR t bd vn vt ns ts) (hgs : IL t R nx V gsv gs) (hfl : IL t R nx V flv fl) (hG : GsOK ns gs) (hF : FlOK ns fl) (hgl : gs.length ≤ 4096) (hfll : fl.length ≤ 4096) (hVI : VI ns v) (hWV : WV fl was) (hSt : Settle ns gs fl m0 v was v2 was2) (hbx : bd ≤ nx) : WF tb 57 [.ptr R 0] t nx (fun v' t' nx' => v' = .tup [] ∧ SR t' nx' bd R V WA vn vt p gsv flv lav n v2 was2 ∧ VI ns v2 ∧ WV fl was2 ∧ nx ≤ nx' ∧ Keep t t' nx (fun b => b = V ∨ b = WA)) := by
 have hs := hS.hs
 have hfw := hL.few
 refine k_fun settle_tab rfl ?_
 unfold settle_c
 change WC _ _ (Bt.put (some _) Bt.e 0) _ _ _
 refine k_seq (k_reg (rO (o_mov ev_c) (r_nil (k_block (k_loop (fun mm Tv tv nv => ∃ (r : Bool) (m : Nat) (v1 was1 : List (List Nat)), ((r = true ∧ Settle ns gs fl m v1 was1 v2 was2) ∨ (r = false ∧ v1 = v2 ∧ was1 = was2)) ∧ VI ns v1 ∧ WV fl was1 ∧ SR tv nv bd R V WA vn vt p gsv flv lav n v1 was1 ∧ NR tv bd vn vt ns ts ∧ IL tv R nv V gsv gs ∧ IL tv R nv V flv fl ∧ (Tv.get 0 = some (.ptr R 0) ∧ Tv.get 2 = some (.bool r)) ∧ nx ≤ nv ∧ Keep t tv nx (fun b => b = V ∨ b = WA) ∧ mm = (if r = true then m + 1 else 0)) (fun mm Tv tv nv hI => ?_) (m0 + 1) ⟨true, m0, v, was, .inl ⟨rfl, hSt⟩, hVI, hWV, hS.keep (show Keep t t nx (fun b => False) from Keep.refl t nx _) (Nat.le_refl _) (fun _ h => h.elim) (by omega), hL.keep (show Keep t t nx (fun b => False) from Keep.refl t nx _) hbx (fun _ _ h => h), hgs.keep (show Keep t t nx (fun b => False) from Keep.refl t nx _) (Nat.le_refl _) (fun _ h => h.elim) (by omega), hfl.keep (show Keep t t nx (fun b => False) from Keep.refl t nx _) (Nat.le_refl _) (fun _ h => h.elim) (by omega), ⟨(z1 get_same), ds⟩, by omega, kR, rfl⟩)))))
 obtain ⟨r, m, v1, was1, hst, hVI1, hWV1, hS1, hL1, hg1, hf1, ⟨q0, q2⟩, hnv, hkv, hmm⟩ := hI
 have hs1 := hS1.hs
 have hn1 := hS1.hn
 have hvl1 := hVI1.len
 refine k_seq (k_seq (k_reg (m1 q2 (r_nil ?_))))
 refine k_cond eZ (fun hc1 => ?_) (fun hc1 => ?_)
 · refine k_skip (k_block (k_seq (k_reg (m1 (z1 q0) ?_))))
   have hr1 : r = true := by assumption
   have hSt1 : Settle ns gs fl m v1 was1 v2 was2 := hst.elim (fun h => h.2) (fun h => absurd (hr1.symm.trans h.1) (by decide))
   obtain ⟨v3, hv3⟩ : ∃ z, z = followL ns gs v1 := ⟨_, rfl⟩
   refine r_call (w_callF (evs_cons eZ evs_nil)) rfl (WF.mono (follow_ok hS1 hL1 hg1 hG hgl hVI1) ?_)
   rintro _ t2 n3 ⟨rfl, hS3, hVI3, hn_f, hk_f⟩
   rw [← hv3] at hS3 hVI3
   have hs3 := hS3.hs
   have hn3 := hS3.hn
   have hvl3 := hVI3.len
   have hL3 := hL1.keep hk_f (by omega) (fun b hb h_ => by have e_ : b = V := h_; omega)
   have hg3 := hg1.keep hk_f (Nat.le_refl _) (fun b h_ => .inl h_) hn_f
   have hf3 := hf1.keep hk_f (Nat.le_refl _) (fun b h_ => .inl h_) hn_f
   refine r_nil (k_seq (k_reg (rO (o_mov ev_c) (r_nil (k_seq (k_reg (r_heap (o_mkmap) rfl (fun t4 (hh5 : hv t4 = upd (hv t2) n3 (some (.map [] 0))) => m1 ds (r_nil (k_seq (k_seq (k_reg (m1 (z2 (z4 q0)) (rO (o_nilck eZ) (rO (o_faddr (off := 4) eZ) (rO (o_load eZ (lN hh5 hS3.hR) rfl) (rO (o_len_IL hf1 eZ) (rO (o_mov ev_c) (r_nil (k_block ?_))))))))))))))))))))
   obtain ⟨M, hM⟩ : ∃ z, z = n3 := ⟨_, rfl⟩
   refine k_loop (fun mm Tz tz nz => ∃ (q : Nat) (was3 : List (List Nat)) (ros : List Int) (rb : Bool), q ≤ fl.length ∧ flipsL ns v3 (fl.take q) was1 = (was3, ros) ∧ rb = !ros.isEmpty ∧ WV fl was3 ∧ SR tz nz bd R V WA vn vt p gsv flv lav n v3 was3 ∧ NR tz bd vn vt ns ts ∧ IL tz R n3 V gsv gs ∧ IL tz R n3 V flv fl ∧ hv tz n3 = some (.map (esOf ns v3 ros) ros.length) ∧ n3 < nz ∧ (Tz.get 0 = some (.ptr R 0) ∧ Tz.get 2 = some (.bool rb) ∧ Tz.get 3 = some (.map n3) ∧ Tz.get 17 = some flv ∧ Tz.get 18 = some (.int .i64 ((fl.length : Nat) : Int)) ∧ Tz.get 19 = some (.int .i64 ((q : Nat) : Int))) ∧ nx ≤ nz ∧ Keep t tz nx (fun b => b = V ∨ b = WA) ∧ mm + q = fl.length) (fun mm Tz tz nz hI => ?_) (fl.length) ⟨0, was1, [], false, by omega, rfl, rfl, hWV1, hS3.keep (show Keep t2 t4 n3 (fun b => False) from Keep.upd (Keep.refl t2 n3 _) hh5 (by first | exact .inl (by omega) | (right; first | exact rfl | (show _ ∨ _; omega) | omega))) (Nat.le_refl _) (fun _ h => h.elim) (by omega), hL3.keep (show Keep t2 t4 n3 (fun b => False) from Keep.upd (Keep.refl t2 n3 _) hh5 (by first | exact .inl (by omega) | (right; first | exact rfl | (show _ ∨ _; omega) | omega))) (by omega) (fun _ _ h => h), hg3.keep (show Keep t2 t4 n3 (fun b => False) from Keep.upd (Keep.refl t2 n3 _) hh5 (by first | exact .inl (by omega) | (right; first | exact rfl | (show _ ∨ _; omega) | omega))) (Nat.le_refl _) (fun _ h => h.elim) (by omega), hf3.keep (show Keep t2 t4 n3 (fun b => False) from Keep.upd (Keep.refl t2 n3 _) hh5 (by first | exact .inl (by omega) | (right; first | exact rfl | (show _ ∨ _; omega) | omega))) (Nat.le_refl _) (fun _ h => h.elim) (by omega), (lS hh5), by omega, ⟨(z4 (z8 q0)), (z8 ds), (z2 (z4 ds)), (z2 ds), (z1 ds), ds⟩, by omega, kU (Keep.trans (hkv) hk_f (by omega) ((fun _ _ h => .inl h))) hh5, by omega⟩
   obtain ⟨q, was3, ros, rb, hq, hfp, hrb, hWVz, hSz, hLz, hgz, hfz, hMr, hMn, ⟨qz0, qz2, qz3, qz17, qz18, qz19⟩, hnz, hkz, hmz⟩ := hI
   have hsz := hSz.hs
   have hnz_ := hSz.hn
   have hfew := hSt1.few
   rw [← hv3] at hfew
   have hfq := flips_few (ns := ns) (v := v3) (was := was1) (fl := fl) q
   rw [hfp] at hfq
   have hMz := hMr
   refine k_seq (k_reg (rO (o_lss (eV qz19) (eV qz18)) (r_nil (k_seq ?_))))
   refine k_if eZ (fun hc6 => ?_) (fun hc6 => ?_)
   · refine k_skip (k_seq (k_block (k_seq ?_)))
     obtain ⟨k, hk⟩ := some_at (l := fl) (i := q) (by omega)
     have hkm := List.mem_of_getElem? hk
     obtain ⟨G, hGe, hGr, hG1, hG2, hG3⟩ := hfz.at_ hk
     obtain ⟨hk0, x, hx, hx7⟩ := hF k hkm
     have hkl : k.toNat < ns.length := (List.getElem?_eq_some_iff.1 hx).1
     have hxm := List.mem_of_getElem? hx
     obtain ⟨dN, oN, cN, exN, wrN, rN, iv, hNe, hNd, hNr, hNl, hNg, hI, hic⟩ := RowN.at hLz.hN hx
     obtain ⟨c, d, hins, hcr_, hdr_, hwd⟩ := flip_ins hL.g hxm hx7
     have hi0 := insAt0 hx hins
     have hi1 := insAt1 hx hins
     obtain ⟨dI, oI, cI, exI, wrI, rI, hIe, hId, hIr, hIg⟩ := RowI.at (i := 0) hI (by rw [hins]; rfl)
     obtain ⟨dJ, oJ, cJ, exJ, wrJ, rJ, hJe, hJd, hJr, hJg⟩ := RowI.at (i := 1) hI (by rw [hins]; rfl)
     have hil : x.ins.length = 2 := by rw [hins]; rfl
     have hvc := hL.g.isV hVI3 hcr_
     have hvd := hL.g.isV hVI3 hdr_
     have hwk := hWVz k hkm
     refine k_reg (rO (o_iaddrE (i := q) (eV (z1 qz17)) hGe (eV (z1 qz19)) (by omega)) ?_)
     refine rO (o_load eZ hGr (by simp only [Nat.zero_add, Nat.mul_one]; exact ints_get hk)) ?_
     refine m1 ds (r_nil (k_seq (k_reg (m1 (z4 qz0) (rO (o_nilck eZ) (rO (o_faddr (off := 0) eZ) (rO (o_faddr (off := 0) eZ) (rO (o_load eZ hSz.hR rfl) (m1 (z1 (z4 ds)) (rO (o_iaddrE (i := k.toNat) (eV (z1 ds)) hNe (ev_cast eZ (by omega)) (by omega)) (rO (o_loadA (n := 8) eZ hNr (by omega) hNg) (r_heap (o_alloc) rfl (fun t7 (hh8 : hv t7 = upd (hv tz) nz (some (.row [(.int .i64 0), (.int .i64 0), (.int .i64 0), .nslice, (.str []), (.int .i64 0), (.int .i64 0), (.int .i64 0)] true))) => r_heap (o_store (n := 8) eZ (eV (z1 ds)) (lS hh8) rfl (ncells_cell _ hic) (leb rfl)) rfl (fun t9 (hh10 : hv t9 = upd (hv t7) nz (some (.row [(.int .i64 x.kind), (.int .i64 x.op), (.int .i64 x.wide), iv, (.str x.value), (.int .i64 x.hi), (.int .i64 x.lo), (.int .i64 x.time)] true))) => r_nil (k_seq (k_draw (eO 0 rfl (o_mov (eV (z2 (z4 (z8 qz0))))) (eO 1 rfl (o_nilck eZ) (eO 2 rfl (o_faddr (off := 6) eZ) (eO 3 rfl (o_load eZ (lN hh10 (lN hh8 hSz.hR)) rfl) (eO 4 rfl (o_faddr (off := 3) (eV (z1 (z4 ds)))) (eO 5 rfl (o_load eZ (lS hh10) rfl) (eO 6 rfl (o_iaddrE (i := 0) eZ hIe ev_c (by omega)) (eO 7 rfl (o_load eZ (lN hh10 (lN hh8 hIr)) hIg) (eO 8 rfl (o_iaddr (i := c.toNat) (eV (z4 ds)) (ev_cast eZ (by omega)) (by omega)) ?_)))))))))))))))))))))))))
     refine eO 9 rfl (o_load eZ (lN hh10 (lN hh8 hSz.hV)) (by rw [show 0 + c.toNat * 1 = c.toNat by omega]; exact strs_get (gv_at (by omega)))) ?_
     refine eO 10 rfl (o_mov eZ) (e_done (k_seq (k_seq (k_reg (m1 (z1 (z8 (z16 qz0))) (rO (o_nilck eZ) (rO (o_faddr (off := 7) eZ) (rO (o_load eZ (lN hh10 (lN hh8 hSz.hR)) rfl) (m1 (z1 (z8 (z16 ds))) (rO (o_iaddr (i := k.toNat) (eV (z1 ds)) (ev_cast eZ (by omega)) (by omega)) ?_))))))))))
     refine rO (o_load eZ (lN hh10 (lN hh8 hSz.hW)) (by rw [show 0 + k.toNat * 1 = k.toNat by omega]; exact strs_get (gv_at (by omega)))) ?_
     refine m1 (z1 (z2 (z4 ds))) (r_call (w_callF (evs_cons (eV (z1 ds)) (evs_cons eZ evs_nil))) rfl (WF.mono (Rise_ok hwk hvc) ?_))
     rintro _ t12 n13 ⟨rfl, hnr11, hkr11⟩
     refine r_nil ?_
     refine k_cond eZ (fun hc14 => ?_) (fun hc14 => ?_)
     · refine k_seq ?_
       have hcr : riseL (gv was3 k.toNat) (gv v3 c.toNat) = true := by assumption
       have hr0 : ros = [] := by
         have h_ := flips_few (ns := ns) (v := v3) (was := was1) (fl := fl) (q + 1)
         rw [flipsL_take hk, hfp] at h_
         unfold flip1 at h_
         rw [hi0] at h_
         simp only [hcr, if_true, List.length_append, List.length_cons, List.length_nil] at h_
         exact List.eq_nil_of_length_eq_zero (by omega)
       rw [hr0] at hMr
       refine k_draw (eO 0 rfl (o_mov (eV (z2 (z16 (z16 qz3))))) (eO 1 rfl (o_mov (eV (z1 (z2 (z4 (z8 (z16 ds))))))) (eO 2 rfl (o_mov (eV (z4 (z16 (z16 qz0))))) (eO 3 rfl (o_nilck eZ) (eO 4 rfl (o_faddr (off := 6) eZ) (eO 5 rfl (o_load eZ (Keep.look hkr11 (by omega) id (lN hh10 (lN hh8 hSz.hR))) rfl) (eO 6 rfl (o_faddr (off := 3) (eV (z1 (z2 (z8 (z16 ds)))))) (eO 7 rfl (o_load eZ (Keep.look hkr11 (by omega) id (lS hh10)) rfl) (eO 8 rfl (o_iaddrE (i := 1) eZ hJe ev_c (by omega)) (eO 9 rfl (o_load eZ (Keep.look hkr11 (by omega) id (lN hh10 (lN hh8 hJr))) hJg) (eO 10 rfl (o_iaddr (i := d.toNat) (eV (z4 ds)) (ev_cast eZ (by omega)) (by omega)) ?_)))))))))))
       refine eO 11 rfl (o_load eZ (Keep.look hkr11 (by omega) id (lN hh10 (lN hh8 hSz.hV))) (by rw [show 0 + d.toNat * 1 = d.toNat by omega]; exact strs_get (gv_at (by omega)))) ?_
       refine d_heap (ix := 12) (pr := [0, 1, 11, 0, 1, 2, 3, 4, 5, 6, 7, 8, 9, 10, 11]) (d := none) (g := none) (F' := []) (o := (.mupd .int (.t 50) (.t 51) (.t 61))) (o_mupd0 (clk := 0) (eV (z1 (z2 (z8 ds)))) (eV (z2 (z8 ds))) eZ (Keep.look hkr11 (by omega) id (lN hh10 (lN hh8 hMr)))) rfl (by kernel_rfl) (by kernel_rfl) (by kernel_rfl) (by kernel_rfl) (fun tm_ hm_ => ⟨?_, ?_⟩)
       · exact all_nil_
       refine e_done (k_reg (rO (o_mov ev_c) (r_nil (k_reg (m1 (z16 (z16 (z16 qz0))) (rO (o_nilck eZ) (rO (o_faddr (off := 7) eZ) (rO (o_load eZ (lN hm_ (Keep.look hkr11 (by omega) id (lN hh10 (lN hh8 hSz.hR)))) rfl) (m1 (z16 (z16 (z16 ds))) (m1 (z4 (z8 (z16 ds))) (rO (o_iaddr (i := k.toNat) (eV (z2 ds)) (ev_cast (eV (z1 ds)) (by omega)) (by omega)) ?_)))))))))))
       refine r_heap (o_storeS (l := was3) (o := 0 + k.toNat * 1) eZ (eV (z1 ds)) (lN hm_ (Keep.look hkr11 (by omega) id (lN hh10 (lN hh8 hSz.hW)))) (by first | omega | (simp only [List.length_set]; omega))) rfl (fun ts_WA hs_WA => ?_)
       refine r_nil (k_reg (rO (o_addN (a := q) (b := 1) (eV (z8 (z16 (z16 (z16 qz19))))) ev_c (by omega)) (m1 ds (r_nil ?_))))
       have hk5 := (show Keep tz ts_WA nz (fun b => b = WA ∨ b = n3) from Keep.upd (Keep.upd (Keep.trans (Keep.upd (Keep.upd (Keep.refl tz nz _) hh8 (by first | exact .inl (by omega) | (right; first | exact rfl | (show _ ∨ _; omega) | omega))) hh10 (by first | exact .inl (by omega) | (right; first | exact rfl | (show _ ∨ _; omega) | omega))) hkr11 (by omega) (fun d _ h => h.elim)) hm_ (by first | exact .inl (by omega) | (right; first | exact rfl | (show _ ∨ _; omega) | omega))) hs_WA (by first | exact .inl (by omega) | (right; first | exact rfl | (show _ ∨ _; omega) | omega)))
       have hwz : hv ts_WA WA = some (.row (strs (was3.set k.toNat (gv v3 c.toNat))) true) := by have h_ := (lS hs_WA); rw [show 0 + k.toNat * 1 = k.toNat by omega] at h_; exact h_
       exact ⟨fl.length - (q + 1), by omega, q + 1, was3.set k.toNat (gv v3 c.toNat), ros ++ [k], true, by omega, by rw [flipsL_take hk, hfp]; unfold flip1; rw [hi0]; simp [hcr], by simp, hWVz.set hvc, ⟨(lN hs_WA (lN hm_ (Keep.look hkr11 (by omega) id (lN hh10 (lN hh8 hSz.hR))))), (lN hs_WA (lN hm_ (Keep.look hkr11 (by omega) id (lN hh10 (lN hh8 hSz.hV))))), hwz, by omega, ⟨hnz_.1, by rw [List.length_set]; exact hnz_.2⟩⟩, hLz.keep hk5 (by omega) (fun b hb h_ => by have e_ : b = WA ∨ b = n3 := h_; omega), hgz.keep hk5 (by omega) (fun b h_ => by have e_ : b = WA ∨ b = n3 := h_; omega) (by omega), hfz.keep hk5 (by omega) (fun b h_ => by have e_ : b = WA ∨ b = n3 := h_; omega) (by omega), (by rw [hr0]; have h_ := (lN hs_WA (lS hm_)); show _ = some (HB.map [(.int .i64 k, .str (gv v3 (insAt ns k.toNat 1)), 0)] 1); rw [hi1]; exact h_), by omega, ⟨(z2 (z8 (z16 (z16 (z16 qz0))))), (z2 (z8 ds)), (z2 (z8 (z16 (z16 (z16 qz3))))), (z2 (z8 (z16 (z16 (z16 qz17))))), (z2 (z8 (z16 (z16 (z16 qz18))))), ds⟩, by omega, Keep.upd (kU (Keep.trans (kU (kU (hkz) hh8) hh10) hkr11 (by omega) (fun d _ h => h.elim)) hm_) hs_WA (.inr (.inr rfl)), by omega⟩
     refine k_skip ?_
     have hcr : riseL (gv was3 k.toNat) (gv v3 c.toNat) = false := by assumption
     refine k_reg (m1 (z2 (z16 (z16 qz0))) (rO (o_nilck eZ) (rO (o_faddr (off := 7) eZ) (rO (o_load eZ (Keep.look hkr11 (by omega) id (lN hh10 (lN hh8 hSz.hR))) rfl) (m1 (z2 (z16 (z16 ds))) (m1 (z2 (z4 (z8 ds))) (rO (o_iaddr (i := k.toNat) (eV (z2 ds)) (ev_cast (eV (z1 ds)) (by omega)) (by omega)) ?_)))))))
     refine r_heap (o_storeS (l := was3) (o := 0 + k.toNat * 1) eZ (eV (z1 ds)) (Keep.look hkr11 (by omega) id (lN hh10 (lN hh8 hSz.hW))) (by first | omega | (simp only [List.length_set]; omega))) rfl (fun ts_WA hs_WA => ?_)
     refine r_nil (k_reg (rO (o_addN (a := q) (b := 1) (eV (z2 (z8 (z16 (z16 qz19))))) ev_c (by omega)) (m1 ds (r_nil ?_))))
     have hk5 := (show Keep tz ts_WA nz (fun b => b = WA ∨ b = n3) from Keep.upd (Keep.trans (Keep.upd (Keep.upd (Keep.refl tz nz _) hh8 (by first | exact .inl (by omega) | (right; first | exact rfl | (show _ ∨ _; omega) | omega))) hh10 (by first | exact .inl (by omega) | (right; first | exact rfl | (show _ ∨ _; omega) | omega))) hkr11 (by omega) (fun d _ h => h.elim)) hs_WA (by first | exact .inl (by omega) | (right; first | exact rfl | (show _ ∨ _; omega) | omega)))
     have hwz : hv ts_WA WA = some (.row (strs (was3.set k.toNat (gv v3 c.toNat))) true) := by have h_ := (lS hs_WA); rw [show 0 + k.toNat * 1 = k.toNat by omega] at h_; exact h_
     exact ⟨fl.length - (q + 1), by omega, q + 1, was3.set k.toNat (gv v3 c.toNat), ros, rb, by omega, by rw [flipsL_take hk, hfp]; unfold flip1; rw [hi0]; simp [hcr], hrb, hWVz.set hvc, ⟨(lN hs_WA (Keep.look hkr11 (by omega) id (lN hh10 (lN hh8 hSz.hR)))), (lN hs_WA (Keep.look hkr11 (by omega) id (lN hh10 (lN hh8 hSz.hV)))), hwz, by omega, ⟨hnz_.1, by rw [List.length_set]; exact hnz_.2⟩⟩, hLz.keep hk5 (by omega) (fun b hb h_ => by have e_ : b = WA ∨ b = n3 := h_; omega), hgz.keep hk5 (by omega) (fun b h_ => by have e_ : b = WA ∨ b = n3 := h_; omega) (by omega), hfz.keep hk5 (by omega) (fun b h_ => by have e_ : b = WA ∨ b = n3 := h_; omega) (by omega), (lN hs_WA (Keep.look hkr11 (by omega) id (lN hh10 (lN hh8 hMr)))), by omega, ⟨(z4 (z8 (z16 (z16 qz0)))), (z4 (z8 (z16 (z16 qz2)))), (z4 (z8 (z16 (z16 qz3)))), (z4 (z8 (z16 (z16 qz17)))), (z4 (z8 (z16 (z16 qz18)))), ds⟩, by omega, Keep.upd (Keep.trans (kU (kU (hkz) hh8) hh10) hkr11 (by omega) (fun d _ h => h.elim)) hs_WA (.inr (.inr rfl)), by omega⟩
   refine k_exit (exK_same (k_seq ?_))
   rw [List.take_of_length_le (by omega)] at hfp
   have hcs := hSt1.cases_ (w := was3) (ros := ros) (by rw [← hv3]; exact hfp)
   rw [← hv3] at hcs
   have hWV3 := hWVz
   rcases hcs with ⟨hr0, hv2, hw2⟩ | ⟨k, mk, hr0, hmk, hSk⟩
   · subst hr0
     replace hrb : rb = false := hrb
     subst hrb
     change hv tz n3 = some (.map [] 0) at hMr
     refine k_reg (m1 (z1 qz3) (r_heap (o_range eZ hMr) rfl (fun ti_ hi_ => r_nil (k_block ?_))))
     replace hLz := hLz.keep (show Keep tz ti_ nz (fun b => False) from Keep.upd (Keep.refl tz nz _) hi_ (by first | exact .inl (by omega) | (right; first | exact rfl | (show _ ∨ _; omega) | omega))) (by omega) (fun _ _ h => h)
     have hgz : IL ti_ R (nz + 1) V gsv gs := hgz.keep (show Keep tz ti_ nz (fun b => False) from Keep.upd (Keep.refl tz nz _) hi_ (by first | exact .inl (by omega) | (right; first | exact rfl | (show _ ∨ _; omega) | omega))) (by omega) (fun _ h => h.elim) (by omega)
     have hfz : IL ti_ R (nz + 1) V flv fl := hfz.keep (show Keep tz ti_ nz (fun b => False) from Keep.upd (Keep.refl tz nz _) hi_ (by first | exact .inl (by omega) | (right; first | exact rfl | (show _ ∨ _; omega) | omega))) (by omega) (fun _ h => h.elim) (by omega)
     replace hSz := hSz.keep (show Keep tz ti_ nz (fun b => False) from Keep.upd (Keep.refl tz nz _) hi_ (by first | exact .inl (by omega) | (right; first | exact rfl | (show _ ∨ _; omega) | omega))) (Nat.le_refl _) (fun _ h => h.elim) (Nat.le_succ _)
     refine k_loop (fun mm Tu tu nu => (Tu.get 0 = some (.ptr R 0) ∧ Tu.get 2 = some (.bool false) ∧ Tu.get 71 = some (.ptr nz 0)) ∧ ti_ = tu ∧ (nz + 1) = nu) (fun mm Tu tu nu hI_ => ?_) 0 ⟨⟨(z1 (z2 qz0)), (z1 (z2 qz2)), ds⟩, rfl, rfl⟩
     obtain ⟨⟨qu0, qu2, qu71⟩, rfl, rfl⟩ := hI_
     refine k_seq (k_reg (rO (o_next0 (eV qu71) (lS hi_) (lN hi_ hMr)) (rO (o_extr eZ rfl) (r_nil (k_seq (k_cond_f eZ (k_exit (exK_same ?_))))))))
     exact ⟨0, by rw [hmm, if_pos hr1]; omega, false, 0, v3, was3, .inr ⟨rfl, hv2.symm, hw2.symm⟩, hVI3, hWV3, hSz, hLz, hgz, hfz, ⟨(z2 qu0), (z2 qu2)⟩, by omega, kU (hkz) hi_, rfl⟩
   subst hr0
   replace hrb : rb = true := hrb
   subst hrb
   have hkm : k ∈ fl := flips_sub hfp
   obtain ⟨hk0, x, hx, hx7⟩ := hF k hkm
   have hkl : k.toNat < ns.length := (List.getElem?_eq_some_iff.1 hx).1
   obtain ⟨c, d, hins, hcr_, hdr_, hwd⟩ := flip_ins hL.g (List.mem_of_getElem? hx) hx7
   have hi1 := insAt1 hx hins
   have hVI4 := hVI3.set hL.g hx hdr_ hwd
   rw [← hi1] at hVI4
   change hv tz n3 = some (.map [(.int .i64 k, .str (gv v3 (insAt ns k.toNat 1)), 0)] 1) at hMr
   refine k_reg (m1 (z1 qz3) (r_heap (o_range eZ hMr) rfl (fun ti_ hi_ => r_nil (k_block ?_))))
   refine k_loop (fun mm Tu tu nu => ∃ (dn : Bool) (v4 : List (List Nat)), (dn = false ∧ v4 = v3 ∧ hv tu nz = some (.iter (some n3) 1 [] 1) ∨ dn = true ∧ v4 = v3.set k.toNat (gv v3 (insAt ns k.toNat 1)) ∧ hv tu nz = some (.iter (some n3) 1 [0] 1)) ∧ hv tu n3 = some (.map [(.int .i64 k, .str (gv v3 (insAt ns k.toNat 1)), 0)] 1) ∧ SR tu nu bd R V WA vn vt p gsv flv lav n v4 was3 ∧ NR tu bd vn vt ns ts ∧ IL tu R nz V gsv gs ∧ IL tu R nz V flv fl ∧ (Tu.get 0 = some (.ptr R 0) ∧ Tu.get 2 = some (.bool true) ∧ Tu.get 71 = some (.ptr nz 0)) ∧ nz < nu ∧ nx ≤ nu ∧ Keep t tu nx (fun b => b = V ∨ b = WA) ∧ mm = (if dn = true then 0 else 1)) (fun mm Tu tu nu hI => ?_) (1) ⟨false, v3, .inl ⟨rfl, rfl, (lS hi_)⟩, (lN hi_ hMr), hSz.keep (show Keep tz ti_ nz (fun b => False) from Keep.upd (Keep.refl tz nz _) hi_ (by first | exact .inl (by omega) | (right; first | exact rfl | (show _ ∨ _; omega) | omega))) (Nat.le_refl _) (fun _ h => h.elim) (by omega), hLz.keep (show Keep tz ti_ nz (fun b => False) from Keep.upd (Keep.refl tz nz _) hi_ (by first | exact .inl (by omega) | (right; first | exact rfl | (show _ ∨ _; omega) | omega))) (by omega) (fun _ _ h => h), hgz.keep (show Keep tz ti_ nz (fun b => False) from Keep.upd (Keep.refl tz nz _) hi_ (by first | exact .inl (by omega) | (right; first | exact rfl | (show _ ∨ _; omega) | omega))) (by omega) (fun _ h => h.elim) (by omega), hfz.keep (show Keep tz ti_ nz (fun b => False) from Keep.upd (Keep.refl tz nz _) hi_ (by first | exact .inl (by omega) | (right; first | exact rfl | (show _ ∨ _; omega) | omega))) (by omega) (fun _ h => h.elim) (by omega), ⟨(z1 (z2 qz0)), (z1 (z2 qz2)), ds⟩, by omega, by omega, kU (hkz) hi_, rfl⟩
   obtain ⟨dn, v4, hdn, hMu, hSu, hLu, hgu, hfu, ⟨qu0, qu2, qu71⟩, hIu, hnu, hku, hmu⟩ := hI
   have hsu := hSu.hs
   have hnu_ := hSu.hn
   refine k_seq ?_
   rcases hdn with ⟨rfl, hv4, hIr⟩ | ⟨rfl, hv4, hIr⟩
   · have hv4s := hv4.symm
     subst hv4s
     refine k_reg (r_heap (o_next1 (eV qu71) hIr hMu) rfl (fun tn_ hn_i => rO (o_extr eZ rfl) (r_nil (k_seq (k_cond_t eZ (k_skip (k_block (k_seq (k_reg (rO (o_entry1 (eV (z2 qu71)) (lS hn_i) (lN hn_i hMu)) (rO (o_extr eZ rfl) (rO (o_extr (eV (z1 ds)) rfl) (m1 (z1 ds) (m1 (z1 ds) (r_nil (k_reg (m1 (z1 (z2 (z4 qu0))) (rO (o_nilck eZ) (rO (o_faddr (off := 6) eZ) (rO (o_load eZ (lN hn_i hSu.hR) rfl) (m1 (z1 (z4 ds)) (m1 (z1 (z4 ds)) (rO (o_iaddr (i := k.toNat) (eV (z2 ds)) (ev_cast (eV (z1 ds)) (by omega)) (by omega)) ?_)))))))))))))))))))))))
     refine r_heap (o_storeS (l := v3) (o := 0 + k.toNat * 1) eZ (eV (z1 ds)) (lN hn_i hSu.hV) (by first | omega | (simp only [List.length_set]; omega))) rfl (fun ts_V hs_V => ?_)
     refine r_nil ?_
     have hk6 := (show Keep tu ts_V nu (fun b => b = V ∨ b = nz) from Keep.upd (Keep.upd (Keep.refl tu nu _) hn_i (by first | exact .inl (by omega) | (right; first | exact rfl | (show _ ∨ _; omega) | omega))) hs_V (by first | exact .inl (by omega) | (right; first | exact rfl | (show _ ∨ _; omega) | omega)))
     have hvz : hv ts_V V = some (.row (strs (v3.set k.toNat (gv v3 (insAt ns k.toNat 1)))) true) := by have h_ := (lS hs_V); rw [show 0 + k.toNat * 1 = k.toNat by omega] at h_; exact h_
     exact ⟨0, by rw [hmu]; decide, true, _, .inr ⟨rfl, rfl, (lN hs_V (lS hn_i))⟩, (lN hs_V (lN hn_i hMu)), ⟨(lN hs_V (lN hn_i hSu.hR)), hvz, (lN hs_V (lN hn_i hSu.hW)), by omega, ⟨by rw [List.length_set]; exact hnu_.1, hnu_.2⟩⟩, hLu.keep hk6 (by omega) (fun b hb h_ => by have e_ : b = V ∨ b = nz := h_; omega), hgu.keep hk6 (by omega) (fun b h_ => by have e_ : b = V ∨ b = nz := h_; omega) (by omega), hfu.keep hk6 (by omega) (fun b h_ => by have e_ : b = V ∨ b = nz := h_; omega) (by omega), ⟨(z1 (z2 (z4 (z8 qu0)))), (z1 (z2 (z4 (z8 qu2)))), (z1 (z2 (z4 (z8 qu71))))⟩, by omega, by omega, Keep.upd (kU (hku) hn_i) hs_V (.inr (.inl rfl)), rfl⟩
   have hv4s := hv4.symm
   subst hv4s
   have hSz := hSu; have hLz := hLu; have hgz : IL tu R nu V gsv gs := hgu.keep (Keep.refl tu nu (fun _ => False)) (by omega) (fun _ h => h.elim) (by omega); have hfz : IL tu R nu V flv fl := hfu.keep (Keep.refl tu nu (fun _ => False)) (by omega) (fun _ h => h.elim) (by omega)
   refine k_reg (rO (o_next2 (eV qu71) hIr hMu) (rO (o_extr eZ rfl) (r_nil (k_seq (k_cond_f eZ (k_exit (exK_same ?_)))))))
   exact ⟨mk + 1, by rw [hmm, if_pos hr1]; omega, true, mk, v3.set k.toNat (gv v3 (insAt ns k.toNat 1)), was3, .inl ⟨rfl, hSk⟩, hVI4, hWV3, hSz, hLz, hgz, hfz, ⟨(z2 qu0), (z2 qu2)⟩, by omega, hku, rfl⟩
 refine k_exit (exK_same ?_)
 have hr0 : r = false := by assumption
 rcases hst with ⟨h_, -⟩ | ⟨-, rfl, rfl⟩
 · exact absurd (h_.symm.trans hr0) (by decide)
 exact ⟨_, ans_none, rfl, hS1, hVI1, hWV1, by omega, hkv⟩
end
section
variable [Env]
structure OX (t : TB) (nx lo d : Nat) (v : AV) (n : Nat) (l : List AV) : Prop where
 lt : d < nx
 v : (v = .nslice ∧ l = [] ∧ n = 0 ∧ d = lo) ∨ (v = .slice d 0 n n 1 false ∧ hv t d = some (.row l true) ∧ lo < d)
 len : l.length = n
theorem OX.nil {t : TB} {nx lo : Nat} (h : lo < nx) : OX t nx lo lo .nslice 0 [] := ⟨h, .inl ⟨rfl, rfl, rfl, rfl⟩, rfl⟩
theorem OX.keep {t t' : TB} {nx nx' lo d n m : Nat} {v : AV} {l : List AV} {W : Nat → Prop} (h : OX t nx lo d v n l) (hk : Keep t t' m W) (hm : nx ≤ m) (hw : W d → d = lo) (hn : nx ≤ nx') : OX t' nx' lo d v n l := by
 have hl := h.lt
 exact ⟨by omega, h.v.elim .inl (fun h1 => .inr ⟨h1.1, (hk d (by omega) (fun e => by have := hw e; omega)).trans h1.2.1, h1.2.2⟩), h.len⟩
theorem OX.app {t : TB} {nx lo d n e : Nat} {v : AV} {l : List AV} {c : AV} {ex : Bool} (h : OX t nx lo d v n l) (hlo : lo < nx) (he : hv t e = some (.row [c] true)) (hc : isCell c = true) (hs : n + 1 ≤ 65536) :
   ∃ t', appendA 1 v (.slice e 0 1 1 1 ex) t nx = .ok (.slice nx 0 (n + 1) (n + 1) 1 false) t' (nx + 1) ∧ (OX t' (nx + 1) lo nx (.slice nx 0 (n + 1) (n + 1) 1 false) (n + 1) (l ++ [c]) ∧ Keep t t' nx (fun b => b = d ∧ lo < d)) := by
 have hcc : allCell [c] = true := by rw [allCell_iff]; intro z hz; rw [List.mem_singleton] at hz; subst hz; exact hc
 have hsrc : srcCells (.slice e 0 1 1 1 ex) 1 1 t = some [c] := by
   rw [src_row (k := 1) he (by simp)]; rfl
 rcases h.v with ⟨rfl, rfl, rfl, rfl⟩ | ⟨rfl, hr, hd⟩
 · obtain ⟨t', h1, h2⟩ := app_nil (t := t) (nx := nx) (sz := 1) (k := 1) (cs := [c]) rfl hsrc hcc (by decide) (by omega)
   exact ⟨t', h1, ⟨Nat.lt_succ_self _, .inr ⟨rfl, by rw [h2, upd_same]; rfl, hlo⟩, rfl⟩, Keep.upd kR h2 (.inl (Nat.le_refl _))⟩
 · have hl := h.len
   obtain ⟨t', h1, t1, h2, h3⟩ := app_new_f (t := t) (nx := nx) (sz := 1) (k := 1) (b := d) (o := 0) (n := n) (c := n) (y := .slice e 0 1 1 1 ex) rfl hsrc hcc hr (by omega) (by omega) (by omega)
   refine ⟨t', h1, ⟨Nat.lt_succ_self _, .inr ⟨rfl, ?_, hlo⟩, by simp [hl]⟩, Keep.upd (Keep.upd kR h2 (.inr ⟨rfl, hd⟩)) h3 (.inl (Nat.le_refl _))⟩
   rw [lS h3, show (l.drop 0).take (n * 1) = l from by rw [Nat.mul_one]; exact whole hl]
theorem OX.flat {t : TB} {nx lo d n : Nat} {v : AV} {l : List AV} (h : OX t nx lo d v n l) : flatC v = true := by
 rcases h.v with ⟨rfl, -⟩ | ⟨rfl, -⟩ <;> rfl
theorem OX.cell {t : TB} {nx lo d n : Nat} {v : AV} {l : List AV} (h : OX t nx lo d v n l) : isCell v = true := by
 rcases h.v with ⟨rfl, -⟩ | ⟨rfl, -⟩ <;> rfl
theorem OX.il {t : TB} {nx lo d n V : Nat} {v : AV} {l : List Int} (h : OX t nx lo d v n (ints l)) (hV : d ≠ V ∨ d = lo) : IL t lo nx V v l := by
 have hl := h.len
 rw [ints_len] at hl
 rcases h.v with ⟨h1, h2, h3, -⟩ | ⟨h1, h2, h3⟩
 · exact .inl ⟨h1, List.eq_nil_of_length_eq_zero (by omega)⟩
 · exact .inr ⟨d, by rw [hl]; exact h1, h2, h3, h.lt, by omega⟩
theorem ints_snoc1 (l : List Int) (k : Int) : ints (l ++ [k]) = ints l ++ [.int .i64 k] := by simp [ints, i64]
theorem strs_snoc1 (l : List (List Nat)) (s : List Nat) : strs (l ++ [s]) = strs l ++ [.str s] := by simp [strs]
theorem strs_repl (n : Nat) : repl [AV.str []] n = strs (List.replicate n []) := by rw [repl_one]; simp [strs]
def x0 (ns : List Nd) : List (List Nat) := ns.map (fun x => List.replicate x.wide.toNat 120)
theorem x0_take {ns : List Nd} {i : Nat} {x : Nd} (h : ns[i]? = some x) : x0 (ns.take (i + 1)) = x0 (ns.take i) ++ [List.replicate x.wide.toNat 120] := by
 unfold x0; rw [List.take_succ, h]; simp
theorem x0_good {ns : List Nd} (hn : NtG ns) : VI ns (x0 ns) := by
 refine ⟨by simp [x0], fun i x hx => ?_⟩
 have h1 := hn.wide x (List.mem_of_getElem? hx)
 have e : gv (x0 ns) i = List.replicate x.wide.toNat 120 := by
   unfold gv x0; rw [List.getD_eq_getElem?_getD, List.getElem?_map, hx]; rfl
 rw [e]
 exact ⟨.rep bitCx, by simp; omega⟩
def gl (ns : List Nd) : Nat → List Int
 | 0 => []
 | i + 1 => if (ndAt ns i).kind ≠ 2 ∧ (ndAt ns i).kind ≠ 7 ∧ (ndAt ns i).kind ≠ 8 then gl ns i ++ [(i : Int)] else gl ns i
def flp (ns : List Nd) : Nat → List Int
 | 0 => []
 | i + 1 => if (ndAt ns i).kind = 7 then flp ns i ++ [(i : Int)] else flp ns i
theorem gl_len (ns : List Nd) : ∀ i, (gl ns i).length ≤ i
 | 0 => Nat.le_refl _
 | i + 1 => by have := gl_len ns i; unfold gl; split <;> simp <;> omega
theorem flp_len (ns : List Nd) : ∀ i, (flp ns i).length ≤ i
 | 0 => Nat.le_refl _
 | i + 1 => by have := flp_len ns i; unfold flp; split <;> simp <;> omega
theorem gl_mem (ns : List Nd) : ∀ (i : Nat) (k : Int), k ∈ gl ns i ↔ (0 ≤ k ∧ k < (i : Int)) ∧ isGate (ndAt ns k.toNat)
 | 0, k => by simp [gl]; omega
 | i + 1, k => by
   have ih := gl_mem ns i k
   unfold gl
   by_cases h : k = (i : Int)
   · subst h
     have e : ((i : Int)).toNat = i := by omega
     rw [e]
     rw [e] at ih
     by_cases hg : isGate (ndAt ns i)
     · rw [if_pos (show (ndAt ns i).kind ≠ 2 ∧ (ndAt ns i).kind ≠ 7 ∧ (ndAt ns i).kind ≠ 8 from hg)]; simp [hg]; omega
     · rw [if_neg (show ¬ ((ndAt ns i).kind ≠ 2 ∧ (ndAt ns i).kind ≠ 7 ∧ (ndAt ns i).kind ≠ 8) from hg), ih]; simp [hg]
   · have : k ∈ (if (ndAt ns i).kind ≠ 2 ∧ (ndAt ns i).kind ≠ 7 ∧ (ndAt ns i).kind ≠ 8 then gl ns i ++ [(i : Int)] else gl ns i) ↔ k ∈ gl ns i := by
       split
       · simp [h]
       · exact Iff.rfl
     rw [this, ih]
     constructor <;> intro ⟨h1, h2⟩ <;> exact ⟨by omega, h2⟩
theorem flp_mem (ns : List Nd) : ∀ (i : Nat) (k : Int), k ∈ flp ns i ↔ (0 ≤ k ∧ k < (i : Int)) ∧ (ndAt ns k.toNat).kind = 7
 | 0, k => by simp [flp]; omega
 | i + 1, k => by
   have ih := flp_mem ns i k
   unfold flp
   by_cases h : k = (i : Int)
   · subst h
     have e : ((i : Int)).toNat = i := by omega
     rw [e]
     rw [e] at ih
     by_cases hg : (ndAt ns i).kind = 7
     · rw [if_pos hg]; simp [hg]; omega
     · rw [if_neg hg, ih]; simp [hg]
   · have : k ∈ (if (ndAt ns i).kind = 7 then flp ns i ++ [(i : Int)] else flp ns i) ↔ k ∈ flp ns i := by
       split
       · simp [h]
       · exact Iff.rfl
     rw [this, ih]
     constructor <;> intro ⟨h1, h2⟩ <;> exact ⟨by omega, h2⟩
theorem ndAt_lt {ns : List Nd} {k : Nat} (h : k < ns.length) : ns[k]? = some (ndAt ns k) := by
 obtain ⟨x, hx⟩ := some_at h
 rw [ndAt_at hx]; exact hx
theorem gl_OK {ns : List Nd} {gs : List Int} (h : gs.Perm (gl ns ns.length)) : GsOK ns gs ∧ (∀ (i : Nat) (x : Nd), ns[i]? = some x → isGate x → (i : Int) ∈ gs) ∧ gs.length ≤ ns.length := by
 refine ⟨fun k hk => ?_, fun i x hx hg => ?_, by rw [h.length_eq]; exact gl_len _ _⟩
 · have h1 := (gl_mem ns ns.length k).1 (h.mem_iff.1 hk)
   exact ⟨h1.1.1, _, ndAt_lt (by omega), h1.2⟩
 · have hi : i < ns.length := (List.getElem?_eq_some_iff.1 hx).1
   exact h.mem_iff.2 ((gl_mem _ _ _).2 ⟨by omega, by rw [show ((i : Int)).toNat = i by omega, ndAt_at hx]; exact hg⟩)
theorem flp_OK {ns : List Nd} : FlOK ns (flp ns ns.length) := fun k hk => by
 have h1 := (flp_mem ns ns.length k).1 hk
 exact ⟨h1.1.1, _, ndAt_lt (by omega), h1.2⟩
/-- An order in which gates may follow. -/
def Ord (ns : List Nd) (gs : List Int) : Prop := ∃ lev : Int → Int, (∀ (i j : Nat) (a b : Int), i < j → gs[i]? = some a → gs[j]? = some b → lev a ≤ lev b) ∧ ∀ (i : Nat) (x : Nd), ns[i]? = some x → isGate x → ∀ k ∈ x.ins, 0 ≤ k ∧ lev k < lev (i : Int)
theorem Ord.fix {ns : List Nd} {gs : List Int} {v : List (List Nat)} (h : Ord ns gs) (hg : GsOK ns gs) (hall : ∀ (i : Nat) (x : Nd), ns[i]? = some x → isGate x → (i : Int) ∈ gs) (hv : v.length = ns.length) : FixV ns v (followL ns gs v) := by
 obtain ⟨lev, h1, h2⟩ := h
 exact follow_fix hg hall hv h1 h2
def lvK (L : List Int) (k : Int) : Int := L.getD k.toNat 0
theorem ord_of {ns : List Nd} {gs L : List Int} (hn : NtG ns) (hu : LvUp ns L) (hs : Srt (lvK L) gs 0 gs.length) : Ord ns gs := by
 refine ⟨lvK L, fun i j a b hij ha hb => ?_, fun i x hx hg k hk => ?_⟩
 · have h1 : i < gs.length := (List.getElem?_eq_some_iff.1 ha).1
   have h2 : j < gs.length := (List.getElem?_eq_some_iff.1 hb).1
   have h3 := hs i j (by omega) hij h2
   have e1 : g gs i = a := by have := g_at h1; rw [ha] at this; exact (Option.some.inj this).symm
   have e2 : g gs j = b := by have := g_at h2; rw [hb] at this; exact (Option.some.inj this).symm
   rw [e1, e2] at h3; exact h3
 · have hi : i < ns.length := (List.getElem?_eq_some_iff.1 hx).1
   have h0 := hn.ins x (List.mem_of_getElem? hx) k hk
   have hk' : k ∈ hangs x := by unfold hangs; rw [if_neg hg.2.2, if_neg hg.2.1]; exact hk
   obtain ⟨a, ha⟩ := some_at (l := L) (i := k.toNat) (by rw [hu.1]; omega)
   obtain ⟨b, hb⟩ := some_at (l := L) (i := i) (by rw [hu.1]; omega)
   have := hu.2 i x hx k hk' a b ha hb
   have e1 : lvK L k = a := by unfold lvK; rw [List.getD_eq_getElem?_getD, ha]; rfl
   have e2 : lvK L (i : Int) = b := by unfold lvK; rw [show ((i : Int)).toNat = i by omega, List.getD_eq_getElem?_getD, hb]; rfl
   rw [e1, e2]; exact ⟨h0.1, this⟩
def was1 (ns : List Nd) (v : List (List Nat)) (w : List (List Nat)) (k : Int) : List (List Nat) := w.set k.toNat (gv v (insAt ns k.toNat 0))
def wasL (ns : List Nd) (v : List (List Nat)) (fl : List Int) : List (List Nat) := fl.foldl (was1 ns v) (List.replicate ns.length [])
theorem wasL_take {ns : List Nd} {v : List (List Nat)} {fl : List Int} {q : Nat} {k : Int} (h : fl[q]? = some k) : wasL ns v (fl.take (q + 1)) = was1 ns v (wasL ns v (fl.take q)) k := by
 unfold wasL; rw [List.take_succ, h]; simp
theorem was_len (ns : List Nd) (v : List (List Nat)) : ∀ (l : List Int) (w : List (List Nat)), (l.foldl (was1 ns v) w).length = w.length
 | [], w => rfl
 | k :: l, w => (was_len ns v l _).trans (by unfold was1; rw [List.length_set])
theorem was_at {ns : List Nd} {v : List (List Nat)} : ∀ (l : List Int) (w : List (List Nat)) (k : Int), (∀ j ∈ l, 0 ≤ j ∧ j.toNat < w.length) → 0 ≤ k → (k ∈ l ∨ gv w k.toNat = gv v (insAt ns k.toNat 0)) → gv (l.foldl (was1 ns v) w) k.toNat = gv v (insAt ns k.toNat 0)
 | [], w, k, _, _, h => by
   rcases h with h | h
   · cases h
   · exact h
 | j :: l, w, k, hl, h0, h => by
   refine was_at l (was1 ns v w j) k (fun i hi => by unfold was1; rw [List.length_set]; exact hl i (by simp [hi])) h0 ?_
   have hj := hl j (by simp)
   by_cases e : j = k
   · subst e; exact .inr (by unfold was1; rw [gv_set, if_pos ⟨rfl, hj.2⟩])
   · rcases h with h | h
     · rcases List.mem_cons.1 h with h | h
       · exact absurd h.symm e
       · exact .inl h
     · exact .inr (by unfold was1; rw [gv_set, if_neg (by omega)]; exact h)
theorem wasL_at {ns : List Nd} {v : List (List Nat)} {k : Int} (h : k ∈ flp ns ns.length) : gv (wasL ns v (flp ns ns.length)) k.toNat = gv v (insAt ns k.toNat 0) := by
 have hm := (flp_mem ns ns.length k).1 h
 exact was_at _ _ k (fun j hj => by have := (flp_mem ns ns.length j).1 hj; simp; omega) hm.1.1 (.inl h)
def ports_r0 : LI := [.o 2 (.mov (.c .nslice))]
def ports_r1 : LI := [.o 3 (.mov (.c .nslice))]
def ports_r2 : LI := [.mv 6 0,
 .o 7 (.nilck (.t 6)),
 .o 8 (.faddr (.t 7) 0),
 .o 9 (.faddr (.t 8) 1),
 .o 10 (.load (.t 9)),
 .o 11 (.len .slc (.t 10)),
 .o 12 (.mov (kI 0))]
def ports_r3 : LI := [.o 13 (.bin .lss (.t 12) (.t 11))]
def ports_r4 : LI := [.o 14 (.iaddr 1 (.t 10) (.t 12)),
 .o 15 (.load (.t 14)),
 .mv 5 15]
def ports_r5 : LI := [.mv 16 3,
 .mv 17 0,
 .o 18 (.nilck (.t 17)),
 .o 19 (.faddr (.t 18) 6),
 .o 20 (.load (.t 19)),
 .mv 21 5,
 .o 22 (.iaddr 1 (.t 20) (.t 21)),
 .o 23 (.load (.t 22)),
 .o 24 (.bslice 1 1 [(.str [])] [(0, 1, (.t 23))]),
 .o 25 (.app 1 (.t 16) (.t 24)),
 .mv 3 25]
def ports_r6 : LI := [.o 26 (.bin .add (.t 12) (kI 1)),
 .mv 12 26]
def ports_r7 : LI := [.mv 27 3,
 .mv 2 27]
def ports_c : IC := (.seq (.reg ports_r0) (.seq (.reg ports_r1) (.seq (.seq (.reg ports_r2) (.block 0 (.loop (.seq (.reg ports_r3) (.seq (.cond (.t 13) .skip (.exit 0)) (.seq (.block 1 (.seq (.reg ports_r4) (.reg ports_r5))) (.reg ports_r6))))))) (.seq (.reg ports_r7) .ret))))
theorem ports_tab : tb 55 = some (.code 1 28 ports_c [.tmp 2]) := by kernel_rfl
set_option maxHeartbeats 2000000 in
theorem ports_ok {t : TB} {nx bd R V WA n : Nat} {vn vt gsv flv lav : AV} {p : Int} {v was : List (List Nat)} {ns : List Nd} {ts : List Int} (hS : SR t nx bd R V WA vn vt p gsv flv lav n v was) (hL : NR t bd vn vt ns ts) (hvl : v.length = ns.length) (h0 : 0 < ts.length) (hb : bd ≤ nx) : WF tb 55 [.ptr R 0] t nx (fun v' t' nx' => ∃ P : Nat, v' = .slice P 0 ts.length ts.length 1 false ∧ nx ≤ P ∧ P < nx' ∧ hv t' P = some (.row (strs (insV v ts)) true) ∧ nx ≤ nx' ∧ Keep t t' nx (fun _ => False)) := by
 have hs := hS.hs
 have hn := hS.hn
 have htl := hL.tl
 refine k_fun ports_tab rfl ?_
 unfold ports_c
 change WC _ _ (Bt.put (some _) Bt.e 0) _ _ _
 refine k_seq (k_reg (rO (o_mov ev_c) (r_nil (k_seq (k_reg (rO (o_mov ev_c) (r_nil (k_seq (k_seq (k_reg (m1 (z2 get_same) (rO (o_nilck eZ) (rO (o_faddr (off := 0) eZ) (rO (o_faddr (off := 1) eZ) (rO (o_load eZ hS.hR rfl) (rO (o_len_I hL.hT eZ) (rO (o_mov ev_c) (r_nil (k_block (k_loop (fun mm Tv tv nv => ∃ (i P : Nat) (ov : AV), i ≤ ts.length ∧ OX tv nv R P ov i (strs ((insV v ts).take i)) ∧ (P = R ∨ nx ≤ P) ∧ (Tv.get 0 = some (.ptr R 0) ∧ Tv.get 3 = some ov ∧ Tv.get 10 = some vt ∧ Tv.get 11 = some (.int .i64 ((ts.length : Nat) : Int)) ∧ Tv.get 12 = some (.int .i64 ((i : Nat) : Int))) ∧ nx ≤ nv ∧ Keep t tv nx (fun _ => False) ∧ mm + i = ts.length) (fun mm Tv tv nv hI => ?_) (ts.length) ⟨0, R, .nslice, by omega, .nil (by omega), .inl rfl, ⟨(z1 (z8 get_same)), (z1 (z2 (z4 ds))), (z2 ds), (z1 ds), ds⟩, by omega, kR, rfl⟩))))))))))))))))))))
 obtain ⟨i, P, ov, hi, hOX, hP, ⟨q0, q3, q10, q11, q12⟩, hnv, hkv, hmm⟩ := hI
 have hSv := hS.keep hkv (Nat.le_refl _) (fun _ h => h.elim) hnv
 refine k_seq (k_reg (rO (o_lss (eV q12) (eV q11)) (r_nil (k_seq ?_))))
 refine k_if eZ (fun hc1 => ?_) (fun hc1 => ?_)
 · refine k_skip (k_seq (k_block (k_seq ?_)))
   obtain ⟨k, hk⟩ := some_at (l := ts) (i := i) (by omega)
   have hkr := hL.nets k (List.mem_of_getElem? hk)
   obtain ⟨dT, oT, cT, exT, wrT, rT, hTe, hTd, hTr, hTg⟩ := RowI.at hL.hT hk
   have hTr1 := hkv.look (by omega) id hTr
   have hvi : (insV v ts)[i]? = some (gv v k.toNat) := by unfold insV; rw [List.getElem?_map, hk]; rfl
   have hox := hOX.lt
   refine k_reg (rO (o_iaddrE (i := i) (eV (z1 q10)) hTe (eV (z1 q12)) (by omega)) (rO (o_load eZ hTr1 hTg) (m1 ds (r_nil (k_reg (m1 (z4 q3) (m1 (z1 (z4 q0)) (rO (o_nilck eZ) (rO (o_faddr (off := 6) eZ) (rO (o_load eZ hSv.hR rfl) (m1 (z1 (z4 ds)) (rO (o_iaddr (i := k.toNat) (eV (z1 ds)) (ev_cast eZ (by omega)) (by omega)) ?_))))))))))))
   refine rO (o_load eZ hSv.hV (by rw [show 0 + k.toNat * 1 = k.toNat by omega]; exact strs_get (gv_at (by omega)))) ?_
   refine r_heap (o_bslice (fill_cons eZ rfl rfl fill_nil)) rfl (fun t2 (hh3 : hv t2 = upd (hv tv) nv (some (.row [(.str (gv v k.toNat))] true))) => ?_)
   refine r_heap (o_appE (eV (z8 ds)) eZ ((hOX.keep (nx' := (nv + 1)) (show Keep tv t2 nv (fun b => False) from Keep.upd (Keep.refl tv nv _) hh3 (by first | exact .inl (by omega) | (right; first | exact rfl | (show _ ∨ _; omega) | omega))) (Nat.le_refl _) (fun h => h.elim) (by omega)).app (by omega) (lS hh3) rfl (by omega))) rfl (fun ta ⟨hOX2, hka⟩ => ?_)
   refine m1 ds (r_nil (k_reg (rO (o_addN (a := i) (b := 1) (eV (z1 (z2 (z4 (z8 q12))))) ev_c (by omega)) (m1 ds (r_nil ?_)))))
   exact ⟨ts.length - (i + 1), by omega, i + 1, _, _, by omega, by rw [List.take_add_one, hvi]; show OX _ _ _ _ _ _ (strs (_ ++ [_])); rw [strs_snoc1]; exact hOX2, .inr (by omega), ⟨(z1 (z16 q0)), (z2 ds), (z1 (z16 q10)), (z1 (z16 q11)), ds⟩, by omega, Keep.trans (kU (hkv) hh3) hka (by omega) ((fun b hb h_ => absurd (show b = P ∧ R < P from h_) (by omega))), by omega⟩
 refine k_exit (exK_same (k_seq (k_reg (m1 (z1 q3) (m1 ds (r_nil (k_ret ?_)))))))
 obtain rfl : i = ts.length := by omega
 rcases hOX.v with ⟨-, -, h_, -⟩ | ⟨rfl, h2, h3⟩
 · omega
 rw [List.take_of_length_le (by rw [insV_len]; omega)] at h2
 have hlt := hOX.lt
 exact ⟨_, ans_tmp ds, P, rfl, by omega, by omega, h2, by omega, hkv⟩
def cmpl_r0 : LI := [.o 5 (.mov (kI 0))]
def cmpl_r1 : List DIns := [⟨0, [], .o 6 (.load (.t 2))⟩,
 ⟨1, [], .mv 7 0⟩,
 ⟨2, [0, 1], .o 8 (.iaddr 1 (.t 6) (.t 7))⟩,
 ⟨3, [2], .o 9 (.load (.t 8))⟩,
 ⟨4, [], .o 10 (.load (.t 2))⟩,
 ⟨5, [], .mv 11 1⟩,
 ⟨6, [4, 5], .o 12 (.iaddr 1 (.t 10) (.t 11))⟩,
 ⟨7, [6], .o 13 (.load (.t 12))⟩,
 ⟨8, [3, 7], .f 14 51 [(.t 9), (.t 13)]⟩,
 ⟨9, [8, 8, 0, 1, 2, 3, 4, 5, 6, 7, 8], .mv 5 14⟩]
def cmpl_c : IC := (.seq (.reg cmpl_r0) (.seq (.draw cmpl_r1) .ret))
theorem cmpl_tab : tb 107 = some (.code 3 15 cmpl_c [.tmp 5]) := by kernel_rfl
theorem cmpl_ok {t : TB} {nx B d n : Nat} {L : List Int} {a b : Int} (hB : hv t B = some (.row [.slice d 0 n n 1 true] true)) (hd : hv t d = some (.row (ints L) true)) (hl : L.length = n) (ha : 0 ≤ a ∧ a < (n : Int)) (hb : 0 ≤ b ∧ b < (n : Int)) : WF tb 107 [.int .i64 a, .int .i64 b, .ptr B 0] t nx (fun v t' nx' => ∃ r : Int, v = .int .i64 r ∧ (r < 0 ↔ lvK L a < lvK L b) ∧ nx ≤ nx' ∧ Keep t t' nx (fun _ => False)) := by
 refine k_fun cmpl_tab rfl ?_
 unfold cmpl_c
 change WC _ _ (Bt.put (some _) (Bt.put (some _) (Bt.put (some _) Bt.e 0) 1) 2) _ _ _
 refine k_seq (k_reg (rO (o_mov ev_c) (r_nil (k_seq (k_draw (eO 0 rfl (o_load (eV (z1 get_same)) hB rfl) (eO 1 rfl (o_mov (eV (z2 (get_other rfl (get_other rfl get_same))))) (eO 2 rfl (o_iaddr (i := a.toNat) (eV (z1 ds)) (ev_cast eZ (by omega)) (by omega)) ?_))))))))
 refine eO 3 rfl (o_load eZ hd (by rw [show 0 + a.toNat * 1 = a.toNat by omega]; exact ints_get (g_at (by omega)))) ?_
 refine eO 4 rfl (o_load (eV (z1 (z4 get_same))) hB rfl) (eO 5 rfl (o_mov (eV (z2 (z4 (get_other rfl get_same))))) (eO 6 rfl (o_iaddr (i := b.toNat) (eV (z1 ds)) (ev_cast eZ (by omega)) (by omega)) ?_))
 refine eO 7 rfl (o_load eZ hd (by rw [show 0 + b.toNat * 1 = b.toNat by omega]; exact ints_get (g_at (by omega)))) ?_
 refine d_call (ix := 8) (pr := [3, 7]) (d := (some 14)) (g := none) (F' := []) (w_callF (evs_cons (eV (z4 ds)) (evs_cons eZ evs_nil))) rfl (by kernel_rfl) (by kernel_rfl) (by kernel_rfl) (by kernel_rfl) (WF.mono (compare_ok (lvK L a) (lvK L b)) ?_)
 rintro _ t1 n2 ⟨r, rfl, hr, hn_c, hk_c⟩
 refine ⟨?_, ?_⟩
 · exact all_nil_
 refine eO 9 rfl (o_mov eZ) (e_done (k_ret ?_))
 exact ⟨_, ans_tmp ds, _, rfl, by omega, by omega, Keep.trans kR hk_c (by omega) (fun d _ h => h)⟩
def clone_r0 : LI := [.o 2 (.mov (.c .nslice))]
def clone_r1 : LI := [.mv 3 0,
 .o 4 (.eqv false .slc (.t 3) (.c .nslice))]
def clone_r2 : LI := [.o 2 (.mov (.c .nslice))]
def clone_r3 : LI := [.o 5 (.bslice 1 0 [(.str [])] []),
 .mv 6 0,
 .o 7 (.app 1 (.t 5) (.t 6)),
 .mv 2 7]
def clone_c : IC := (.seq (.reg clone_r0) (.seq (.seq (.reg clone_r1) (.cond (.t 4) (.seq (.reg clone_r2) .ret) .skip)) (.seq (.reg clone_r3) .ret)))
theorem clone_tab : tb 63 = some (.code 1 8 clone_c [.tmp 2]) := by kernel_rfl
theorem app_V2 {t : TB} {nx B V n : Nat} {l : List (List Nat)} {ex wr : Bool} (hB : hv t B = some (.row [] true)) (h : hv t V = some (.row (strs l) wr)) (hl : l.length = n) (h0 : 0 < n) (hn : n ≤ 4096) :
   ∃ t', appendA 1 (.slice B 0 0 0 1 true) (.slice V 0 n n 1 ex) t nx = .ok (.slice nx 0 n n 1 false) t' (nx + 1) ∧ ∃ t1, (∀ d, d ≠ B → hv t1 d = hv t d) ∧ hv t' = upd (hv t1) nx (some (.row (strs l) true)) := by
 have h2 := app_any (t := t) (nx := nx) (sz := 1) (k := n) (b := B) (o := 0) (n := 0) (ex := true) (y := .slice V 0 n n 1 ex) (l := []) (cs := strs l) rfl (by
   rw [src_row (k := n) h (by rw [strs_len]; omega)]; congr 1; exact whole (by rw [strs_len, Nat.mul_one]; exact hl)) (strs_all l) hB (by simp) h0 (by omega)
 rw [Nat.zero_add] at h2
 exact h2
theorem o_slc_nil {T : TA} {t : TB} {nx : Nat} {x : Opd} {b o n c sz : Nat} {ex ng : Bool} (hx : x.ev T = some (.slice b o n c sz ex)) : (IOp.eqv ng .slc x (.c .nslice)).run T t nx = .ok (.bool ng) t nx := by
 have e : (Opd.c AV.nslice).ev T = some .nslice := rfl
 simp only [IOp.run, hx, e]
 rfl
theorem clone_ok {t : TB} {nx V n : Nat} {l : List (List Nat)} (h : hv t V = some (.row (strs l) true)) (hl : l.length = n) (h0 : 0 < n) (hn : n ≤ 4096) (hV : V < nx) : WF tb 63 [.slice V 0 n n 1 false] t nx (fun v t' nx' => ∃ c0 : Nat, v = .slice c0 0 n n 1 false ∧ nx ≤ c0 ∧ c0 < nx' ∧ hv t' c0 = some (.row (strs l) true) ∧ nx ≤ nx' ∧ Keep t t' nx (fun _ => False)) := by
 refine k_fun clone_tab rfl ?_
 unfold clone_c
 change WC _ _ (Bt.put (some _) Bt.e 0) _ _ _
 refine k_seq (k_reg (rO (o_mov ev_c) (r_nil (k_seq (k_seq (k_reg (m1 (z1 get_same) (rO (o_slc_nil eZ) (r_nil (k_cond_f eZ (k_skip (k_seq (k_reg (r_heap (o_bslice fill_nil) rfl (fun t1 (hh2 : hv t1 = upd (hv t) nx (some (.row [] true))) => m1 (z4 get_same) (r_heap (o_appE (eV (z1 ds)) eZ (app_V2 (lS hh2) (lN hh2 h) hl h0 hn)) rfl (fun ta ⟨tb_, hh_a, hh_b⟩ => m1 ds (r_nil (k_ret ?_)))))))))))))))))))
 exact ⟨_, ans_tmp ds, _, rfl, by omega, by omega, (lS hh_b), by omega, kU (Keep.ne (kU kR hh2) hh_a (.inl (by omega))) hh_b⟩
def insn_r0 : LI := [.mv 10 1,
 .o 11 (.bin .add (.t 10) (kI 1)),
 .mv 8 11]
def insn_r1 : LI := [.mv 12 8,
 .mv 13 2,
 .o 14 (.bin .lss (.t 12) (.t 13))]
def insn_r2 : LI := [.mv 17 8,
 .mv 9 17]
def insn_r3 : List DIns := [⟨0, [], .mv 18 9⟩,
 ⟨1, [], .mv 19 1⟩,
 ⟨2, [0, 1], .o 20 (.bin .gtr (.t 18) (.t 19))⟩,
 ⟨3, [2], .mv 21 20⟩,
 ⟨4, [3], .g 22 21 true (.mov (.t 3))⟩,
 ⟨5, [3], .g 23 21 true (.mov (.t 0))⟩,
 ⟨6, [3], .g 24 21 true (.mov (.t 9))⟩,
 ⟨7, [5, 6, 3], .g 25 21 true (.iaddr 1 (.t 23) (.t 24))⟩,
 ⟨8, [7, 3], .g 26 21 true (.load (.t 25))⟩,
 ⟨9, [3], .g 27 21 true (.mov (.t 0))⟩,
 ⟨10, [3], .g 28 21 true (.mov (.t 9))⟩,
 ⟨11, [10, 3], .g 29 21 true (.bin .sub (.t 28) (kI 1))⟩,
 ⟨12, [9, 11, 3], .g 30 21 true (.iaddr 1 (.t 27) (.t 29))⟩,
 ⟨13, [12, 3], .g 31 21 true (.load (.t 30))⟩,
 ⟨14, [4, 8, 13, 3, 3], ⟨(some 32), (some (21, true)), (.callV (.t 22) [(.t 26), (.t 31)])⟩⟩,
 ⟨15, [14, 3], .g 33 21 true (.bin .lss (.t 32) (kI 0))⟩,
 ⟨16, [3, 15], .o 34 (.pick (.t 21) (.t 33) (.c (.bool false)))⟩]
def insn_r4 : List DIns := [⟨0, [], .mv 37 0⟩,
 ⟨1, [], .mv 38 9⟩,
 ⟨2, [], .mv 39 0⟩,
 ⟨3, [], .mv 40 9⟩,
 ⟨4, [3], .o 41 (.bin .sub (.t 40) (kI 1))⟩,
 ⟨5, [], .mv 42 0⟩,
 ⟨6, [], .mv 43 9⟩,
 ⟨7, [6], .o 44 (.bin .sub (.t 43) (kI 1))⟩,
 ⟨8, [5, 7], .o 45 (.iaddr 1 (.t 42) (.t 44))⟩,
 ⟨9, [8], .o 46 (.load (.t 45))⟩,
 ⟨10, [], .mv 47 0⟩,
 ⟨11, [], .mv 48 9⟩,
 ⟨12, [10, 11], .o 49 (.iaddr 1 (.t 47) (.t 48))⟩,
 ⟨13, [12], .o 50 (.load (.t 49))⟩,
 ⟨14, [0, 1, 0, 1, 5, 6, 7, 8, 9, 13], .o 51 (.iaddr 1 (.t 37) (.t 38))⟩,
 ⟨15, [14, 9, 0, 1, 5, 6, 7, 8, 9, 13], .x (.store 1 (.t 51) (.t 46))⟩,
 ⟨16, [2, 4, 0, 1, 2, 3, 4, 5, 6, 7, 8, 9, 10, 11, 12, 13, 14, 15], .o 52 (.iaddr 1 (.t 39) (.t 41))⟩,
 ⟨17, [16, 13, 15, 0, 1, 2, 3, 4, 5, 6, 7, 8, 9, 10, 11, 12, 13, 14, 15], .x (.store 1 (.t 52) (.t 50))⟩]
def insn_r5 : LI := [.mv 35 9,
 .o 36 (.bin .sub (.t 35) (kI 1)),
 .mv 9 36]
def insn_r6 : LI := [.mv 15 8,
 .o 16 (.bin .add (.t 15) (kI 1)),
 .mv 8 16]
def insn_c : IC := (.seq (.reg insn_r0) (.block 0 (.loop (.seq (.seq (.reg insn_r1) (.cond (.t 14) .skip (.exit 0))) (.seq (.block 1 (.seq (.reg insn_r2) (.block 2 (.loop (.seq (.seq (.draw insn_r3) (.cond (.t 34) .skip (.exit 2))) (.seq (.block 3 (.draw insn_r4)) (.reg insn_r5))))))) (.reg insn_r6))))))
theorem insn_tab : tb 167 = some (.code 4 53 insn_c []) := by kernel_rfl
theorem insn_ok {t : TB} {nx : Nat} {cv : AV} : WF tb 167 [.nslice, (.int .i64 0), (.int .i64 0), cv] t nx (fun v t' nx' => v = .tup [] ∧ nx ≤ nx' ∧ Keep t t' nx (fun _ => False)) := by
 refine k_fun insn_tab rfl ?_
 unfold insn_c
 change WC _ _ (Bt.put (some _) (Bt.put (some _) (Bt.put (some _) (Bt.put (some _) Bt.e 0) 1) 2) 3) _ _ _
 refine k_seq (k_reg (m1 (get_other rfl (get_other rfl get_same)) (rO (o_add eZ ev_c (by omega) (by omega)) (m1 ds (r_nil (k_block (k_loop (fun mm Tz tz nz => Tz.get 0 = some .nslice ∧ Tz.get 1 = some (.int .i64 0) ∧ Tz.get 2 = some (.int .i64 0) ∧ Tz.get 3 = some cv ∧ Tz.get 8 = some (.int .i64 1) ∧ t = tz ∧ nx = nz) (fun mm Tzz1 tz nz hI => ?_) 0 ⟨(z1 (z2 (get_other rfl (get_other rfl (get_other rfl get_same))))), (z1 (z2 (get_other rfl (get_other rfl get_same)))), (z1 (z2 (get_other rfl get_same))), (z1 (z2 get_same)), ds, rfl, rfl⟩)))))))
 obtain ⟨qzz1_0, qzz1_1, qzz1_2, qzz1_3, qzz1_8, rfl, rfl⟩ := hI
 refine k_seq (k_seq (k_reg (m1 qzz1_8 (m1 (z1 qzz1_2) (rO (dec_f (o_lss (eV (z1 ds)) eZ) (by simp)) (r_nil (k_cond_f eZ (k_exit (exK_same ?_)))))))))
 exact ⟨_, ans_none, rfl, by omega, kR⟩
def stbn_r0 : LI := [.o 6 (.mov (kI 20))]
def stbn_r1 : LI := [.mv 10 6,
 .o 7 (.mov (kI 0)),
 .mv 8 10]
def stbn_r2 : LI := [.mv 11 8,
 .mv 12 1,
 .o 13 (.bin .leq (.t 11) (.t 12))]
def stbn_r3 : LI := [.mv 14 0,
 .mv 15 7,
 .mv 16 8,
 .mv 17 2,
 .f 18 167 [(.t 14), (.t 15), (.t 16), (.t 17)]]
def stbn_r4 : LI := [.mv 19 8,
 .mv 7 19]
def stbn_r5 : LI := [.mv 20 8,
 .mv 21 6,
 .o 22 (.bin .add (.t 20) (.t 21)),
 .mv 8 22]
def stbn_r6 : LI := [.mv 23 0,
 .mv 24 7,
 .mv 25 1,
 .mv 26 2,
 .f 27 167 [(.t 23), (.t 24), (.t 25), (.t 26)]]
def stbn_r7 : LI := [.mv 28 6,
 .mv 29 1,
 .o 30 (.bin .lss (.t 28) (.t 29))]
def stbn_r8 : LI := [.mv 31 6,
 .o 32 (.bin .mul (kI 2) (.t 31)),
 .o 7 (.mov (kI 0)),
 .mv 8 32]
def stbn_r9 : LI := [.mv 33 8,
 .mv 34 1,
 .o 35 (.bin .leq (.t 33) (.t 34))]
def stbn_r10 : LI := [.mv 36 0,
 .mv 37 7,
 .mv 38 7,
 .mv 39 6,
 .o 40 (.bin .add (.t 38) (.t 39)),
 .mv 41 8,
 .mv 42 2,
 .f 43 168 [(.t 36), (.t 37), (.t 40), (.t 41), (.t 42)]]
def stbn_r11 : LI := [.mv 44 8,
 .mv 7 44]
def stbn_r12 : LI := [.mv 45 8,
 .mv 46 6,
 .o 47 (.bin .mul (kI 2) (.t 46)),
 .o 48 (.bin .add (.t 45) (.t 47)),
 .mv 8 48]
def stbn_r13 : LI := [.mv 49 7,
 .mv 50 6,
 .o 51 (.bin .add (.t 49) (.t 50)),
 .mv 9 51]
def stbn_r14 : LI := [.mv 52 9,
 .mv 53 1,
 .o 54 (.bin .lss (.t 52) (.t 53))]
def stbn_r15 : LI := [.mv 55 0,
 .mv 56 7,
 .mv 57 9,
 .mv 58 1,
 .mv 59 2,
 .f 60 168 [(.t 55), (.t 56), (.t 57), (.t 58), (.t 59)]]
def stbn_r16 : LI := [.mv 61 6,
 .o 62 (.bin .mul (.t 61) (kI 2)),
 .mv 6 62]
def stbn_c : IC := (.seq (.reg stbn_r0) (.seq (.reg stbn_r1) (.seq (.block 0 (.loop (.seq (.seq (.reg stbn_r2) (.cond (.t 13) .skip (.exit 0))) (.block 1 (.seq (.reg stbn_r3) (.seq (.reg stbn_r4) (.reg stbn_r5))))))) (.seq (.reg stbn_r6) (.block 2 (.loop (.seq (.seq (.reg stbn_r7) (.cond (.t 30) .skip (.exit 2))) (.block 3 (.seq (.reg stbn_r8) (.seq (.block 4 (.loop (.seq (.seq (.reg stbn_r9) (.cond (.t 35) .skip (.exit 4))) (.block 5 (.seq (.reg stbn_r10) (.seq (.reg stbn_r11) (.reg stbn_r12))))))) (.seq (.seq (.reg stbn_r13) (.seq (.reg stbn_r14) (.cond (.t 54) (.reg stbn_r15) .skip))) (.reg stbn_r16))))))))))))
theorem stbn_tab : tb 118 = some (.code 3 63 stbn_c []) := by kernel_rfl
theorem stbn_ok {t : TB} {nx : Nat} {cv : AV} : WF tb 118 [.nslice, (.int .i64 0), cv] t nx (fun v t' nx' => v = .tup [] ∧ nx ≤ nx' ∧ Keep t t' nx (fun _ => False)) := by
 refine k_fun stbn_tab rfl ?_
 unfold stbn_c
 change WC _ _ (Bt.put (some _) (Bt.put (some _) (Bt.put (some _) Bt.e 0) 1) 2) _ _ _
 refine k_seq (k_reg (rO (o_mov ev_c) (r_nil (k_seq (k_reg (m1 ds (rO (o_mov ev_c) (m1 (z1 ds) (r_nil (k_seq (k_block (k_loop (fun mm Tz tz nz => Tz.get 0 = some .nslice ∧ Tz.get 1 = some (.int .i64 0) ∧ Tz.get 2 = some cv ∧ Tz.get 6 = some (.int .i64 20) ∧ Tz.get 7 = some (.int .i64 0) ∧ Tz.get 8 = some (.int .i64 20) ∧ t = tz ∧ nx = nz) (fun mm Tzz1 tz nz hI => ?_) 0 ⟨(z4 (get_other rfl (get_other rfl get_same))), (z4 (get_other rfl get_same)), (z4 get_same), (z1 (z2 ds)), (z1 ds), ds, rfl, rfl⟩))))))))))))
 obtain ⟨qzz1_0, qzz1_1, qzz1_2, qzz1_6, qzz1_7, qzz1_8, rfl, rfl⟩ := hI
 refine k_seq (k_seq (k_reg (m1 qzz1_8 (m1 (z1 qzz1_1) (rO (ndec_f (o_leq (eV (z1 ds)) eZ) (by simp)) (r_nil (k_cond_f eZ (k_exit (exK_same (k_seq (k_reg (m1 (z1 (z2 qzz1_0)) (m1 (z4 qzz1_7) (m1 (z1 (z4 qzz1_1)) (m1 (z2 (z4 qzz1_2)) (r_call (w_callF (evs_cons (eV (z1 (z2 ds))) (evs_cons (eV (z2 ds)) (evs_cons (eV (z1 ds)) (evs_cons eZ evs_nil))))) rfl (WF.mono (insn_ok) ?_)))))))))))))))))
 rintro _ t2 n3 ⟨rfl, hn_s, hk_s⟩
 refine r_nil (k_block (k_loop (fun mm Tz tz nz => Tz.get 0 = some .nslice ∧ Tz.get 1 = some (.int .i64 0) ∧ Tz.get 2 = some cv ∧ Tz.get 6 = some (.int .i64 20) ∧ t2 = tz ∧ n3 = nz) (fun mm Tzz4 tz nz hI => ?_) 0 ⟨(z8 qzz1_0), (z8 qzz1_1), (z8 qzz1_2), (z8 qzz1_6), rfl, rfl⟩))
 obtain ⟨qzz4_0, qzz4_1, qzz4_2, qzz4_6, rfl, rfl⟩ := hI
 refine k_seq (k_seq (k_reg (m1 qzz4_6 (m1 (z1 qzz4_1) (rO (dec_f (o_lss (eV (z1 ds)) eZ) (by simp)) (r_nil (k_cond_f eZ (k_exit (exK_same ?_)))))))))
 exact ⟨_, ans_none, rfl, by omega, Keep.trans kR hk_s (by omega) (fun d _ h => h)⟩
def ssfn_r0 : LI := [.mv 4 0,
 .mv 5 0,
 .o 6 (.len .slc (.t 5)),
 .mv 7 1,
 .f 8 118 [(.t 4), (.t 6), (.t 7)]]
def ssfn_c : IC := (.reg ssfn_r0)
theorem ssfn_tab : tb 64 = some (.code 2 9 ssfn_c []) := by kernel_rfl
theorem ssfn_ok {t : TB} {nx : Nat} {cv : AV} : WF tb 64 [.nslice, cv] t nx (fun v t' nx' => v = .tup [] ∧ nx ≤ nx' ∧ Keep t t' nx (fun _ => False)) := by
 refine k_fun ssfn_tab rfl ?_
 unfold ssfn_c
 change WC _ _ (Bt.put (some _) (Bt.put (some _) Bt.e 0) 1) _ _ _
 refine k_reg (m1 (get_other rfl get_same) (m1 (z1 (get_other rfl get_same)) (rO (o_len_nslice eZ) (m1 (z1 (z2 get_same)) (r_call (w_callF (evs_cons (eV (z1 (z2 ds))) (evs_cons (eV (z1 ds)) (evs_cons eZ evs_nil)))) rfl (WF.mono (stbn_ok) ?_))))))
 rintro _ t1 n2 ⟨rfl, hn_s, hk_s⟩
 refine r_nil ?_
 exact ⟨_, ans_none, rfl, by omega, Keep.trans kR hk_s (by omega) (fun d _ h => h)⟩
end
section
variable [Env]
def begun_r0 : LI := [.o 1 (.box (.t 0)),
 .o 2 (.mov (.c .nil))]
def begun_r1 : LI := [.o 11 (.loadA 3 (.t 1)),
 .f 12 52 [(.t 11)],
 .mv 10 12,
 .o 13 (.extr (.t 10) 0),
 .o 14 (.extr (.t 10) 1),
 .o 3 (.alloc [.nslice]),
 .x (.store 1 (.t 3) (.t 13)),
 .mv 4 14]
def begun_r2 : List DIns := [⟨0, [], .o 15 (.loadA 3 (.t 1))⟩,
 ⟨1, [], .o 16 (.faddr (.t 1) 0)⟩,
 ⟨2, [1], .o 17 (.load (.t 16))⟩,
 ⟨3, [2], .o 18 (.len .slc (.t 17))⟩,
 ⟨4, [3, 3], .o 19 (.mkslice 1 [(.str [])] (.t 18) (.t 18))⟩,
 ⟨5, [0, 4], .o 20 (.build [.nslice, .nslice, (.int .i64 0), .nslice, .nslice, .nslice, .nslice, .nslice, .nslice, .nslice] [(0, 3, (.t 15)), (7, 1, (.t 19))])⟩,
 ⟨6, [5], .o 21 (.box (.t 20))⟩,
 ⟨7, [6, 0, 1, 2, 3, 4, 5, 6], .mv 5 21⟩]
def begun_r3 : LI := [.o 22 (.faddr (.t 1) 0),
 .o 23 (.load (.t 22)),
 .o 24 (.len .slc (.t 23)),
 .o 25 (.mov (kI 0))]
def begun_r4 : LI := [.o 26 (.bin .lss (.t 25) (.t 24))]
def begun_r5 : LI := [.mv 27 25,
 .o 28 (.iaddr 8 (.t 23) (.t 25)),
 .o 29 (.loadA 8 (.t 28)),
 .o 7 (.alloc [(.int .i64 0), (.int .i64 0), (.int .i64 0), .nslice, (.str []), (.int .i64 0), (.int .i64 0), (.int .i64 0)]),
 .mv 6 27,
 .x (.store 8 (.t 7) (.t 29))]
def begun_r6 : List DIns := [⟨0, [], .mv 30 5⟩,
 ⟨1, [], .mv 31 5⟩,
 ⟨2, [1], .o 32 (.nilck (.t 31))⟩,
 ⟨3, [2], .o 33 (.faddr (.t 32) 6)⟩,
 ⟨4, [3], .o 34 (.load (.t 33))⟩,
 ⟨5, [], .o 35 (.faddr (.t 7) 2)⟩,
 ⟨6, [5], .o 36 (.load (.t 35))⟩,
 ⟨7, [6], .f 37 62 [(.c (.str [120])), (.t 36)]⟩,
 ⟨8, [7], .o 38 (.bslice 1 1 [(.str [])] [(0, 1, (.t 37))])⟩,
 ⟨9, [4, 8, 7], .o 39 (.app 1 (.t 34) (.t 38))⟩,
 ⟨10, [0, 0, 1, 2, 3, 4, 5, 6, 7, 8, 9], .o 40 (.nilck (.t 30))⟩,
 ⟨11, [10, 0, 1, 2, 3, 4, 5, 6, 7, 8, 9], .o 41 (.faddr (.t 40) 6)⟩,
 ⟨12, [11, 9, 9, 0, 1, 2, 3, 4, 5, 6, 7, 8, 9], .x (.store 1 (.t 41) (.t 39))⟩]
def begun_r7 : LI := [.o 42 (.faddr (.t 7) 0),
 .o 43 (.load (.t 42))]
def begun_r8 : LI := [.o 55 (.bin .eql (.t 43) (kI 7)),
 .mv 54 55]
def begun_r9 : LI := [.mv 56 5,
 .mv 57 5,
 .o 58 (.nilck (.t 57)),
 .o 59 (.faddr (.t 58) 4),
 .o 60 (.load (.t 59)),
 .mv 61 6,
 .o 62 (.bslice 1 1 [(.int .i64 0)] [(0, 1, (.t 61))]),
 .o 63 (.app 1 (.t 60) (.t 62)),
 .o 64 (.nilck (.t 56)),
 .o 65 (.faddr (.t 64) 4),
 .x (.store 1 (.t 65) (.t 63))]
def begun_r10 : LI := [.o 67 (.bin .eql (.t 43) (kI 8)),
 .mv 66 67]
def begun_r11 : LI := [.mv 68 5,
 .mv 69 5,
 .o 70 (.nilck (.t 69)),
 .o 71 (.faddr (.t 70) 5),
 .o 72 (.load (.t 71)),
 .mv 73 6,
 .o 74 (.bslice 1 1 [(.int .i64 0)] [(0, 1, (.t 73))]),
 .o 75 (.app 1 (.t 72) (.t 74)),
 .o 76 (.nilck (.t 68)),
 .o 77 (.faddr (.t 76) 5),
 .x (.store 1 (.t 77) (.t 75))]
def begun_r12 : LI := [.o 79 (.bin .eql (.t 43) (kI 2)),
 .mv 78 79]
def begun_r13 : LI := [.mv 44 5,
 .mv 45 5,
 .o 46 (.nilck (.t 45)),
 .o 47 (.faddr (.t 46) 3),
 .o 48 (.load (.t 47)),
 .mv 49 6,
 .o 50 (.bslice 1 1 [(.int .i64 0)] [(0, 1, (.t 49))]),
 .o 51 (.app 1 (.t 48) (.t 50)),
 .o 52 (.nilck (.t 44)),
 .o 53 (.faddr (.t 52) 3),
 .x (.store 1 (.t 53) (.t 51))]
def begun_r14 : LI := [.o 80 (.bin .add (.t 25) (kI 1)),
 .mv 25 80]
def begun_r15 : LI := [.mv 81 5,
 .mv 82 5,
 .o 83 (.nilck (.t 82)),
 .o 84 (.faddr (.t 83) 6),
 .o 85 (.load (.t 84)),
 .f 86 63 [(.t 85)],
 .o 87 (.nilck (.t 81)),
 .o 88 (.faddr (.t 87) 8),
 .x (.store 1 (.t 88) (.t 86))]
def begun_r16 : LI := [.mv 89 5,
 .o 90 (.nilck (.t 89)),
 .o 91 (.faddr (.t 90) 3),
 .o 92 (.load (.t 91)),
 .o 93 (.mkfn 107 [] [(.t 3)]),
 .f 94 64 [(.t 92), (.t 93)]]
def begun_r17 : LI := [.mv 95 5,
 .f 96 108 [(.t 95)]]
def begun_r18 : LI := [.mv 97 5,
 .o 98 (.nilck (.t 97)),
 .o 99 (.faddr (.t 98) 4),
 .o 100 (.load (.t 99)),
 .o 101 (.len .slc (.t 100)),
 .o 102 (.mov (kI 0))]
def begun_r19 : LI := [.o 103 (.bin .lss (.t 102) (.t 101))]
def begun_r20 : LI := [.o 104 (.iaddr 1 (.t 100) (.t 102)),
 .o 105 (.load (.t 104)),
 .mv 9 105]
def begun_r21 : List DIns := [⟨0, [], .mv 106 5⟩,
 ⟨1, [0], .o 107 (.nilck (.t 106))⟩,
 ⟨2, [1], .o 108 (.faddr (.t 107) 7)⟩,
 ⟨3, [2], .o 109 (.load (.t 108))⟩,
 ⟨4, [], .mv 110 9⟩,
 ⟨5, [], .mv 111 5⟩,
 ⟨6, [5], .o 112 (.nilck (.t 111))⟩,
 ⟨7, [6], .o 113 (.faddr (.t 112) 6)⟩,
 ⟨8, [7], .o 114 (.load (.t 113))⟩,
 ⟨9, [], .o 115 (.faddr (.t 1) 0)⟩,
 ⟨10, [9], .o 116 (.load (.t 115))⟩,
 ⟨11, [], .mv 117 9⟩,
 ⟨12, [10, 11], .o 118 (.iaddr 8 (.t 116) (.t 117))⟩,
 ⟨13, [12], .o 119 (.faddr (.t 118) 3)⟩,
 ⟨14, [13], .o 120 (.load (.t 119))⟩,
 ⟨15, [14], .o 121 (.iaddr 1 (.t 120) (kI 0))⟩,
 ⟨16, [15], .o 122 (.load (.t 121))⟩,
 ⟨17, [8, 16], .o 123 (.iaddr 1 (.t 114) (.t 122))⟩,
 ⟨18, [17], .o 124 (.load (.t 123))⟩,
 ⟨19, [3, 4, 0, 1, 2, 3, 4, 5, 6, 7, 8, 9, 10, 11, 12, 13, 14, 15, 16, 17, 18], .o 125 (.iaddr 1 (.t 109) (.t 110))⟩,
 ⟨20, [19, 18, 0, 1, 2, 3, 4, 5, 6, 7, 8, 9, 10, 11, 12, 13, 14, 15, 16, 17, 18], .x (.store 1 (.t 125) (.t 124))⟩]
def begun_r22 : LI := [.o 126 (.bin .add (.t 102) (kI 1)),
 .mv 102 126]
def begun_r23 : LI := [.mv 127 5,
 .mv 2 127]
def begun_c : IC := (.seq (.reg begun_r0) (.seq (.reg begun_r1) (.seq (.draw begun_r2) (.seq (.seq (.reg begun_r3) (.block 0 (.loop (.seq (.reg begun_r4) (.seq (.cond (.t 26) .skip (.exit 0)) (.seq (.block 1 (.seq (.reg begun_r5) (.seq (.draw begun_r6) (.seq (.reg begun_r7) (.block 2 (.seq (.reg begun_r8) (.cond (.t 54) (.reg begun_r9) (.seq (.reg begun_r10) (.cond (.t 66) (.reg begun_r11) (.seq (.reg begun_r12) (.cond (.t 78) .skip (.reg begun_r13)))))))))))) (.reg begun_r14))))))) (.seq (.reg begun_r15) (.seq (.reg begun_r16) (.seq (.reg begun_r17) (.seq (.seq (.reg begun_r18) (.block 3 (.loop (.seq (.reg begun_r19) (.seq (.cond (.t 103) .skip (.exit 3)) (.seq (.block 4 (.seq (.reg begun_r20) (.draw begun_r21))) (.reg begun_r22))))))) (.seq (.reg begun_r23) .ret)))))))))
theorem begun_tab : tb 54 = some (.code 1 128 begun_c [.tmp 2]) := by kernel_rfl
theorem NR.up {t : TB} {bd bd2 : Nat} {vn vt : AV} {ns : List Nd} {ts : List Int} (h : NR t bd vn vt ns ts) (hb : bd ≤ bd2) : NR t bd2 vn vt ns ts :=
 ⟨h.hN.keep (fun _ _ _ => rfl) hb, h.hT.keep (fun _ _ _ => rfl) hb, h.g, h.few, h.tl, h.nets, h.il⟩
theorem rep_okI {t : TB} {nx : Nat} {w : Int} (h0 : 0 ≤ w) (h1 : w ≤ 65536) : WF tb 62 [.str [120], .int .i64 w] t nx (fun v t' nx' => v = .str (List.replicate w.toNat 120) ∧ nx ≤ nx' ∧ Keep t t' nx (fun _ => False)) := by
 have h := rep_ok (t := t) (nx := nx) (c := 120) (n := w.toNat) (by decide) (by omega)
 rw [show ((w.toNat : Nat) : Int) = w by omega] at h
 exact h
theorem gl_yes {ns : List Nd} {i : Nat} {x : Nd} (hx : ns[i]? = some x) (h : x.kind ≠ 2 ∧ x.kind ≠ 7 ∧ x.kind ≠ 8) : gl ns (i + 1) = gl ns i ++ [(i : Int)] := by show (if _ then _ else _) = _; rw [ndAt_at hx, if_pos h]
theorem gl_no {ns : List Nd} {i : Nat} {x : Nd} (hx : ns[i]? = some x) (h : x.kind = 2 ∨ x.kind = 7 ∨ x.kind = 8) : gl ns (i + 1) = gl ns i := by show (if _ then _ else _) = _; rw [ndAt_at hx, if_neg (by omega)]
theorem flp_yes {ns : List Nd} {i : Nat} {x : Nd} (hx : ns[i]? = some x) (h : x.kind = 7) : flp ns (i + 1) = flp ns i ++ [(i : Int)] := by show (if _ then _ else _) = _; rw [ndAt_at hx, if_pos h]
theorem flp_no {ns : List Nd} {i : Nat} {x : Nd} (hx : ns[i]? = some x) (h : x.kind ≠ 7) : flp ns (i + 1) = flp ns i := by show (if _ then _ else _) = _; rw [ndAt_at hx, if_neg h]
theorem OX.to {t : TB} {nx lo d n m : Nat} {v : AV} {l k : List AV} (h : OX t nx lo d v n l) (hn : n = m) (hl : l = k) : OX t nx lo d v m k := by subst hn; subst hl; exact h
set_option maxHeartbeats 8000000 in
theorem begun_ok {t : TB} {nx bd : Nat} {vn vt : AV} {p : Int} {ns : List Nd} {ts : List Int} (hL : NR t bd vn vt ns ts) (hb : bd ≤ nx) (hG : LvN ns) (hM : MayP ns ts p) (hlong : ∀ x ∈ ns, x.ins.length < 60000 ∧ (∀ c ∈ x.value, c < 256) ∧ x.value.length ≤ 9223372036854775807) (h8 : ∀ x ∈ ns, x.kind ≠ 8) (h0 : 0 < ns.length) (hsm : ns.length < 20) : WF tb 54 [.agg [vn, vt, .int .i64 p]] t nx (fun v' t' nx' => ∃ (R V WA : Nat) (gsv flv lav : AV) (gs : List Int) (v1 : List (List Nat)), v' = .ptr R 0 ∧ v1 = followL ns gs (x0 ns) ∧ SR t' nx' nx R V WA vn vt p gsv flv lav ns.length v1 (wasL ns v1 (flp ns ns.length)) ∧ IL t' R nx' V gsv gs ∧ IL t' R nx' V flv (flp ns ns.length) ∧ flatC lav = true ∧ gs.Perm (gl ns ns.length) ∧ Ord ns gs ∧ VI ns v1 ∧ nx ≤ nx' ∧ Keep t t' nx (fun _ => False)) := by
 have hfew := hL.few
 have htl := hL.tl
 have hcn := hL.hN.cell
 have hct := hL.hT.cell
 refine k_fun begun_tab rfl ?_
 unfold begun_c
 change WC _ _ (Bt.put (some _) Bt.e 0) _ _ _
 refine k_seq (k_reg (r_heap (o_box (eV get_same)) rfl (fun t1 (hh2 : hv t1 = upd (hv t) nx (some (.row [vn, vt, (.int .i64 p)] true))) => rO (o_mov ev_c) (r_nil (k_seq (k_reg (rO (o_loadA (n := 3) (eV (z1 ds)) (lS hh2) (leb rfl) rfl) (r_call (w_callF (evs_cons eZ evs_nil)) rfl (WF.mono (lrunL_ok (hL.hN.keep (fun d hd hw => (show Keep t t1 nx (fun _ => False) from kU kR hh2) d (by omega) hw) (Nat.le_refl bd)) (hL.hT.keep (fun d hd hw => (show Keep t t1 nx (fun _ => False) from kU kR hh2) d (by omega) hw) (Nat.le_refl bd)) (by omega) hG hM (by omega) hlong) ?_)))))))))
 rintro _ t3 n4 ⟨dl, L, rfl, hd1, hd2, hrl, hup, hn_l, hk_l⟩
 obtain ⟨n_l, rfl⟩ : ∃ k, k = n4 := ⟨_, rfl⟩
 refine m1 ds (rO (o_extr eZ rfl) (rO (o_extr (eV (z1 ds)) rfl) (r_heap (o_alloc) rfl (fun t5 (hh6 : hv t5 = upd (hv t3) n_l (some (.row [.nslice] true))) => r_heap (o_store (n := 1) eZ (eV (z2 ds)) (lS hh6) rfl rfl (leb rfl)) rfl (fun t7 (hh8 : hv t7 = upd (hv t5) n_l (some (.row [(.slice dl 0 ns.length ns.length 1 true)] true))) => m1 (z2 ds) (r_nil (k_seq (k_draw (eO 0 rfl (o_loadA (n := 3) (eV (z1 (z8 ds))) (lN hh8 (lN hh6 (Keep.look hk_l (by omega) id (lS hh2)))) (leb rfl) rfl) (eO 1 rfl (o_faddr (off := 0) (eV (z2 (z8 ds)))) (eO 2 rfl (o_load eZ (lN hh8 (lN hh6 (Keep.look hk_l (by omega) id (lS hh2)))) rfl) (eO 3 rfl (o_len_N hL.hN eZ) ?_))))))))))))
 refine d_heap (ix := 4) (pr := [3, 3]) (d := (some 19)) (g := none) (F' := [(⟨0, [], .o 15 (.loadA 3 (.t 1))⟩, (.agg [vn, vt, (.int .i64 p)]))]) (o := (.mkslice 1 [(.str [])] (.t 18) (.t 18))) (o_mkslice (l := ns.length) (c := ns.length) eZ eZ (Nat.le_refl _) (by omega) rfl) rfl (by kernel_rfl) (by kernel_rfl) (by kernel_rfl) (by kernel_rfl) (fun t9 (hh10 : hv t9 = upd (hv t7) (n_l + 1) (some (.row (repl [AV.str []] ns.length) true))) => ⟨?_, ?_⟩)
 · exact (all_cons_ (still_op rfl rfl (o_loadA (n := 3) (eV (z2 (z4 (z8 ds)))) (lN hh10 (lN hh8 (lN hh6 (Keep.look hk_l (by omega) id (lS hh2))))) (leb rfl) rfl) (aeq_agg (agg3_flat hL.hN hL.hT))) all_nil_)
 refine eO 5 rfl (o_build (fill_cons (eV (z4 ds)) rfl rfl (fill_cons eZ rfl rfl fill_nil))) ?_
 refine d_heap (ix := 6) (pr := [5]) (d := (some 21)) (g := none) (F' := []) (o := (.box (.t 20))) (o_box eZ) rfl (by kernel_rfl) (by kernel_rfl) (by kernel_rfl) (by kernel_rfl) (fun t11 (hh12 : hv t11 = upd (hv t9) ((n_l + 1) + 1) (some (.row [vn, vt, (.int .i64 p), .nslice, .nslice, .nslice, .nslice, (.slice (n_l + 1) 0 ns.length ns.length 1 true), .nslice, .nslice] true))) => ⟨?_, ?_⟩)
 · exact all_nil_
 refine eO 7 rfl (o_mov eZ) (e_done (k_seq (k_seq (k_reg (rO (o_faddr (off := 0) (eV (z1 (z16 ds)))) (rO (o_load eZ (lN hh12 (lN hh10 (lN hh8 (lN hh6 (Keep.look hk_l (by omega) id (lS hh2)))))) rfl) (rO (o_len_N hL.hN eZ) (rO (o_mov ev_c) (r_nil (k_block (k_loop (fun mm Tv tv nv => ∃ (i V G F : Nat) (vv gv_ fv : AV), i ≤ ns.length ∧ (Tv.get 1 = some (.ptr nx 0) ∧ Tv.get 3 = some (.ptr n_l 0) ∧ Tv.get 5 = some (.ptr ((n_l + 1) + 1) 0) ∧ Tv.get 23 = some vn ∧ Tv.get 24 = some (.int .i64 ((ns.length : Nat) : Int)) ∧ Tv.get 25 = some (.int .i64 ((i : Nat) : Int))) ∧ hv tv ((n_l + 1) + 1) = some (.row [vn, vt, (.int .i64 p), gv_, fv, .nslice, vv, (.slice (n_l + 1) 0 ns.length ns.length 1 true), .nslice, .nslice] true) ∧ OX tv nv ((n_l + 1) + 1) V vv i (strs (x0 (ns.take i))) ∧ OX tv nv ((n_l + 1) + 1) G gv_ (gl ns i).length (ints (gl ns i)) ∧ OX tv nv ((n_l + 1) + 1) F fv (flp ns i).length (ints (flp ns i)) ∧ ((V ≠ G ∨ V = ((n_l + 1) + 1)) ∧ (V ≠ F ∨ V = ((n_l + 1) + 1)) ∧ (G ≠ F ∨ G = ((n_l + 1) + 1))) ∧ ((n_l + 1) + 1) < nv ∧ Keep t11 tv ((n_l + 1) + 1) (fun _ => False) ∧ Keep t tv nx (fun _ => False) ∧ mm + i = ns.length) (fun mm Tv tv nv hI => ?_) (ns.length) ⟨0, ((n_l + 1) + 1), ((n_l + 1) + 1), ((n_l + 1) + 1), .nslice, .nslice, .nslice, by omega, ⟨(z1 (z4 (z16 ds))), (z2 (z4 (z8 ds))), (z4 ds), (z2 ds), (z1 ds), ds⟩, (lS hh12), .nil (by omega), .nil (by omega), .nil (by omega), by omega, by omega, kR, kU (kU (kU (kU (Keep.trans (kU kR hh2) hk_l (by omega) (fun d _ h => h)) hh6) hh8) hh10) hh12, rfl⟩)))))))))))
 obtain ⟨i, V, G, F, vv, gv_, fv, hi, ⟨q1, q3, q5, q23, q24, q25⟩, hRv, hOV, hOG, hOF, hap, hnv, hkB, hkv, hmm⟩ := hI
 have hvl := hOV.lt; have hgl := hOG.lt; have hfl := hOF.lt
 refine k_seq (k_reg (rO (o_lss (eV q25) (eV q24)) (r_nil (k_seq ?_))))
 refine k_if eZ (fun hc13 => ?_) (fun hc13 => ?_)
 · refine k_skip (k_seq (k_block (k_seq ?_)))
   obtain ⟨x, hx⟩ := some_at (l := ns) (i := i) (by omega)
   have hxm := List.mem_of_getElem? hx
   have hxw := hL.g.wide x hxm
   obtain ⟨dN, oN, cN, exN, wrN, rN, iv, hNe, hNd, hNr, hNl, hNg, hI, hic⟩ := RowN.at hL.hN hx
   have hNr1 := hkv.look (by omega) id hNr
   refine k_reg (m1 (z1 q25) (rO (o_iaddrE (i := i) (eV (z2 q23)) hNe (eV (z2 q25)) (by omega)) (rO (o_loadA (n := 8) eZ hNr1 (by omega) hNg) (r_heap (o_alloc) rfl (fun t14 (hh15 : hv t14 = upd (hv tv) nv (some (.row [(.int .i64 0), (.int .i64 0), (.int .i64 0), .nslice, (.str []), (.int .i64 0), (.int .i64 0), (.int .i64 0)] true))) => m1 (z1 (z2 ds)) (r_heap (o_store (n := 8) (eV (z1 ds)) (eV (z2 ds)) (lS hh15) rfl (ncells_cell _ hic) (leb rfl)) rfl (fun t16 (hh17 : hv t16 = upd (hv t14) nv (some (.row [(.int .i64 x.kind), (.int .i64 x.op), (.int .i64 x.wide), iv, (.str x.value), (.int .i64 x.hi), (.int .i64 x.lo), (.int .i64 x.time)] true))) => r_nil (k_seq (k_draw (eO 0 rfl (o_mov (eV (z1 (z2 (z4 q5))))) (eO 1 rfl (o_mov (eV (z8 q5))) (eO 2 rfl (o_nilck eZ) (eO 3 rfl (o_faddr (off := 6) eZ) (eO 4 rfl (o_load eZ (lN hh17 (lN hh15 hRv)) rfl) (eO 5 rfl (o_faddr (off := 2) (eV (z1 (z2 (z4 ds))))) (eO 6 rfl (o_load eZ (lS hh17) rfl) (d_call (ix := 7) (pr := [6]) (d := (some 37)) (g := none) (F' := [(⟨4, [3], .o 34 (.load (.t 33))⟩, vv), (⟨3, [2], .o 33 (.faddr (.t 32) 6)⟩, (.ptr ((n_l + 1) + 1) 6)), (⟨2, [1], .o 32 (.nilck (.t 31))⟩, (.ptr ((n_l + 1) + 1) 0)), (⟨1, [], .mv 31 5⟩, (.ptr ((n_l + 1) + 1) 0)), (⟨0, [], .mv 30 5⟩, (.ptr ((n_l + 1) + 1) 0))]) (w_callF (evs_cons ev_c (evs_cons eZ evs_nil))) rfl (by kernel_rfl) (by kernel_rfl) (by kernel_rfl) (by kernel_rfl) (WF.mono (rep_okI (by omega) (by omega)) ?_))))))))))))))))))
   rintro _ t19 n20 ⟨rfl, hnr18, hkr18⟩
   refine ⟨?_, ?_⟩
   · exact (all_cons_ (still_op rfl rfl (o_load (eV (z4 ds)) (Keep.look hkr18 (by omega) id (lN hh17 (lN hh15 hRv))) rfl) (aeq_flat hOV.flat)) (all_cons_ (still_op rfl rfl (o_faddr (off := 6) (eV (z1 (z4 ds)))) (aeq_flat rfl)) (all_cons_ (still_op rfl rfl (o_nilck (eV (z2 (z4 ds)))) (aeq_flat rfl)) (all_cons_ (still_op rfl rfl (o_mov (eV (z1 (z2 (z4 (z8 q5)))))) (aeq_flat rfl)) (all_cons_ (still_op rfl rfl (o_mov (eV (z1 (z2 (z4 (z8 q5)))))) (aeq_flat rfl)) all_nil_)))))
   refine d_heap (ix := 8) (pr := [7]) (d := (some 38)) (g := none) (F' := [(⟨4, [3], .o 34 (.load (.t 33))⟩, vv), (⟨3, [2], .o 33 (.faddr (.t 32) 6)⟩, (.ptr ((n_l + 1) + 1) 6)), (⟨2, [1], .o 32 (.nilck (.t 31))⟩, (.ptr ((n_l + 1) + 1) 0)), (⟨1, [], .mv 31 5⟩, (.ptr ((n_l + 1) + 1) 0)), (⟨0, [], .mv 30 5⟩, (.ptr ((n_l + 1) + 1) 0))]) (o := (.bslice 1 1 [(.str [])] [(0, 1, (.t 37))])) (o_bslice (fill_cons eZ rfl rfl fill_nil)) rfl (by kernel_rfl) (by kernel_rfl) (by kernel_rfl) (by kernel_rfl) (fun t21 (hh22 : hv t21 = upd (hv t19) n20 (some (.row [(.str (List.replicate x.wide.toNat 120))] true))) => ⟨?_, ?_⟩)
   · exact (all_cons_ (still_op rfl rfl (o_load (eV (z1 (z4 ds))) (lN hh22 (Keep.look hkr18 (by omega) id (lN hh17 (lN hh15 hRv)))) rfl) (aeq_flat hOV.flat)) (all_cons_ (still_op rfl rfl (o_faddr (off := 6) (eV (z2 (z4 ds)))) (aeq_flat rfl)) (all_cons_ (still_op rfl rfl (o_nilck (eV (z1 (z2 (z4 ds))))) (aeq_flat rfl)) (all_cons_ (still_op rfl rfl (o_mov (eV (z16 q5))) (aeq_flat rfl)) (all_cons_ (still_op rfl rfl (o_mov (eV (z16 q5))) (aeq_flat rfl)) all_nil_)))))
   refine d_heap (ix := 9) (pr := [4, 8, 7]) (d := (some 39)) (g := none) (F' := [(⟨0, [], .mv 30 5⟩, (.ptr ((n_l + 1) + 1) 0))]) (o := (.app 1 (.t 34) (.t 38))) (o_appE (eV (z4 ds)) eZ ((hOV.keep (nx' := (n20 + 1)) (show Keep tv t21 nv (fun b => False) from Keep.upd (Keep.trans (Keep.upd (Keep.upd (Keep.refl tv nv _) hh15 (by first | exact .inl (by omega) | (right; first | exact rfl | (show _ ∨ _; omega) | omega))) hh17 (by first | exact .inl (by omega) | (right; first | exact rfl | (show _ ∨ _; omega) | omega))) hkr18 (by omega) (fun d _ h => h.elim)) hh22 (by first | exact .inl (by omega) | (right; first | exact rfl | (show _ ∨ _; omega) | omega))) (Nat.le_refl _) (fun h => h.elim) (by omega)).app (by omega) (lS hh22) rfl (by omega))) rfl (by kernel_rfl) (by kernel_rfl) (by kernel_rfl) (by kernel_rfl) (fun ta ⟨hOV2, hka⟩ => ⟨?_, ?_⟩)
   · exact (all_cons_ (still_op rfl rfl (o_mov (eV (z1 (z16 q5)))) (aeq_flat rfl)) all_nil_)
   refine eO 10 rfl (o_nilck (eV (z1 (z8 ds)))) (eO 11 rfl (o_faddr (off := 6) eZ) ?_)
   refine d_heap (ix := 12) (pr := [11, 9, 9, 0, 1, 2, 3, 4, 5, 6, 7, 8, 9]) (d := none) (g := none) (F' := []) (o := (.store 1 (.t 41) (.t 39))) (o_store (n := 1) eZ (eV (z2 ds)) (Keep.look hka (by omega) (fun h_ => absurd (show ((n_l + 1) + 1) = V ∧ ((n_l + 1) + 1) < V from h_) (by omega)) (lN hh22 (Keep.look hkr18 (by omega) id (lN hh17 (lN hh15 hRv))))) rfl rfl (leb rfl)) rfl (by kernel_rfl) (by kernel_rfl) (by kernel_rfl) (by kernel_rfl) (fun t23 (hh24 : hv t23 = upd (hv ta) ((n_l + 1) + 1) (some (.row [vn, vt, (.int .i64 p), gv_, fv, .nslice, (.slice (n20 + 1) 0 (i + 1) (i + 1) 1 false), (.slice (n_l + 1) 0 ns.length ns.length 1 true), .nslice, .nslice] true))) => ⟨?_, ?_⟩)
   · exact all_nil_
   refine e_done (k_seq (k_reg (rO (o_faddr (off := 0) (eV (z1 (z2 (z4 (z8 ds)))))) (rO (o_load eZ (lN hh24 (Keep.look hka (by omega) (fun h_ => absurd (show nv = V ∧ ((n_l + 1) + 1) < V from h_) (by omega)) (lN hh22 (Keep.look hkr18 (by omega) id (lS hh17))))) rfl) (r_nil (k_block (k_seq (k_reg (rO (o_eql eZ ev_c) (m1 ds (r_nil ?_)))))))))))
   refine k_if eZ (fun hc25 => ?_) (fun hc25 => ?_)
   · refine k_reg (m1 (z8 (z16 q5)) (m1 (z1 (z8 (z16 q5))) (rO (o_nilck eZ) (rO (o_faddr (off := 4) eZ) (rO (o_load eZ (lS hh24) rfl) (m1 (z1 (z2 (z4 (z16 ds)))) (r_heap (o_bslice (fill_cons eZ rfl rfl fill_nil)) rfl (fun t26 (hh27 : hv t26 = upd (hv t23) ((n20 + 1) + 1) (some (.row [(.int .i64 ((i : Nat) : Int))] true))) => ?_))))))))
     refine r_heap (o_appE (eV (z2 ds)) eZ ((hOF.keep (nx' := (((n20 + 1) + 1) + 1)) (show Keep tv t26 nv (fun b => b = ((n_l + 1) + 1) ∨ (b = V ∧ ((n_l + 1) + 1) < V)) from Keep.upd (Keep.upd (Keep.trans (Keep.upd (Keep.trans (Keep.upd (Keep.upd (Keep.refl tv nv _) hh15 (by first | exact .inl (by omega) | (right; first | exact rfl | (show _ ∨ _; omega) | omega))) hh17 (by first | exact .inl (by omega) | (right; first | exact rfl | (show _ ∨ _; omega) | omega))) hkr18 (by omega) (fun d _ h => h.elim)) hh22 (by first | exact .inl (by omega) | (right; first | exact rfl | (show _ ∨ _; omega) | omega))) hka (by omega) ((fun _ _ h => .inr h))) hh24 (by first | exact .inl (by omega) | (right; first | exact rfl | (show _ ∨ _; omega) | omega))) hh27 (by first | exact .inl (by omega) | (right; first | exact rfl | (show _ ∨ _; omega) | omega))) (Nat.le_refl _) (fun h_ => by have e_ : F = ((n_l + 1) + 1) ∨ (F = V ∧ ((n_l + 1) + 1) < V) := h_; omega) (by omega)).app (c := .int .i64 ((i : Nat) : Int)) (by omega) (lS hh27) rfl (by have h_ := flp_len ns i; omega))) rfl (fun tl ⟨hOF2, hkf⟩ => ?_)
     refine rO (o_nilck (eV (z1 (z2 (z4 ds))))) (rO (o_faddr (off := 4) eZ) (r_heap (o_store (n := 1) eZ (eV (z2 ds)) (Keep.look hkf (by omega) (fun h_ => absurd (show ((n_l + 1) + 1) = F ∧ ((n_l + 1) + 1) < F from h_) (by omega)) (lN hh27 (lS hh24))) rfl rfl (leb rfl)) rfl (fun t28 (hh29 : hv t28 = upd (hv tl) ((n_l + 1) + 1) (some (.row [vn, vt, (.int .i64 p), gv_, (.slice (((n20 + 1) + 1) + 1) 0 ((flp ns i).length + 1) ((flp ns i).length + 1) 1 false), .nslice, (.slice (n20 + 1) 0 (i + 1) (i + 1) 1 false), (.slice (n_l + 1) 0 ns.length ns.length 1 true), .nslice, .nslice] true))) => r_nil (k_reg (rO (o_addN (a := i) (b := 1) (eV (z1 (z2 (z16 (z16 q25))))) ev_c (by omega)) (m1 ds (r_nil ?_)))))))
     have hkV := (show Keep ta t28 ((n20 + 1) + 1) (fun b => b = ((n_l + 1) + 1) ∨ (b = F ∧ ((n_l + 1) + 1) < F)) from Keep.upd (Keep.trans (Keep.upd (Keep.upd (Keep.refl ta ((n20 + 1) + 1) _) hh24 (by first | exact .inl (by omega) | (right; first | exact rfl | (show _ ∨ _; omega) | omega))) hh27 (by first | exact .inl (by omega) | (right; first | exact rfl | (show _ ∨ _; omega) | omega))) hkf (by omega) ((fun _ _ h => .inr h))) hh29 (by first | exact .inl (by omega) | (right; first | exact rfl | (show _ ∨ _; omega) | omega)))
     have hOVn : OX t28 ((((n20 + 1) + 1) + 1) + 1) ((n_l + 1) + 1) (n20 + 1) (.slice (n20 + 1) 0 (i + 1) (i + 1) 1 false) (i + 1) (strs (x0 (ns.take (i + 1)))) := by rw [x0_take hx, strs_snoc1]; exact hOV2.keep hkV (Nat.le_refl _) (fun h_ => by have e_ : (n20 + 1) = ((n_l + 1) + 1) ∨ ((n20 + 1) = F ∧ ((n_l + 1) + 1) < F) := h_; omega) (by omega)
     have hkA := (show Keep tv t28 nv (fun b => b = ((n_l + 1) + 1) ∨ (b = V ∧ ((n_l + 1) + 1) < V) ∨ (b = F ∧ ((n_l + 1) + 1) < F)) from Keep.upd (Keep.trans (Keep.upd (Keep.upd (Keep.trans (Keep.upd (Keep.trans (Keep.upd (Keep.upd (Keep.refl tv nv _) hh15 (by first | exact .inl (by omega) | (right; first | exact rfl | (show _ ∨ _; omega) | omega))) hh17 (by first | exact .inl (by omega) | (right; first | exact rfl | (show _ ∨ _; omega) | omega))) hkr18 (by omega) (fun d _ h => h.elim)) hh22 (by first | exact .inl (by omega) | (right; first | exact rfl | (show _ ∨ _; omega) | omega))) hka (by omega) ((fun _ _ h => .inr (.inl h)))) hh24 (by first | exact .inl (by omega) | (right; first | exact rfl | (show _ ∨ _; omega) | omega))) hh27 (by first | exact .inl (by omega) | (right; first | exact rfl | (show _ ∨ _; omega) | omega))) hkf (by omega) ((fun _ _ h => .inr (.inr h)))) hh29 (by first | exact .inl (by omega) | (right; first | exact rfl | (show _ ∨ _; omega) | omega)))
     have hOGn : OX t28 ((((n20 + 1) + 1) + 1) + 1) ((n_l + 1) + 1) G gv_ (gl ns (i + 1)).length (ints (gl ns (i + 1))) := by rw [gl_no hx (by omega)]; exact hOG.keep hkA (Nat.le_refl _) (fun h_ => by have e_ : G = ((n_l + 1) + 1) ∨ (G = V ∧ ((n_l + 1) + 1) < V) ∨ (G = F ∧ ((n_l + 1) + 1) < F) := h_; omega) (by omega)
     have hkfn := (show Keep tl t28 ((((n20 + 1) + 1) + 1) + 1) (fun b => b = ((n_l + 1) + 1)) from Keep.upd (Keep.refl tl ((((n20 + 1) + 1) + 1) + 1) _) hh29 (by first | exact .inl (by omega) | (right; first | exact rfl | (show _ ∨ _; omega) | omega)))
     have hOFn : OX t28 ((((n20 + 1) + 1) + 1) + 1) ((n_l + 1) + 1) (((n20 + 1) + 1) + 1) (.slice (((n20 + 1) + 1) + 1) 0 ((flp ns i).length + 1) ((flp ns i).length + 1) 1 false) (flp ns (i + 1)).length (ints (flp ns (i + 1))) := (hOF2.keep hkfn (Nat.le_refl _) (fun h_ => by have e_ : (((n20 + 1) + 1) + 1) = ((n_l + 1) + 1) := h_; omega) (by omega)).to (by rw [flp_yes hx (by omega)]; simp) (by rw [flp_yes hx (by omega), ints_snoc1])
     exact ⟨ns.length - (i + 1), by omega, i + 1, (n20 + 1), G, (((n20 + 1) + 1) + 1), _, _, _, by omega, ⟨(z1 (z4 (z16 (z16 q1)))), (z1 (z4 (z16 (z16 q3)))), (z1 (z4 (z16 (z16 q5)))), (z1 (z4 (z16 (z16 q23)))), (z1 (z4 (z16 (z16 q24)))), ds⟩, (lS hh29), hOVn, hOGn, hOFn, by omega, by omega, Keep.trans (hkB) (show Keep tv t28 nv (fun b => b = ((n_l + 1) + 1) ∨ (b = V ∧ ((n_l + 1) + 1) < V) ∨ (b = F ∧ ((n_l + 1) + 1) < F)) from hkA) (by omega) (fun b hb h_ => by have e_ : b = ((n_l + 1) + 1) ∨ (b = V ∧ ((n_l + 1) + 1) < V) ∨ (b = F ∧ ((n_l + 1) + 1) < F) := h_; omega), kU (Keep.trans (kU (kU (Keep.trans (kU (Keep.trans (kU (kU (hkv) hh15) hh17) hkr18 (by omega) (fun d _ h => h)) hh22) hka (by omega) ((fun b hb h_ => absurd (show b = V ∧ ((n_l + 1) + 1) < V from h_) (by omega)))) hh24) hh27) hkf (by omega) ((fun b hb h_ => absurd (show b = F ∧ ((n_l + 1) + 1) < F from h_) (by omega)))) hh29, by omega⟩
   refine k_seq (k_reg (rO (o_eql (eV (z2 ds)) ev_c) (m1 ds (r_nil ?_))))
   refine k_if eZ (fun hc30 => ?_) (fun hc30 => ?_)
   · exact absurd (show x.kind = 8 by omega) (h8 x hxm)
   refine k_seq (k_reg (rO (o_eql (eV (z4 ds)) ev_c) (m1 ds (r_nil ?_))))
   refine k_if eZ (fun hc31 => ?_) (fun hc31 => ?_)
   · refine k_skip (k_reg (rO (o_addN (a := i) (b := 1) (eV (z4 (z8 (z16 q25)))) ev_c (by omega)) (m1 ds (r_nil ?_))))
     have hkV := (show Keep ta t23 ((n20 + 1) + 1) (fun b => b = ((n_l + 1) + 1)) from Keep.upd (Keep.refl ta ((n20 + 1) + 1) _) hh24 (by first | exact .inl (by omega) | (right; first | exact rfl | (show _ ∨ _; omega) | omega)))
     have hOVn : OX t23 ((n20 + 1) + 1) ((n_l + 1) + 1) (n20 + 1) (.slice (n20 + 1) 0 (i + 1) (i + 1) 1 false) (i + 1) (strs (x0 (ns.take (i + 1)))) := by rw [x0_take hx, strs_snoc1]; exact hOV2.keep hkV (Nat.le_refl _) (fun h_ => by have e_ : (n20 + 1) = ((n_l + 1) + 1) := h_; omega) (by omega)
     have hkA := (show Keep tv t23 nv (fun b => b = ((n_l + 1) + 1) ∨ (b = V ∧ ((n_l + 1) + 1) < V)) from Keep.upd (Keep.trans (Keep.upd (Keep.trans (Keep.upd (Keep.upd (Keep.refl tv nv _) hh15 (by first | exact .inl (by omega) | (right; first | exact rfl | (show _ ∨ _; omega) | omega))) hh17 (by first | exact .inl (by omega) | (right; first | exact rfl | (show _ ∨ _; omega) | omega))) hkr18 (by omega) (fun d _ h => h.elim)) hh22 (by first | exact .inl (by omega) | (right; first | exact rfl | (show _ ∨ _; omega) | omega))) hka (by omega) ((fun _ _ h => .inr h))) hh24 (by first | exact .inl (by omega) | (right; first | exact rfl | (show _ ∨ _; omega) | omega)))
     have hOGn : OX t23 ((n20 + 1) + 1) ((n_l + 1) + 1) G gv_ (gl ns (i + 1)).length (ints (gl ns (i + 1))) := by rw [gl_no hx (by omega)]; exact hOG.keep hkA (Nat.le_refl _) (fun h_ => by have e_ : G = ((n_l + 1) + 1) ∨ (G = V ∧ ((n_l + 1) + 1) < V) := h_; omega) (by omega)
     have hOFn : OX t23 ((n20 + 1) + 1) ((n_l + 1) + 1) F fv (flp ns (i + 1)).length (ints (flp ns (i + 1))) := by rw [flp_no hx (by omega)]; exact hOF.keep hkA (Nat.le_refl _) (fun h_ => by have e_ : F = ((n_l + 1) + 1) ∨ (F = V ∧ ((n_l + 1) + 1) < V) := h_; omega) (by omega)
     exact ⟨ns.length - (i + 1), by omega, i + 1, (n20 + 1), G, F, _, _, _, by omega, ⟨(z2 (z4 (z8 (z16 q1)))), (z2 (z4 (z8 (z16 q3)))), (z2 (z4 (z8 (z16 q5)))), (z2 (z4 (z8 (z16 q23)))), (z2 (z4 (z8 (z16 q24)))), ds⟩, (lS hh24), hOVn, hOGn, hOFn, by omega, by omega, Keep.trans (hkB) (show Keep tv t23 nv (fun b => b = ((n_l + 1) + 1) ∨ (b = V ∧ ((n_l + 1) + 1) < V)) from hkA) (by omega) (fun b hb h_ => by have e_ : b = ((n_l + 1) + 1) ∨ (b = V ∧ ((n_l + 1) + 1) < V) := h_; omega), kU (Keep.trans (kU (Keep.trans (kU (kU (hkv) hh15) hh17) hkr18 (by omega) (fun d _ h => h)) hh22) hka (by omega) ((fun b hb h_ => absurd (show b = V ∧ ((n_l + 1) + 1) < V from h_) (by omega)))) hh24, by omega⟩
   refine k_reg (m1 (z4 (z8 (z16 q5))) (m1 (z1 (z4 (z8 (z16 q5)))) (rO (o_nilck eZ) (rO (o_faddr (off := 3) eZ) (rO (o_load eZ (lS hh24) rfl) (m1 (z1 (z2 (z8 (z16 ds)))) (r_heap (o_bslice (fill_cons eZ rfl rfl fill_nil)) rfl (fun t32 (hh33 : hv t32 = upd (hv t23) ((n20 + 1) + 1) (some (.row [(.int .i64 ((i : Nat) : Int))] true))) => ?_))))))))
   refine r_heap (o_appE (eV (z2 ds)) eZ ((hOG.keep (nx' := (((n20 + 1) + 1) + 1)) (show Keep tv t32 nv (fun b => b = ((n_l + 1) + 1) ∨ (b = V ∧ ((n_l + 1) + 1) < V)) from Keep.upd (Keep.upd (Keep.trans (Keep.upd (Keep.trans (Keep.upd (Keep.upd (Keep.refl tv nv _) hh15 (by first | exact .inl (by omega) | (right; first | exact rfl | (show _ ∨ _; omega) | omega))) hh17 (by first | exact .inl (by omega) | (right; first | exact rfl | (show _ ∨ _; omega) | omega))) hkr18 (by omega) (fun d _ h => h.elim)) hh22 (by first | exact .inl (by omega) | (right; first | exact rfl | (show _ ∨ _; omega) | omega))) hka (by omega) ((fun _ _ h => .inr h))) hh24 (by first | exact .inl (by omega) | (right; first | exact rfl | (show _ ∨ _; omega) | omega))) hh33 (by first | exact .inl (by omega) | (right; first | exact rfl | (show _ ∨ _; omega) | omega))) (Nat.le_refl _) (fun h_ => by have e_ : G = ((n_l + 1) + 1) ∨ (G = V ∧ ((n_l + 1) + 1) < V) := h_; omega) (by omega)).app (c := .int .i64 ((i : Nat) : Int)) (by omega) (lS hh33) rfl (by have h_ := gl_len ns i; omega))) rfl (fun tl ⟨hOG2, hkg⟩ => ?_)
   refine rO (o_nilck (eV (z1 (z2 (z4 ds))))) (rO (o_faddr (off := 3) eZ) (r_heap (o_store (n := 1) eZ (eV (z2 ds)) (Keep.look hkg (by omega) (fun h_ => absurd (show ((n_l + 1) + 1) = G ∧ ((n_l + 1) + 1) < G from h_) (by omega)) (lN hh33 (lS hh24))) rfl rfl (leb rfl)) rfl (fun t34 (hh35 : hv t34 = upd (hv tl) ((n_l + 1) + 1) (some (.row [vn, vt, (.int .i64 p), (.slice (((n20 + 1) + 1) + 1) 0 ((gl ns i).length + 1) ((gl ns i).length + 1) 1 false), fv, .nslice, (.slice (n20 + 1) 0 (i + 1) (i + 1) 1 false), (.slice (n_l + 1) 0 ns.length ns.length 1 true), .nslice, .nslice] true))) => r_nil (k_reg (rO (o_addN (a := i) (b := 1) (eV (z1 (z2 (z4 (z16 (z16 q25)))))) ev_c (by omega)) (m1 ds (r_nil ?_)))))))
   have hkV := (show Keep ta t34 ((n20 + 1) + 1) (fun b => b = ((n_l + 1) + 1) ∨ (b = G ∧ ((n_l + 1) + 1) < G)) from Keep.upd (Keep.trans (Keep.upd (Keep.upd (Keep.refl ta ((n20 + 1) + 1) _) hh24 (by first | exact .inl (by omega) | (right; first | exact rfl | (show _ ∨ _; omega) | omega))) hh33 (by first | exact .inl (by omega) | (right; first | exact rfl | (show _ ∨ _; omega) | omega))) hkg (by omega) ((fun _ _ h => .inr h))) hh35 (by first | exact .inl (by omega) | (right; first | exact rfl | (show _ ∨ _; omega) | omega)))
   have hOVn : OX t34 ((((n20 + 1) + 1) + 1) + 1) ((n_l + 1) + 1) (n20 + 1) (.slice (n20 + 1) 0 (i + 1) (i + 1) 1 false) (i + 1) (strs (x0 (ns.take (i + 1)))) := by rw [x0_take hx, strs_snoc1]; exact hOV2.keep hkV (Nat.le_refl _) (fun h_ => by have e_ : (n20 + 1) = ((n_l + 1) + 1) ∨ ((n20 + 1) = G ∧ ((n_l + 1) + 1) < G) := h_; omega) (by omega)
   have hkA := (show Keep tv t34 nv (fun b => b = ((n_l + 1) + 1) ∨ (b = V ∧ ((n_l + 1) + 1) < V) ∨ (b = G ∧ ((n_l + 1) + 1) < G)) from Keep.upd (Keep.trans (Keep.upd (Keep.upd (Keep.trans (Keep.upd (Keep.trans (Keep.upd (Keep.upd (Keep.refl tv nv _) hh15 (by first | exact .inl (by omega) | (right; first | exact rfl | (show _ ∨ _; omega) | omega))) hh17 (by first | exact .inl (by omega) | (right; first | exact rfl | (show _ ∨ _; omega) | omega))) hkr18 (by omega) (fun d _ h => h.elim)) hh22 (by first | exact .inl (by omega) | (right; first | exact rfl | (show _ ∨ _; omega) | omega))) hka (by omega) ((fun _ _ h => .inr (.inl h)))) hh24 (by first | exact .inl (by omega) | (right; first | exact rfl | (show _ ∨ _; omega) | omega))) hh33 (by first | exact .inl (by omega) | (right; first | exact rfl | (show _ ∨ _; omega) | omega))) hkg (by omega) ((fun _ _ h => .inr (.inr h)))) hh35 (by first | exact .inl (by omega) | (right; first | exact rfl | (show _ ∨ _; omega) | omega)))
   have hkgn := (show Keep tl t34 ((((n20 + 1) + 1) + 1) + 1) (fun b => b = ((n_l + 1) + 1)) from Keep.upd (Keep.refl tl ((((n20 + 1) + 1) + 1) + 1) _) hh35 (by first | exact .inl (by omega) | (right; first | exact rfl | (show _ ∨ _; omega) | omega)))
   have hOGn : OX t34 ((((n20 + 1) + 1) + 1) + 1) ((n_l + 1) + 1) (((n20 + 1) + 1) + 1) (.slice (((n20 + 1) + 1) + 1) 0 ((gl ns i).length + 1) ((gl ns i).length + 1) 1 false) (gl ns (i + 1)).length (ints (gl ns (i + 1))) := (hOG2.keep hkgn (Nat.le_refl _) (fun h_ => by have e_ : (((n20 + 1) + 1) + 1) = ((n_l + 1) + 1) := h_; omega) (by omega)).to (by rw [gl_yes hx (by omega)]; simp) (by rw [gl_yes hx (by omega), ints_snoc1])
   have hOFn : OX t34 ((((n20 + 1) + 1) + 1) + 1) ((n_l + 1) + 1) F fv (flp ns (i + 1)).length (ints (flp ns (i + 1))) := by rw [flp_no hx (by omega)]; exact hOF.keep hkA (Nat.le_refl _) (fun h_ => by have e_ : F = ((n_l + 1) + 1) ∨ (F = V ∧ ((n_l + 1) + 1) < V) ∨ (F = G ∧ ((n_l + 1) + 1) < G) := h_; omega) (by omega)
   exact ⟨ns.length - (i + 1), by omega, i + 1, (n20 + 1), (((n20 + 1) + 1) + 1), F, _, _, _, by omega, ⟨(z1 (z8 (z16 (z16 q1)))), (z1 (z8 (z16 (z16 q3)))), (z1 (z8 (z16 (z16 q5)))), (z1 (z8 (z16 (z16 q23)))), (z1 (z8 (z16 (z16 q24)))), ds⟩, (lS hh35), hOVn, hOGn, hOFn, by omega, by omega, Keep.trans (hkB) (show Keep tv t34 nv (fun b => b = ((n_l + 1) + 1) ∨ (b = V ∧ ((n_l + 1) + 1) < V) ∨ (b = G ∧ ((n_l + 1) + 1) < G)) from hkA) (by omega) (fun b hb h_ => by have e_ : b = ((n_l + 1) + 1) ∨ (b = V ∧ ((n_l + 1) + 1) < V) ∨ (b = G ∧ ((n_l + 1) + 1) < G) := h_; omega), kU (Keep.trans (kU (kU (Keep.trans (kU (Keep.trans (kU (kU (hkv) hh15) hh17) hkr18 (by omega) (fun d _ h => h)) hh22) hka (by omega) ((fun b hb h_ => absurd (show b = V ∧ ((n_l + 1) + 1) < V from h_) (by omega)))) hh24) hh33) hkg (by omega) ((fun b hb h_ => absurd (show b = G ∧ ((n_l + 1) + 1) < G from h_) (by omega)))) hh35, by omega⟩
 refine k_exit (exK_same (k_seq ?_))
 obtain rfl : i = ns.length := by omega
 rw [List.take_of_length_le (Nat.le_refl _)] at hOV
 rcases hOV.v with ⟨-, -, h_, -⟩ | ⟨hve, hVr, hVb⟩
 · omega
 subst hve
 have hb0 := hkB.look (by omega) id (lN hh12 (lN hh10 (lN hh8 (lN hh6 (Keep.look hk_l (by omega) id (lS hh2))))))
 have hb1 := hkB.look (by omega) id (lN hh12 (lN hh10 (lS hh8)))
 have hbw := hkB.look (by omega) id (lN hh12 (lS hh10))
 have hbl := hkB.look (by omega) id (lN hh12 (lN hh10 (lN hh8 (lN hh6 hrl))))
 refine k_reg (m1 (z1 q5) (m1 (z2 q5) (rO (o_nilck eZ) (rO (o_faddr (off := 6) eZ) (rO (o_load eZ hRv rfl) (r_call (w_callF (evs_cons eZ evs_nil)) rfl (WF.mono (clone_ok hVr (by simp [x0]) (by omega) (by omega) (by omega)) ?_)))))))
 rintro _ t36 n37 ⟨c0, rfl, hc1, hc2, hc0, hn_c, hk_c⟩
 refine rO (o_nilck (eV (z1 (z4 ds)))) (rO (o_faddr (off := 8) eZ) (r_heap (o_store (n := 1) eZ (eV (z2 ds)) (Keep.look hk_c (by omega) id hRv) rfl rfl (leb rfl)) rfl (fun t38 (hh39 : hv t38 = upd (hv t36) ((n_l + 1) + 1) (some (.row [vn, vt, (.int .i64 p), gv_, fv, .nslice, (.slice V 0 ns.length ns.length 1 false), (.slice (n_l + 1) 0 ns.length ns.length 1 true), (.slice c0 0 ns.length ns.length 1 false), .nslice] true))) => r_nil (k_seq ?_))))
 refine k_cut (fun Tc tc nc => ∃ (gs : List Int), gs.Perm (gl ns ns.length) ∧ Ord ns gs ∧ OX tc nc ((n_l + 1) + 1) G gv_ gs.length (ints gs) ∧ OX tc nc ((n_l + 1) + 1) F fv (flp ns ns.length).length (ints (flp ns ns.length)) ∧ hv tc ((n_l + 1) + 1) = some (.row [vn, vt, (.int .i64 p), gv_, fv, .nslice, (.slice V 0 ns.length ns.length 1 false), (.slice (n_l + 1) 0 ns.length ns.length 1 true), (.slice c0 0 ns.length ns.length 1 false), .nslice] true) ∧ hv tc V = some (.row (strs (x0 ns)) true) ∧ hv tc (n_l + 1) = some (.row (repl [AV.str []] ns.length) true) ∧ hv tc nx = some (.row [vn, vt, (.int .i64 p)] true) ∧ (Tc.get 1 = some (.ptr nx 0) ∧ Tc.get 5 = some (.ptr ((n_l + 1) + 1) 0)) ∧ V < nc ∧ Keep t tc nx (fun _ => False)) ?_ ?_
 · rcases hOG.v with ⟨hge, hgn, hgn2, hgd⟩ | ⟨hge, hgr, hgd⟩
   · have hg0 : gl ns ns.length = [] := List.eq_nil_of_length_eq_zero hgn2
     subst hge
     refine k_reg (m1 (z2 (z8 q5)) (rO (o_nilck eZ) (rO (o_faddr (off := 3) eZ) (rO (o_load eZ (lS hh39) rfl) (rO (o_mkfn evs_nil (evs_cons (eV (z2 (z4 (z8 q3)))) evs_nil)) (r_call (w_callF (evs_cons (eV (z1 ds)) (evs_cons eZ evs_nil))) rfl (WF.mono (ssfn_ok) ?_)))))))
     rintro _ t40 n41 ⟨rfl, hn_s, hk_s⟩
     refine r_nil ?_
     exact ⟨[], by rw [hg0], ⟨fun _ => 0, fun i j a b _ ha => by simp at ha, fun i x hx hg => by have h_ := (gl_mem ns ns.length (i : Int)).2 ⟨by have := (List.getElem?_eq_some_iff.1 hx).1; omega, by rw [show ((i : Nat) : Int).toNat = i by omega, ndAt_at hx]; exact hg⟩; rw [hg0] at h_; cases h_⟩, ⟨by omega, .inl ⟨rfl, rfl, rfl, hgd⟩, rfl⟩, hOF.keep (show Keep tv t40 nv (fun b => b = ((n_l + 1) + 1) ∨ b = G ∧ ((n_l + 1) + 1) < G) from Keep.trans (Keep.upd (Keep.trans (Keep.refl tv nv _) hk_c (by omega) (fun d _ h => h.elim)) hh39 (by first | exact .inl (by omega) | (right; first | exact rfl | (show _ ∨ _; omega) | omega))) hk_s (by omega) ((fun _ _ h => h.elim))) (by omega) (fun h_ => by have e_ : F = ((n_l + 1) + 1) ∨ F = G ∧ ((n_l + 1) + 1) < G := h_; omega) (by omega), (Keep.look hk_s (by omega) id (lS hh39)), (Keep.look hk_s (by omega) id (lN hh39 (Keep.look hk_c (by omega) id hVr))), (Keep.look hk_s (by omega) id (lN hh39 (Keep.look hk_c (by omega) id hbw))), (Keep.look hk_s (by omega) id (lN hh39 (Keep.look hk_c (by omega) id hb0))), ⟨(z16 q1), (z16 q5)⟩, by omega, Keep.trans (kU (Keep.trans (hkv) hk_c (by omega) (fun d _ h => h)) hh39) hk_s (by omega) ((fun _ _ h => h.elim))⟩
   subst hge
   refine k_reg (m1 (z2 (z8 q5)) (rO (o_nilck eZ) (rO (o_faddr (off := 3) eZ) (rO (o_load eZ (lS hh39) rfl) (rO (o_mkfn evs_nil (evs_cons (eV (z2 (z4 (z8 q3)))) evs_nil)) ?_)))))
   have hcm : CmpOK t38 n37 G (fun z => 0 ≤ z ∧ z < (ns.length : Int)) (lvK L) (.func 107 [] [.ptr n_l 0]) := ⟨_, _, _, rfl, fun a b t2 nx2 ha hb hn2 hk2 => cmpl_ok (hk2.look (by omega) (fun h_ => absurd (show n_l = G from h_) (by omega)) (lN hh39 (Keep.look hk_c (by omega) id hb1))) (hk2.look (by omega) (fun h_ => absurd (show dl = G from h_) (by omega)) (lN hh39 (Keep.look hk_c (by omega) id hbl))) hup.1 ha hb⟩
   refine r_call (w_callF (evs_cons (eV (z1 ds)) (evs_cons eZ evs_nil))) rfl (WF.mono (ssf_ok (n := (gl ns ns.length).length) rfl (lN hh39 (Keep.look hk_c (by omega) id hgr)) (by omega) (by have h_ := gl_len ns ns.length; omega) hcm (Nat.le_refl _) (by omega) kR (fun z hz => ((gl_mem ns ns.length z).1 hz).1) (by have h_ := gl_len ns ns.length; omega)) ?_)
   rintro _ t42 n43 ⟨l2, rfl, hl2, hr2, hsg2, hso2, hn_s, hk_s⟩
   refine r_nil ?_
   exact ⟨l2, hsg2.perm, ord_of hL.g hup (by rw [hl2]; exact hso2), ⟨by omega, .inr ⟨by rw [hl2], hr2, hgd⟩, by rw [ints_len]⟩, hOF.keep (show Keep tv t42 nv (fun b => b = ((n_l + 1) + 1) ∨ b = G ∧ ((n_l + 1) + 1) < G) from Keep.trans (Keep.upd (Keep.trans (Keep.refl tv nv _) hk_c (by omega) (fun d _ h => h.elim)) hh39 (by first | exact .inl (by omega) | (right; first | exact rfl | (show _ ∨ _; omega) | omega))) hk_s (by omega) ((fun b hb h_ => by have e_ : b = G := h_; exact .inr ⟨e_, by omega⟩))) (by omega) (fun h_ => by have e_ : F = ((n_l + 1) + 1) ∨ F = G ∧ ((n_l + 1) + 1) < G := h_; omega) (by omega), (Keep.look hk_s (by omega) (fun h_ => absurd (show ((n_l + 1) + 1) = G from h_) (by omega)) (lS hh39)), (Keep.look hk_s (by omega) (fun h_ => absurd (show V = G from h_) (by omega)) (lN hh39 (Keep.look hk_c (by omega) id hVr))), (Keep.look hk_s (by omega) (fun h_ => absurd (show (n_l + 1) = G from h_) (by omega)) (lN hh39 (Keep.look hk_c (by omega) id hbw))), (Keep.look hk_s (by omega) (fun h_ => absurd (show nx = G from h_) (by omega)) (lN hh39 (Keep.look hk_c (by omega) id hb0))), ⟨(z16 q1), (z16 q5)⟩, by omega, Keep.trans (kU (Keep.trans (hkv) hk_c (by omega) (fun d _ h => h)) hh39) hk_s (by omega) ((fun b hb h_ => by have e_ : b = G := h_; omega))⟩
 rintro Tc tc nc ⟨gs, hpm, hord, hOGc, hOFc, hRc, hVc, hWc, hBc, ⟨qc1, qc5⟩, hVnc, hkc⟩
 have hogl := hOGc.lt; have hofl := hOFc.lt
 obtain ⟨hGsOK, hGall, hGl⟩ := gl_OK hpm
 have hfpl := flp_len ns ns.length
 rw [strs_repl] at hWc
 have hSc : SR tc nc nx ((n_l + 1) + 1) V (n_l + 1) vn vt p gv_ fv (.slice c0 0 ns.length ns.length 1 false) ns.length (x0 ns) (List.replicate ns.length []) := ⟨hRc, hVc, hWc, by omega, ⟨by simp [x0], by simp⟩⟩
 have hLc := hL.keep hkc (by omega) (fun _ _ h => h)
 have hgc := hOGc.il (V := V) (by omega)
 have hfc := hOFc.il (V := V) (by omega)
 have hx0 := x0_good hL.g
 refine k_seq (k_reg (m1 qc5 (r_call (w_callF (evs_cons eZ evs_nil)) rfl (WF.mono (follow_ok hSc (hLc.up hb) hgc hGsOK (by omega) hx0) ?_))))
 rintro _ t44 n45 ⟨rfl, hSf, hVIf, hn_f, hk_f⟩
 obtain ⟨v1, hv1⟩ : ∃ z, z = followL ns gs (x0 ns) := ⟨_, rfl⟩
 rw [← hv1] at hSf hVIf
 have hLf := hLc.keep hk_f (by omega) (fun b hb_ h_ => by have e_ : b = V := h_; omega)
 have hgf := hgc.keep hk_f (Nat.le_refl _) (fun b h_ => .inl h_) hn_f
 have hff := hfc.keep hk_f (Nat.le_refl _) (fun b h_ => .inl h_) hn_f
 refine r_nil (k_seq (k_seq (k_reg (m1 (z2 qc5) (rO (o_nilck eZ) (rO (o_faddr (off := 4) eZ) (rO (o_load eZ hSf.hR rfl) (rO (o_len_IL hff eZ) (rO (o_mov ev_c) (r_nil (k_block (k_loop (fun mm Tz tz nz => ∃ (q : Nat), q ≤ (flp ns ns.length).length ∧ SR tz nz nx ((n_l + 1) + 1) V (n_l + 1) vn vt p gv_ fv (.slice c0 0 ns.length ns.length 1 false) ns.length v1 (wasL ns v1 ((flp ns ns.length).take q)) ∧ NR tz bd vn vt ns ts ∧ IL tz ((n_l + 1) + 1) nz V gv_ gs ∧ IL tz ((n_l + 1) + 1) nz V fv (flp ns ns.length) ∧ hv tz nx = some (.row [vn, vt, (.int .i64 p)] true) ∧ (Tz.get 1 = some (.ptr nx 0) ∧ Tz.get 5 = some (.ptr ((n_l + 1) + 1) 0) ∧ Tz.get 100 = some fv ∧ Tz.get 101 = some (.int .i64 (((flp ns ns.length).length : Nat) : Int)) ∧ Tz.get 102 = some (.int .i64 ((q : Nat) : Int))) ∧ nx < nz ∧ Keep t tz nx (fun _ => False) ∧ mm + q = (flp ns ns.length).length) (fun mm Tz tz nz hI => ?_) ((flp ns ns.length).length) ⟨0, by omega, hSf.keep (show Keep t44 t44 n45 (fun b => False) from Keep.refl t44 n45 _) (Nat.le_refl _) (fun _ h => h.elim) (by omega), hLf.keep (show Keep t44 t44 n45 (fun b => False) from Keep.refl t44 n45 _) (by omega) (fun _ _ h => h), hgf.keep (show Keep t44 t44 n45 (fun b => False) from Keep.refl t44 n45 _) (Nat.le_refl _) (fun _ h => h.elim) (by omega), hff.keep (show Keep t44 t44 n45 (fun b => False) from Keep.refl t44 n45 _) (Nat.le_refl _) (fun _ h => h.elim) (by omega), (Keep.look hk_f (by omega) (fun h_ => absurd (show nx = V from h_) (by omega)) hBc), ⟨(z8 qc1), (z8 qc5), (z2 ds), (z1 ds), ds⟩, by omega, Keep.trans (hkc) hk_f (by omega) ((fun b hb h_ => absurd (show b = V from h_) (by omega))), by omega⟩))))))))))))
 obtain ⟨q, hq, hSz, hLz, hgz, hfz, hBz, ⟨qz1, qz5, qz100, qz101, qz102⟩, hnz, hkz, hmz⟩ := hI
 have hsz := hSz.hs; have hnz_ := hSz.hn
 refine k_seq (k_reg (rO (o_lss (eV qz102) (eV qz101)) (r_nil (k_seq ?_))))
 refine k_if eZ (fun hc46 => ?_) (fun hc46 => ?_)
 · refine k_skip (k_seq (k_block (k_seq ?_)))
   obtain ⟨k, hk⟩ := some_at (l := (flp ns ns.length)) (i := q) (by omega)
   have hkm := List.mem_of_getElem? hk
   obtain ⟨Z, hZe, hZr, hZ1, hZ2, hZ3⟩ := hfz.at_ hk
   obtain ⟨hk0, x, hx, hx7⟩ := flp_OK k hkm
   have hkl : k.toNat < ns.length := (List.getElem?_eq_some_iff.1 hx).1
   have hxm := List.mem_of_getElem? hx
   obtain ⟨dN, oN, cN, exN, wrN, rN, iv, hNe, hNd, hNr, hNl, hNg, hI, hic⟩ := RowN.at hLz.hN hx
   obtain ⟨c, d, hins, hcr_, hdr_, hwd⟩ := flip_ins hL.g hxm hx7
   have hi0 := insAt0 hx hins
   have hvl1 := hVIf.len
   obtain ⟨dI, oI, cI, exI, wrI, rI, hIe, hId, hIr, hIg⟩ := RowI.at (i := 0) hI (by rw [hins]; rfl)
   have hil : x.ins.length = 2 := by rw [hins]; rfl
   refine k_reg (rO (o_iaddrE (i := q) (eV (z1 qz100)) hZe (eV (z1 qz102)) (by omega)) ?_)
   refine rO (o_load eZ hZr (by simp only [Nat.zero_add, Nat.mul_one]; exact ints_get hk)) ?_
   refine m1 ds (r_nil (k_draw (eO 0 rfl (o_mov (eV (z4 qz5))) (eO 1 rfl (o_nilck eZ) (eO 2 rfl (o_faddr (off := 7) eZ) (eO 3 rfl (o_load eZ hSz.hR rfl) (eO 4 rfl (o_mov (eV (z4 ds))) (eO 5 rfl (o_mov (eV (z1 (z8 qz5)))) (eO 6 rfl (o_nilck eZ) (eO 7 rfl (o_faddr (off := 6) eZ) (eO 8 rfl (o_load eZ hSz.hR rfl) (eO 9 rfl (o_faddr (off := 0) (eV (z1 (z4 (z8 qz1))))) (eO 10 rfl (o_load eZ hBz rfl) (eO 11 rfl (o_mov (eV (z1 (z2 (z8 ds))))) (eO 12 rfl (o_iaddrE (i := k.toNat) (eV (z1 ds)) hNe (ev_cast eZ (by omega)) (by omega)) (eO 13 rfl (o_faddr (off := 3) eZ) (eO 14 rfl (o_load eZ hNr (node_at hNg rfl)) (eO 15 rfl (o_iaddrE (i := 0) eZ hIe ev_c (by omega)) (eO 16 rfl (o_load eZ hIr hIg) (eO 17 rfl (o_iaddr (i := c.toNat) (eV (z8 ds)) (ev_cast eZ (by omega)) (by omega)) ?_))))))))))))))))))))
   refine eO 18 rfl (o_load eZ hSz.hV (by rw [show 0 + c.toNat * 1 = c.toNat by omega]; exact strs_get (gv_at (by omega)))) ?_
   refine eO 19 rfl (o_iaddr (i := k.toNat) (eV (z1 (z2 (z4 (z8 ds))))) (ev_cast (eV (z2 (z4 (z8 ds)))) (by omega)) (by omega)) ?_
   refine d_heap (ix := 20) (pr := [19, 18, 0, 1, 2, 3, 4, 5, 6, 7, 8, 9, 10, 11, 12, 13, 14, 15, 16, 17, 18]) (d := none) (g := none) (F' := []) (o := (.store 1 (.t 125) (.t 124))) (o_storeS (l := (wasL ns v1 ((flp ns ns.length).take q))) (o := 0 + k.toNat * 1) eZ (eV (z1 ds)) hSz.hW (by omega)) rfl (by kernel_rfl) (by kernel_rfl) (by kernel_rfl) (by kernel_rfl) (fun tw_ hw_ => ⟨?_, ?_⟩)
   · exact all_nil_
   refine e_done (k_reg (rO (o_addN (a := q) (b := 1) (eV (z1 (z8 (z16 qz102)))) ev_c (by omega)) (m1 ds (r_nil ?_))))
   have hk5 := (show Keep tz tw_ nz (fun b => b = (n_l + 1)) from Keep.upd (Keep.refl tz nz _) hw_ (by first | exact .inl (by omega) | (right; first | exact rfl | (show _ ∨ _; omega) | omega)))
   have hwz : hv tw_ (n_l + 1) = some (.row (strs (wasL ns v1 ((flp ns ns.length).take (q + 1)))) true) := by rw [wasL_take hk]; unfold was1; rw [hi0]; have h_ := (lS hw_); rw [show 0 + k.toNat * 1 = k.toNat by omega] at h_; exact h_
   exact ⟨(flp ns ns.length).length - (q + 1), by omega, q + 1, by omega, ⟨(lN hw_ hSz.hR), (lN hw_ hSz.hV), hwz, by omega, ⟨hnz_.1, by unfold wasL; rw [was_len]; simp⟩⟩, hLz.keep hk5 (by omega) (fun b hb_ h_ => by have e_ : b = (n_l + 1) := h_; omega), hgz.keep hk5 (Nat.le_refl _) (fun b h_ => by have e_ : b = (n_l + 1) := h_; omega) (by omega), hfz.keep hk5 (Nat.le_refl _) (fun b h_ => by have e_ : b = (n_l + 1) := h_; omega) (by omega), (lN hw_ hBz), ⟨(z1 (z2 (z8 (z16 qz1)))), (z1 (z2 (z8 (z16 qz5)))), (z1 (z2 (z8 (z16 qz100)))), (z1 (z2 (z8 (z16 qz101)))), ds⟩, by omega, kU (hkz) hw_, by omega⟩
 refine k_exit (exK_same (k_seq (k_reg (m1 (z1 qz5) (m1 ds (r_nil (k_ret ?_)))))))
 rw [show q = (flp ns ns.length).length by omega, List.take_length] at hSz
 exact ⟨_, ans_tmp ds, _, _, _, _, _, _, gs, v1, rfl, hv1, hSz, hgz, hfz, rfl, hpm, hord, hVIf, by omega, hkz⟩
end
end Go.Proofs.YtpjohgnhmjceiaaGreatDoor.WX
