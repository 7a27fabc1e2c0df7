/- The program's functions in the evaluator's terms: part.Run: what each of them answers, whatever comes in.
   Conditions: those of each theorem. -/
import Derived.Test.YtpjohgnhmjceiaaGreatDoorWx3
set_option linter.all false
set_option linter.unusedVariables false
set_option linter.unusedSectionVars false
set_option maxRecDepth 100000
open Go Go.Proofs.YtpjohgnhmjceiaaGreatDoor.AX Go.Proofs
namespace Go.Proofs.YtpjohgnhmjceiaaGreatDoor.WX
variable [Env]
/-! ### Groups of nodes -/
/-- A forest: g l k is what stands for k, or nearer to it; R k stands for all of k's group; d falls on the way. -/
structure UF (n : Nat) (l : List Int) (R d : Nat → Nat) : Prop where
 len : l.length = n
 at_ : ∀ k, k < n → ∃ m : Nat, g l k = (m : Int) ∧ m < n ∧ R m = R k ∧ (m = k → R k = k ∧ d k = 0) ∧ (m ≠ k → d m < d k)
 rt : ∀ k, k < n → R k < n ∧ g l (R k) = (R k : Int)
theorem UF.start (n : Nat) (l : List Int) (hl : l.length = n) (h : ∀ k, k < n → g l k = (k : Int)) : UF n l id (fun _ => 0) :=
 ⟨hl, fun k hk => ⟨k, h k hk, hk, rfl, fun _ => ⟨rfl, rfl⟩, fun e => absurd rfl e⟩, fun k hk => ⟨hk, h k hk⟩⟩
theorem UF.short {n : Nat} {l : List Int} {R d : Nat → Nat} (h : UF n l R d) {k m m2 : Nat} (hk : k < n) (hm : m < n) (e1 : g l k = (m : Int)) (e2 : g l m = (m2 : Int)) (hne : m ≠ k) : UF n (l.set k (m2 : Int)) R d ∧ d m2 < d k ∧ R m2 = R k ∧ m2 < n := by
 obtain ⟨a, a1, a2, a3, a4, a5⟩ := h.at_ k hk
 have ea : a = m := by omega
 subst ea
 obtain ⟨b, b1, b2, b3, b4, b5⟩ := h.at_ a hm
 have eb : b = m2 := by omega
 subst eb
 have hdk : d b < d k := by
   have := a5 hne
   by_cases e : b = a
   · rw [e]; exact this
   · have := b5 e; omega
 have hl := h.len
 refine ⟨⟨by simp [hl], fun j hj => ?_, fun j hj => ?_⟩, hdk, b3.trans a3, b2⟩
 · rw [g_set]
   by_cases e : k = j
   · subst e
     rw [if_pos ⟨rfl, by omega⟩]
     exact ⟨b, rfl, b2, b3.trans a3, fun e => by rw [e] at hdk; omega, fun _ => hdk⟩
   · rw [if_neg (fun e' => e e'.1)]; exact h.at_ j hj
 · obtain ⟨r1, r2⟩ := h.rt j hj
   refine ⟨r1, ?_⟩
   rw [g_set]
   by_cases e : k = R j
   · rw [← e] at r2; omega
   · rw [if_neg (fun e' => e e'.1)]; exact r2
theorem UF.root {n : Nat} {l : List Int} {R d : Nat → Nat} (h : UF n l R d) {k : Nat} (hk : k < n) (e : g l k = (k : Int)) : R k = k := by
 obtain ⟨a, a1, a2, a3, a4, a5⟩ := h.at_ k hk
 exact (a4 (by omega)).1
theorem UF.join {n : Nat} {l : List Int} {R d : Nat → Nat} (h : UF n l R d) {i k : Nat} (hi : i < n) (hk : k < n) : ∃ R' d', UF n (l.set (R i) ((R k : Nat) : Int)) R' d' := by
 obtain ⟨ha, ea⟩ := h.rt i hi
 obtain ⟨hb, eb⟩ := h.rt k hk
 have ra := h.root ha ea
 have rb := h.root hb eb
 have hl := h.len
 by_cases hab : R i = R k
 · refine ⟨R, d, by simp [hl], fun j hj => ?_, fun j hj => ?_⟩
   · have : g (l.set (R i) ((R k : Nat) : Int)) j = g l j := by
       rw [g_set]
       by_cases e : R i = j
       · rw [if_pos ⟨e, by omega⟩, ← e, ea, hab]
       · rw [if_neg (fun e' => e e'.1)]
     rw [this]; exact h.at_ j hj
   · obtain ⟨r1, r2⟩ := h.rt j hj
     refine ⟨r1, ?_⟩
     rw [g_set]
     by_cases e : R i = R j
     · rw [if_pos ⟨e, by omega⟩, ← e, hab]
     · rw [if_neg (fun e' => e e'.1)]; exact r2
 · have db : d (R k) = 0 := by
     obtain ⟨b, b1, b2, b3, b4, b5⟩ := h.at_ (R k) hb
     exact (b4 (by omega)).2
   refine ⟨fun j => if R j = R i then R k else R j, fun j => if R j = R i then d j + 1 else d j, by simp [hl], fun j hj => ?_, fun j hj => ?_⟩
   · rw [g_set]
     by_cases e : R i = j
     · subst e
       rw [if_pos ⟨rfl, by omega⟩, ra, if_pos rfl, if_pos rfl]
       refine ⟨R k, rfl, hb, ?_, fun e => absurd e.symm hab, fun _ => ?_⟩
       · rw [rb, if_neg (fun e => hab e.symm)]
       · rw [rb, if_neg (fun e => hab e.symm), db]; omega
     · rw [if_neg (fun e' => e e'.1)]
       obtain ⟨m, m1, m2, m3, m4, m5⟩ := h.at_ j hj
       refine ⟨m, m1, m2, by rw [m3], fun e' => ?_, fun e' => ?_⟩
       · obtain ⟨q1, q2⟩ := m4 e'
         have : ¬ R j = R i := by rw [q1]; exact fun e2 => e e2.symm
         rw [if_neg this, if_neg this]; exact ⟨q1, q2⟩
       · have := m5 e'
         rw [m3]
         by_cases hr : R j = R i
         · rw [if_pos hr, if_pos hr]; omega
         · rw [if_neg hr, if_neg hr]; exact this
   · by_cases hr : R j = R i
     · rw [if_pos hr]
       exact ⟨hb, by rw [g_set, if_neg (fun e => hab e.1)]; exact eb⟩
     · rw [if_neg hr]
       obtain ⟨r1, r2⟩ := h.rt j hj
       exact ⟨r1, by rw [g_set, if_neg (fun e => hr e.1.symm)]; exact r2⟩
/-! ### Rows of rows -/
def RowM (t : TB) (bd : Nat) (v : AV) (A : List (List Int)) : Prop :=
 (v = .nslice ∧ A = []) ∨ ∃ (d o c : Nat) (ex wr : Bool) (r ivs : List AV), v = .slice d o A.length c 1 ex ∧ d < bd ∧ hv t d = some (.row r wr) ∧ o + A.length ≤ r.length ∧ (r.drop o).take A.length = ivs ∧ ivs.length = A.length ∧
   ∀ (i : Nat) (l : List Int) (iv : AV), A[i]? = some l → ivs[i]? = some iv → RowI t bd iv l
theorem RowM.keep {t t' : TB} {bd bd' : Nat} {v : AV} {A : List (List Int)} (h : RowM t bd v A) (k : Keep t t' bd (fun _ => False)) (hb : bd ≤ bd') : RowM t' bd' v A := by
 rcases h with h | ⟨d, o, c, ex, wr, r, ivs, h1, h2, h3, h4, h5, h6, h7⟩
 · exact .inl h
 · exact .inr ⟨d, o, c, ex, wr, r, ivs, h1, by omega, (k d h2 id).trans h3, h4, h5, h6, fun i x iv e1 e2 => (h7 i x iv e1 e2).keep k hb⟩
/-- So many numbers of a list are above 0. -/
def pos (l : List Int) : Nat := l.countP (fun x => decide (0 < x))
def tot (A : List (List Int)) : Nat := (A.map pos).sum
theorem pos_take {l : List Int} {j : Nat} {x : Int} (h : l[j]? = some x) : pos (l.take (j + 1)) = pos (l.take j) + (if 0 < x then 1 else 0) := by
 obtain ⟨hj, rfl⟩ := List.getElem?_eq_some_iff.1 h
 unfold pos
 rw [List.take_succ_eq_append_getElem hj, List.countP_append]
 simp [List.countP_cons]
theorem tot_take {A : List (List Int)} {i : Nat} {l : List Int} (h : A[i]? = some l) : tot (A.take (i + 1)) = tot (A.take i) + pos l := by
 obtain ⟨hi, rfl⟩ := List.getElem?_eq_some_iff.1 h
 unfold tot
 rw [List.take_succ_eq_append_getElem hi, List.map_append, List.sum_append]
 show _ + (pos A[i] + 0) = _
 omega
theorem pos_le (l : List Int) : pos l ≤ l.length := List.countP_le_length
theorem tot_le {A : List (List Int)} {w : Nat} (h : ∀ l ∈ A, l.length ≤ w) : tot A ≤ A.length * w := by
 induction A with
 | nil => simp [tot]
 | cons l A ih =>
   have h1 := ih (fun x hx => h x (by simp [hx]))
   have h2 := pos_le l
   have h3 := h l (by simp)
   unfold tot at h1 ⊢
   rw [List.map_cons, List.sum_cons, List.length_cons, Nat.succ_mul]
   omega
/-! ### Picks -/
def qcells (p : Int × Int) : List AV := [.int .i64 p.1, .int .i64 p.2]
def flatQ (ps : List (Int × Int)) : List AV := ps.flatMap qcells
def RowQ (t : TB) (lo bd : Nat) (v : AV) (ps : List (Int × Int)) : Prop := (v = .nslice ∧ ps = []) ∨ ∃ d, v = .slice d 0 ps.length ps.length 2 false ∧ lo ≤ d ∧ d < bd ∧ hv t d = some (.row (flatQ ps) true)
theorem flatQ_len (ps : List (Int × Int)) : (flatQ ps).length = ps.length * 2 := by
 induction ps with
 | nil => rfl
 | cons p ps ih => show (qcells p ++ flatQ ps).length = _; rw [List.length_append, ih]; simp [qcells]; omega
theorem flatQ_snoc (ps : List (Int × Int)) (p : Int × Int) : flatQ ps ++ qcells p = flatQ (ps ++ [p]) := by simp [flatQ]
theorem flatQ_get : ∀ {ps : List (Int × Int)} {i : Nat} {p : Int × Int}, ps[i]? = some p → ((flatQ ps).drop (i * 2)).take 2 = qcells p
 | [], i, p, h => by simp at h
 | q :: ps, 0, p, h => by simp at h; subst h; show ((qcells q ++ flatQ ps).drop (0 * 2)).take 2 = _; simp [qcells]
 | q :: ps, i + 1, p, h => by
   have := flatQ_get (ps := ps) (i := i) (p := p) (by simpa using h)
   show ((qcells q ++ flatQ ps).drop ((i + 1) * 2)).take 2 = _
   rw [show (i + 1) * 2 = 2 + i * 2 by omega, ← List.drop_drop]
   rw [show (qcells q ++ flatQ ps).drop 2 = flatQ ps from by simp [qcells]]
   exact this
theorem RowQ.keep {t t' : TB} {lo bd bd' : Nat} {v : AV} {ps : List (Int × Int)} (h : RowQ t lo bd v ps) (k : ∀ d, lo ≤ d → d < bd → hv t' d = hv t d) (hb : bd ≤ bd') : RowQ t' lo bd' v ps := by
 rcases h with h | ⟨d, h1, h2, h3, h4⟩
 · exact .inl h
 · exact .inr ⟨d, h1, h2, by omega, (k d h2 h3).trans h4⟩
theorem o_len_Q {T : TA} {t t0 : TB} {nx lo bd : Nat} {v : AV} {ps : List (Int × Int)} {x : Opd} (h : RowQ t0 lo bd v ps) (hx : x.ev T = some v) : (IOp.len .slc x).run T t nx = .ok (.int .i64 ((ps.length : Nat) : Int)) t nx := by
 rcases h with ⟨rfl, rfl⟩ | ⟨d, rfl, -⟩
 · exact o_len_nslice hx
 · exact o_len_slice hx
theorem o_len_M {T : TA} {t t0 : TB} {nx bd : Nat} {v : AV} {A : List (List Int)} {x : Opd} (h : RowM t0 bd v A) (hx : x.ev T = some v) : (IOp.len .slc x).run T t nx = .ok (.int .i64 ((A.length : Nat) : Int)) t nx := by
 rcases h with ⟨rfl, rfl⟩ | ⟨d, o, c, ex, wr, r, ivs, rfl, -⟩
 · exact o_len_nslice hx
 · exact o_len_slice hx
/-- One more behind a list that is its own. -/
theorem app_own {t : TB} {nx sz lo bd n e : Nat} {v : AV} {l cs : List AV} {ex : Bool} (h : (v = .nslice ∧ l = [] ∧ n = 0) ∨ ∃ d, v = .slice d 0 n n sz false ∧ lo ≤ d ∧ d < bd ∧ hv t d = some (.row l true)) (hl : l.length = n * sz) (hlo : lo ≤ nx) (he : hv t e = some (.row cs true)) (hc : allCell cs = true) (hcs : cs.length = sz) (hs : (n + 1) * sz ≤ 65536) :
   ∃ t', appendA sz v (.slice e 0 1 1 sz ex) t nx = .ok (.slice nx 0 (n + 1) (n + 1) sz false) t' (nx + 1) ∧ (hv t' nx = some (.row (l ++ cs) true) ∧ Keep t t' nx (fun b => lo ≤ b)) := by
 have hsrc : srcCells (.slice e 0 1 1 sz ex) 1 sz t = some cs := by
   rw [src_row (k := 1) he (by omega), Nat.one_mul]
   congr 1
   exact whole hcs
 rcases h with ⟨rfl, rfl, rfl⟩ | ⟨d, rfl, hd0, hd, hr⟩
 · obtain ⟨t', h1, h2⟩ := app_nil (t := t) (nx := nx) (sz := sz) (k := 1) (cs := cs) rfl hsrc hc (by decide) (by omega)
   exact ⟨t', h1, by rw [h2, upd_same]; rfl, Keep.upd kR h2 (.inl (Nat.le_refl _))⟩
 · obtain ⟨t', h1, t1, h2, h3⟩ := app_new_f (t := t) (nx := nx) (sz := sz) (k := 1) (cs := cs) (o := 0) (n := n) (c := n) rfl hsrc hc hr (by omega) (by omega) hs
   have e1 : (l.drop 0).take (n * sz) ++ cs = l ++ cs := by rw [whole hl]
   rw [e1] at h3
   exact ⟨t', h1, by rw [h3, upd_same], Keep.upd (Keep.upd kR h2 (.inr hd0)) h3 (.inl (Nat.le_refl _))⟩
theorem app_Q {t : TB} {nx lo bd e : Nat} {v : AV} {ps : List (Int × Int)} {p : Int × Int} {ex : Bool} (h : RowQ t lo bd v ps) (hlo : lo ≤ nx) (he : hv t e = some (.row (qcells p) true)) (hs : (ps.length + 1) * 2 ≤ 65536) :
   ∃ t', appendA 2 v (.slice e 0 1 1 2 ex) t nx = .ok (.slice nx 0 (ps.length + 1) (ps.length + 1) 2 false) t' (nx + 1) ∧ (RowQ t' lo (nx + 1) (.slice nx 0 (ps.length + 1) (ps.length + 1) 2 false) (ps ++ [p]) ∧ Keep t t' nx (fun b => lo ≤ b)) := by
 obtain ⟨t', h1, h2, h3⟩ := app_own (t := t) (nx := nx) (sz := 2) (n := ps.length) (v := v) (l := flatQ ps) (cs := qcells p) (e := e) (ex := ex) (lo := lo) (bd := bd) (by
   rcases h with ⟨rfl, rfl⟩ | ⟨d, h⟩
   · exact .inl ⟨rfl, rfl, rfl⟩
   · exact .inr ⟨d, h⟩) (flatQ_len _) hlo he rfl rfl hs
 exact ⟨t', h1, .inr ⟨nx, by simp, hlo, by omega, by rw [← flatQ_snoc]; exact h2⟩, h3⟩
/-- Numbers that are its own. -/
def RowX (t : TB) (lo bd : Nat) (v : AV) (l : List Int) : Prop := (v = .nslice ∧ l = []) ∨ ∃ d, v = .slice d 0 l.length l.length 1 false ∧ lo ≤ d ∧ d < bd ∧ hv t d = some (.row (ints l) true)
theorem RowX.keep {t t' : TB} {lo bd bd' : Nat} {v : AV} {l : List Int} (h : RowX t lo bd v l) (k : ∀ d, lo ≤ d → d < bd → hv t' d = hv t d) (hb : bd ≤ bd') : RowX t' lo bd' v l := by
 rcases h with h | ⟨d, h1, h2, h3, h4⟩
 · exact .inl h
 · exact .inr ⟨d, h1, h2, by omega, (k d h2 h3).trans h4⟩
theorem o_len_X {T : TA} {t t0 : TB} {nx lo bd : Nat} {v : AV} {l : List Int} {x : Opd} (h : RowX t0 lo bd v l) (hx : x.ev T = some v) : (IOp.len .slc x).run T t nx = .ok (.int .i64 ((l.length : Nat) : Int)) t nx := by
 rcases h with ⟨rfl, rfl⟩ | ⟨d, rfl, -⟩
 · exact o_len_nslice hx
 · exact o_len_slice hx
theorem app_X {t : TB} {nx lo bd e : Nat} {v : AV} {l : List Int} {x : Int} {ex : Bool} (h : RowX t lo bd v l) (hlo : lo ≤ nx) (he : hv t e = some (.row [.int .i64 x] true)) (hs : l.length + 1 ≤ 65536) :
   ∃ t', appendA 1 v (.slice e 0 1 1 1 ex) t nx = .ok (.slice nx 0 (l.length + 1) (l.length + 1) 1 false) t' (nx + 1) ∧ (RowX t' lo (nx + 1) (.slice nx 0 (l.length + 1) (l.length + 1) 1 false) (l ++ [x]) ∧ Keep t t' nx (fun b => lo ≤ b)) := by
 obtain ⟨t', h1, h2, h3⟩ := app_own (t := t) (nx := nx) (sz := 1) (n := l.length) (v := v) (l := ints l) (cs := [.int .i64 x]) (e := e) (ex := ex) (lo := lo) (bd := bd) (by
   rcases h with ⟨rfl, rfl⟩ | ⟨d, h⟩
   · exact .inl ⟨rfl, rfl, rfl⟩
   · exact .inr ⟨d, h⟩) (by rw [ints_len]; omega) hlo he rfl rfl (by omega)
 exact ⟨t', h1, .inr ⟨nx, by simp, hlo, by omega, by rw [← ints_snoc]; exact h2⟩, h3⟩
theorem RowX.rowI {t : TB} {lo bd : Nat} {v : AV} {l : List Int} (h : RowX t lo bd v l) : RowI t bd v l := by
 rcases h with h | ⟨d, h1, h2, h3, h4⟩
 · exact .inl h
 · exact .inr ⟨d, 0, l.length, false, true, ints l, h1, h3, h4, by rw [ints_len]; omega, by rw [← ints_len l]; exact whole rfl⟩
/-! ### A matrix that is filled -/
def rowOf (n : Nat) (f : Nat → Int) : List Int := (List.range n).map f
theorem rowOf_len (n : Nat) (f : Nat → Int) : (rowOf n f).length = n := by simp [rowOf]
theorem g_rowOf {n j : Nat} {f : Nat → Int} (h : j < n) : g (rowOf n f) j = f j := by
 unfold g rowOf; rw [List.getD_eq_getElem?_getD]; simp [h]
theorem rowOf_set {n j : Nat} {f : Nat → Int} {v : Int} : (rowOf n f).set j v = rowOf n (fun b => if b = j then v else f b) := by
 apply List.ext_getElem?
 intro i
 unfold rowOf
 rw [List.getElem?_set]
 by_cases h : j = i
 · subst h
   by_cases hj : j < n
   · simp [hj]
   · simp [hj]
 · rw [if_neg h]
   by_cases hi : i < n
   · simp only [List.getElem?_map, List.getElem?_range hi, Option.map_some]; rw [if_neg (fun e => h e.symm)]
   · simp [hi]
theorem ints_zero (n : Nat) : List.replicate n (AV.int .i64 0) = ints (rowOf n (fun _ => 0)) := by
 apply List.ext_getElem?
 intro i
 unfold ints rowOf
 by_cases h : i < n
 · simp [h, i64]
 · simp [h]
structure MatV (t : TB) (b n : Nat) (M : Nat → Nat → Int) (L : List AV) : Prop where
 row : hv t b = some (.row L true)
 len : L.length = n
 at_ : ∀ i, i < n → L[i]? = some (.slice (b + 1 + i) 0 n n 1 true)
 rows : ∀ i, i < n → hv t (b + 1 + i) = some (.row (ints (rowOf n (M i))) true)
theorem MatV.keep {t t' : TB} {b n : Nat} {M : Nat → Nat → Int} {L : List AV} (h : MatV t b n M L) (k : ∀ e, b ≤ e → e ≤ b + n → hv t' e = hv t e) : MatV t' b n M L :=
 ⟨(k b (by omega) (by omega)).trans h.row, h.len, h.at_, fun i hi => (k _ (by omega) (by omega)).trans (h.rows i hi)⟩
theorem MatV.set {t t' : TB} {b n i j : Nat} {M : Nat → Nat → Int} {L : List AV} {v : Int} (h : MatV t b n M L) (hi : i < n) (e : hv t' = upd (hv t) (b + 1 + i) (some (.row (ints ((rowOf n (M i)).set j v)) true))) : MatV t' b n (fun x y => if x = i ∧ y = j then v else M x y) L :=
 ⟨by rw [e, upd_ne _ _ _ _ (by omega)]; exact h.row, h.len, h.at_, fun x hx => by
   by_cases hxi : x = i
   · subst hxi
     rw [e, upd_same, rowOf_set]
     congr 3
     unfold rowOf
     congr 1
     funext y
     by_cases hy : y = j <;> simp [hy]
   · rw [e, upd_ne _ _ _ _ (by omega), h.rows x hx]
     congr 3
     unfold rowOf
     congr 1
     funext y
     simp [hxi]⟩
def matL (n : Nat) (M : Nat → Nat → Int) : List (List Int) := (List.range n).map (fun i => rowOf n (M i))
theorem matL_len (n : Nat) (M : Nat → Nat → Int) : (matL n M).length = n := by simp [matL]
theorem matL_row {n : Nat} {M : Nat → Nat → Int} : ∀ l ∈ matL n M, l.length = n := by
 intro l hl
 obtain ⟨i, -, rfl⟩ := List.mem_map.1 hl
 exact rowOf_len _ _
theorem MatV.rowM {t : TB} {b n bd : Nat} {M : Nat → Nat → Int} {L : List AV} (h : MatV t b n M L) (hb : b + n < bd) : RowM t bd (.slice b 0 n n 1 true) (matL n M) := by
 refine .inr ⟨b, 0, n, true, true, L, L, by rw [matL_len], by omega, h.row, by rw [h.len, matL_len]; omega, by rw [matL_len]; exact whole h.len, by rw [h.len, matL_len], fun i l iv h1 h2 => ?_⟩
 have hi : i < n := by have := (List.getElem?_eq_some_iff.1 h1).1; rwa [matL_len] at this
 rw [h.at_ i hi] at h2
 cases h2
 have : l = rowOf n (M i) := by simp [matL, hi] at h1; exact h1.symm
 subst this
 exact .inr ⟨b + 1 + i, 0, n, true, true, _, by rw [rowOf_len], by omega, h.rows i hi, by rw [ints_len, rowOf_len]; omega, by rw [← ints_len (rowOf n (M i))]; exact whole rfl⟩
/-! ### How soon one part reaches another one -/
def ahS (os : List Int) (M : Nat → Nat → Int) (x : Nd) (k : Nat) : Nat → Nat → Int :=
 if x.kind = 8 ∧ (g os (g x.ins 0).toNat).toNat ≠ (g os k).toNat ∧ (M (g os (g x.ins 0).toNat).toNat (g os k).toNat = 0 ∨ x.time < M (g os (g x.ins 0).toNat).toNat (g os k).toNat) then
   fun a b => if a = (g os (g x.ins 0).toNat).toNat ∧ b = (g os k).toNat then x.time else M a b
 else M
def ahM (ns : List Nd) (os : List Int) : Nat → Nat → Nat → Int
 | 0 => fun _ _ => 0
 | k + 1 => match ns[k]? with
   | some x => ahS os (ahM ns os k) x k
   | none => ahM ns os k
theorem ahM_at {ns : List Nd} {os : List Int} {k : Nat} {x : Nd} (h : ns[k]? = some x) : ahM ns os (k + 1) = ahS os (ahM ns os k) x k := by
 show (match ns[k]? with | some x => ahS os (ahM ns os k) x k | none => ahM ns os k) = _
 rw [h]
theorem o_minN {T : TA} {t : TB} {nx : Nat} {x y : Opd} {a b : Nat} (hx : x.ev T = some (.int .i64 (a : Int))) (hy : y.ev T = some (.int .i64 (b : Int))) : (IOp.mm false x y).run T t nx = .ok (.int .i64 ((min a b : Nat) : Int)) t nx := by
 simp only [IOp.run, hx, hy, iLt_eq]
 by_cases h : (b : Int) < (a : Int)
 · rw [decide_eq_true h, Nat.min_eq_right (by omega)]
 · rw [decide_eq_false h, Nat.min_eq_left (by omega)]
theorem MayP.kind8 {ns : List Nd} {ts : List Int} {p : Int} (h : MayP ns ts p) (i : Nat) (x : Nd) (hx : ns[i]? = some x) (h8 : x.kind = 8) : ∃ k, x.ins[0]? = some k ∧ 0 ≤ k ∧ k < (ns.length : Int) := by
 have h1 := (h.each i x hx).1.2
 have hm : ∃ k, x.ins[0]? = some k := by
   rcases h1 with h1 | h1 | h1 | h1 | h1 | h1 | h1 | h1
   all_goals first
     | (have := h1.1; omega)
     | skip
   have e := congrArg List.length h1.2.1
   rw [List.length_map] at e
   exact some_at (by simp at e; omega)
 obtain ⟨k, hk⟩ := hm
 have := (h.nodes x (List.mem_of_getElem? hx)).2 k (List.mem_of_getElem? hk)
 exact ⟨k, hk, this.1, this.2⟩
theorem g_zero {n j : Nat} : g (rowOf n (fun _ => 0)) j = 0 := by
 by_cases h : j < n
 · exact g_rowOf h
 · unfold g rowOf; rw [List.getD_eq_getElem?_getD]; simp [h]
theorem mem_g {l : List Int} {P : Int → Prop} (h : ∀ j, j < l.length → P (g l j)) : ∀ x ∈ l, P x := by
 intro x hx
 obtain ⟨j, hj, rfl⟩ := List.mem_iff_getElem.1 hx
 have := h j hj
 unfold g at this
 rwa [List.getD_eq_getElem?_getD, List.getElem?_eq_getElem hj] at this
theorem own_rowI {t : TB} {d bd n : Nat} {l : List Int} {ex : Bool} (hl : l.length = n) (hd : d < bd) (hr : hv t d = some (.row (ints l) true)) : RowI t bd (.slice d 0 n n 1 ex) l := by
 subst hl
 exact .inr ⟨d, 0, l.length, ex, true, ints l, rfl, hd, hr, by rw [ints_len]; omega, by rw [← ints_len l]; exact whole rfl⟩
theorem o_mkints {T : TA} {t : TB} {nx : Nat} {x y : Opd} {w : Nat} (hx : x.ev T = some (.int .i64 (w : Int))) (hy : y.ev T = some (.int .i64 (w : Int))) (h : w ≤ 65536) :
   ∃ t', (IOp.mkslice 1 [.int .i64 0] x y).run T t nx = .ok (.slice nx 0 w w 1 true) t' (nx + 1) ∧ hv t' = upd (hv t) nx (some (.row (ints (rowOf w (fun _ => 0))) true)) := by
 rw [← ints_zero]; exact o_mkrow hx hy h

def find_r0 : List Ins := [.o 4 (.mov (kI 0))]
def find_r1 : List Ins := [.mv 5 0,
 .mv 6 1,
 .o 7 (.iaddr 1 (.t 5) (.t 6)),
 .o 8 (.load (.t 7)),
 .mv 9 1,
 .o 10 (.bin .neq (.t 8) (.t 9))]
def find_r2 : List Ins := [.mv 11 0,
 .mv 12 1,
 .mv 13 0,
 .mv 14 0,
 .mv 15 1,
 .o 16 (.iaddr 1 (.t 14) (.t 15)),
 .o 17 (.load (.t 16)),
 .o 18 (.iaddr 1 (.t 13) (.t 17)),
 .o 19 (.load (.t 18)),
 .o 20 (.iaddr 1 (.t 11) (.t 12)),
 .x (.store 1 (.t 20) (.t 19))]
def find_r3 : List Ins := [.mv 21 0,
 .mv 22 1,
 .o 23 (.iaddr 1 (.t 21) (.t 22)),
 .o 24 (.load (.t 23)),
 .mv 1 24]
def find_r4 : List Ins := [.mv 25 1,
 .mv 4 25]
def find_c : IC := (.seq (.reg find_r0) (.seq (.block 0 (.loop (.seq (.seq (.reg find_r1) (.cond (.t 10) .skip (.exit 0))) (.block 1 (.seq (.reg find_r2) (.reg find_r3)))))) (.seq (.reg find_r4) .ret)))
theorem find_tab : tb 85 = some (.code 2 26 find_c [.tmp 4]) := by kernel_rfl
set_option maxHeartbeats 4000000 in
theorem find_ok {t : TB} {nx d n c : Nat} {ex : Bool} {l : List Int} {R dd : Nat → Nat} (huf : UF n l R dd) (hr : hv t d = some (.row (ints l) true)) (hd : d < nx) (hn : n < 1152921504606846976) {k0 : Nat} (hk0 : k0 < n) : WF tb 85 [.slice d 0 n c 1 ex, .int .i64 (k0 : Int)] t nx (fun v t' nx' => ∃ l' : List Int, v = .int .i64 ((R k0 : Nat) : Int) ∧ UF n l' R dd ∧ hv t' d = some (.row (ints l') true) ∧ nx ≤ nx' ∧ Keep t t' nx (fun e => e = d)) := by
 refine k_fun find_tab rfl ?_
 unfold find_c
 change WC _ _ (TA.put (some _) (TA.put (some _) TA.e 0) 1) _ _ _
 refine k_seq (k_reg (rO (o_mov ev_c) (r_nil (k_seq (k_block (k_loop (fun mm Tv tv nv => ∃ (k : Nat) (l1 : List Int), k < n ∧ R k = R k0 ∧ UF n l1 R dd ∧ hv tv d = some (.row (ints l1) true) ∧ (Tv.get 0 = some (.slice d 0 n c 1 ex) ∧ Tv.get 1 = some (.int .i64 ((k : Nat) : Int))) ∧ nx ≤ nv ∧ Keep t tv nx (fun e => e = d) ∧ mm = dd k) (fun mm Tv tv nv hI => ?_) (dd k0) ⟨k0, l, hk0, rfl, huf, hr, ⟨(z1 (get_other rfl get_same)), (z1 get_same)⟩, by omega, kR, rfl⟩))))))
 obtain ⟨k, l1, hk, hRk, huf1, hrv, ⟨qv0, qv1⟩, hnv, hkv, hmm⟩ := hI
 refine k_seq (k_seq ?_)
 obtain ⟨m, em, hm, -, -, -⟩ := huf1.at_ k hk
 refine k_reg (m1 qv0 (m1 (z1 qv1) (rO (o_iaddr1 (i := k) (eV (z1 ds)) eZ (by omega)) (rO (o_load eZ hrv (g_intsE huf1.len rfl (by omega) em)) (m1 (z4 qv1) (rO (o_neq (eV (z1 ds)) eZ) (r_nil ?_)))))))
 refine k_in eZ (fun hc1 => ?_) (fun hc1 => ?_)
 · refine k_skip (k_block (k_seq ?_))
   obtain ⟨m2, em2, hm2, -, -, -⟩ := huf1.at_ m hm
   have hsh := huf1.short hk hm em em2 (by omega)
   have em3 : g (l1.set k ((m2 : Nat) : Int)) k = ((m2 : Nat) : Int) := by rw [g_set, if_pos ⟨rfl, by have := huf1.len; omega⟩]
   have hlen1 := huf1.len
   refine k_reg (m1 (z2 (z4 qv0)) (m1 (z1 (z2 (z4 qv1))) (m1 (z8 qv0) (m1 (z1 (z8 qv0)) (m1 (z2 (z8 qv1)) (rO (o_iaddr1 (i := k) (eV (z1 ds)) eZ (by omega)) (rO (o_load eZ hrv (g_intsE huf1.len rfl (by omega) em)) (rO (o_iaddr1 (i := m) (eV (z4 ds)) eZ (by omega)) (rO (o_load eZ hrv (g_intsE huf1.len rfl (by omega) em2)) (rO (o_iaddr1 (i := k) (eV (z8 ds)) (eV (z1 (z2 (z4 ds)))) (by omega)) ?_))))))))))
   refine r_heap (o_storeI (l := l1) eZ (eV (z1 ds)) hrv (by (try simp only [List.length_set]); omega)) rfl (fun t2 (hh3 : hv t2 = upd (hv tv) d (some (.row (ints (l1.set k ((m2 : Nat) : Int))) true))) => ?_)
   refine r_nil (k_reg (m1 (z1 (z8 (z8 qv0))) (m1 (z2 (z8 (z8 qv1))) (rO (o_iaddr1 (i := k) (eV (z1 ds)) eZ (by omega)) (rO (o_load eZ (lS hh3) (g_intsE hsh.1.len rfl (by omega) em3)) (m1 ds (r_nil ?_)))))))
   exact ⟨dd m2, by omega, m2, _, hsh.2.2.2, hsh.2.2.1.trans hRk, hsh.1, (lS hh3), ⟨(z2 (z4 (z8 (z8 qv0)))), ds⟩, by omega, Keep.upd (hkv) hh3 (.inr rfl), rfl⟩
 refine k_exit (exK_same (k_seq (k_reg (m1 (z2 (z4 qv1)) (m1 ds (r_nil (k_ret ?_)))))))
 have hroot := huf1.root hk (by omega)
 exact ⟨_, ans_tmp ds, l1, by rw [← hRk, hroot], huf1, hrv, by omega, hkv⟩
def ahead_r0 : List Ins := [.o 2 (.box (.t 0)),
 .o 3 (.box (.t 1)),
 .o 4 (.mov (.c .nslice))]
def ahead_r1 : List Ins := [.o 11 (.faddr (.t 3) 1),
 .o 12 (.load (.t 11)),
 .o 13 (.mkslice 1 [.nslice] (.t 12) (.t 12)),
 .mv 5 13]
def ahead_r2 : List Ins := [.mv 14 5,
 .o 15 (.len .slc (.t 14)),
 .o 16 (.mov (kI 0))]
def ahead_r3 : List Ins := [.o 17 (.bin .lss (.t 16) (.t 15))]
def ahead_r4 : List Ins := [.mv 18 16,
 .mv 6 18]
def ahead_r5 : List Ins := [.mv 19 5,
 .mv 20 6,
 .o 21 (.faddr (.t 3) 1),
 .o 22 (.load (.t 21)),
 .o 23 (.mkslice 1 [(.int .i64 0)] (.t 22) (.t 22)),
 .o 24 (.iaddr 1 (.t 19) (.t 20)),
 .x (.store 1 (.t 24) (.t 23))]
def ahead_r6 : List Ins := [.o 25 (.bin .add (.t 16) (kI 1)),
 .mv 16 25]
def ahead_r7 : List Ins := [.o 26 (.faddr (.t 2) 0),
 .o 27 (.load (.t 26)),
 .o 28 (.len .slc (.t 27)),
 .o 29 (.mov (kI 0))]
def ahead_r8 : List Ins := [.o 30 (.bin .lss (.t 29) (.t 28))]
def ahead_r9 : List Ins := [.mv 31 29,
 .o 32 (.iaddr 8 (.t 27) (.t 29)),
 .o 33 (.loadA 8 (.t 32)),
 .o 8 (.alloc [(.int .i64 0), (.int .i64 0), (.int .i64 0), .nslice, (.str []), (.int .i64 0), (.int .i64 0), (.int .i64 0)]),
 .mv 7 31,
 .x (.store 8 (.t 8) (.t 33))]
def ahead_r10 : List Ins := [.o 34 (.faddr (.t 8) 0),
 .o 35 (.load (.t 34)),
 .o 36 (.bin .neq (.t 35) (kI 8))]
def ahead_r11 : List DIns := [⟨0, [], .o 37 (.faddr (.t 3) 0)⟩,
 ⟨1, [0], .o 38 (.load (.t 37))⟩,
 ⟨2, [], .o 39 (.faddr (.t 8) 3)⟩,
 ⟨3, [2], .o 40 (.load (.t 39))⟩,
 ⟨4, [3], .o 41 (.iaddr 1 (.t 40) (kI 0))⟩,
 ⟨5, [4], .o 42 (.load (.t 41))⟩,
 ⟨6, [1, 5], .o 43 (.iaddr 1 (.t 38) (.t 42))⟩,
 ⟨7, [6], .o 44 (.load (.t 43))⟩,
 ⟨8, [], .o 45 (.faddr (.t 3) 0)⟩,
 ⟨9, [8], .o 46 (.load (.t 45))⟩,
 ⟨10, [], .mv 47 7⟩,
 ⟨11, [9, 10], .o 48 (.iaddr 1 (.t 46) (.t 47))⟩,
 ⟨12, [11], .o 49 (.load (.t 48))⟩,
 ⟨13, [7, 0, 1, 2, 3, 4, 5, 6, 7], .mv 9 44⟩,
 ⟨14, [12, 13, 0, 1, 2, 3, 4, 5, 6, 7, 8, 9, 10, 11, 12, 13], .mv 10 49⟩]
def ahead_r12 : List DIns := [⟨0, [], .mv 50 9⟩,
 ⟨1, [], .mv 51 10⟩,
 ⟨2, [0, 1], .o 52 (.bin .neq (.t 50) (.t 51))⟩,
 ⟨3, [2], .mv 53 52⟩,
 ⟨4, [3], .g 54 53 true (.mov (.t 5))⟩,
 ⟨5, [3], .g 55 53 true (.mov (.t 9))⟩,
 ⟨6, [4, 5, 3], .g 56 53 true (.iaddr 1 (.t 54) (.t 55))⟩,
 ⟨7, [6, 3], .g 57 53 true (.load (.t 56))⟩,
 ⟨8, [3], .g 58 53 true (.mov (.t 10))⟩,
 ⟨9, [7, 8, 3], .g 59 53 true (.iaddr 1 (.t 57) (.t 58))⟩,
 ⟨10, [9, 3], .g 60 53 true (.load (.t 59))⟩,
 ⟨11, [10, 3], .g 61 53 true (.bin .eql (.t 60) (kI 0))⟩,
 ⟨12, [11, 3, 3], .g 62 53 true (.mov (.t 61))⟩,
 ⟨13, [12], .g 63 62 false (.faddr (.t 8) 7)⟩,
 ⟨14, [13, 12], .g 64 62 false (.load (.t 63))⟩,
 ⟨15, [12], .g 65 62 false (.mov (.t 5))⟩,
 ⟨16, [12], .g 66 62 false (.mov (.t 9))⟩,
 ⟨17, [15, 16, 12], .g 67 62 false (.iaddr 1 (.t 65) (.t 66))⟩,
 ⟨18, [17, 12], .g 68 62 false (.load (.t 67))⟩,
 ⟨19, [12], .g 69 62 false (.mov (.t 10))⟩,
 ⟨20, [18, 19, 12], .g 70 62 false (.iaddr 1 (.t 68) (.t 69))⟩,
 ⟨21, [20, 12], .g 71 62 false (.load (.t 70))⟩,
 ⟨22, [14, 21, 12], .g 72 62 false (.bin .lss (.t 64) (.t 71))⟩,
 ⟨23, [12, 22, 3], .g 73 53 true (.pick (.t 62) (.c (.bool true)) (.t 72))⟩,
 ⟨24, [3, 23], .o 74 (.pick (.t 53) (.t 73) (.c (.bool false)))⟩]
def ahead_r13 : List DIns := [⟨0, [], .mv 75 5⟩,
 ⟨1, [], .mv 76 9⟩,
 ⟨2, [0, 1], .o 77 (.iaddr 1 (.t 75) (.t 76))⟩,
 ⟨3, [2], .o 78 (.load (.t 77))⟩,
 ⟨4, [], .mv 79 10⟩,
 ⟨5, [], .o 80 (.faddr (.t 8) 7)⟩,
 ⟨6, [5], .o 81 (.load (.t 80))⟩,
 ⟨7, [3, 4, 0, 1, 2, 3, 4, 5, 6], .o 82 (.iaddr 1 (.t 78) (.t 79))⟩,
 ⟨8, [7, 6, 0, 1, 2, 3, 4, 5, 6], .x (.store 1 (.t 82) (.t 81))⟩]
def ahead_r14 : List Ins := [.o 83 (.bin .add (.t 29) (kI 1)),
 .mv 29 83]
def ahead_r15 : List Ins := [.mv 84 5,
 .mv 4 84]
def ahead_c : IC := (.seq (.reg ahead_r0) (.seq (.reg ahead_r1) (.seq (.seq (.reg ahead_r2) (.block 0 (.loop (.seq (.reg ahead_r3) (.seq (.cond (.t 17) .skip (.exit 0)) (.seq (.block 1 (.seq (.reg ahead_r4) (.reg ahead_r5))) (.reg ahead_r6))))))) (.seq (.seq (.reg ahead_r7) (.block 2 (.loop (.seq (.reg ahead_r8) (.seq (.cond (.t 30) .skip (.exit 2)) (.seq (.block 3 (.seq (.reg ahead_r9) (.seq (.seq (.reg ahead_r10) (.cond (.t 36) (.exit 3) .skip)) (.seq (.draw ahead_r11) (.seq (.draw ahead_r12) (.cond (.t 74) (.draw ahead_r13) .skip)))))) (.reg ahead_r14))))))) (.seq (.reg ahead_r15) .ret)))))
theorem ahead_tab : tb 81 = some (.code 2 85 ahead_c [.tmp 4]) := by kernel_rfl
set_option maxHeartbeats 4000000 in
theorem ahead_ok {t : TB} {nx bd n : Nat} {vn vt ov av_ : AV} {pp : Int} {ns : List Nd} {os : List Int} (hN : RowN t bd vn ns) (hct : isCell vt = true) (hO : RowI t bd ov os) (hca : isCell av_ = true) (hb : bd ≤ nx) (hol : os.length = ns.length) (hor : ∀ a ∈ os, 0 ≤ a ∧ a < (n : Int)) (hn : n ≤ 64) (hnl : ns.length < 1152921504606846976)
   (h8 : ∀ (i : Nat) (x : Nd), ns[i]? = some x → x.kind = 8 → ∃ k, x.ins[0]? = some k ∧ 0 ≤ k ∧ k < (ns.length : Int)) : WF tb 81 [.agg [vn, vt, .int .i64 pp], .agg [ov, .int .i64 (n : Int), av_]] t nx (fun v t' nx' => ∃ L, v = .slice ((nx + 1) + 1) 0 n n 1 true ∧ MatV t' ((nx + 1) + 1) n (ahM ns os ns.length) L ∧ (nx + 1) + 1 + n < nx' ∧ Keep t t' nx (fun _ => False)) := by
 have hcn := hN.cell
 have hco := hO.cell
 refine k_fun ahead_tab rfl ?_
 unfold ahead_c
 change WC _ _ (TA.put (some _) (TA.put (some _) TA.e 0) 1) _ _ _
 refine k_seq (k_reg (r_heap (o_box (eV (get_other rfl get_same))) rfl (fun t1 (hh2 : hv t1 = upd (hv t) nx (some (.row [vn, vt, (.int .i64 pp)] true))) => r_heap (o_box (eV (z1 get_same))) rfl (fun t3 (hh4 : hv t3 = upd (hv t1) (nx + 1) (some (.row [ov, (.int .i64 ((n : Nat) : Int)), av_] true))) => rO (o_mov ev_c) (r_nil (k_seq (k_reg (rO (o_faddr (off := 1) (eV (z1 ds))) (rO (o_load eZ (lS hh4) rfl) (r_heap (o_mkrow (w := n) (v := .nslice) eZ eZ (by omega)) rfl (fun t5 (hh6 : hv t5 = upd (hv t3) ((nx + 1) + 1) (some (.row (List.replicate n AV.nslice) true))) => m1 ds (r_nil (k_seq (k_seq (k_reg (m1 ds (rO (o_len_slice eZ) (rO (o_mov ev_c) (r_nil (k_block (k_loop (fun mm Tv tv nv => ∃ (i : Nat) (L : List AV), i ≤ n ∧ nv = ((nx + 1) + 1) + 1 + i ∧ L.length = n ∧ hv tv ((nx + 1) + 1) = some (.row L true) ∧ (∀ j, j < i → L[j]? = some (.slice (((nx + 1) + 1) + 1 + j) 0 n n 1 true) ∧ hv tv (((nx + 1) + 1) + 1 + j) = some (.row (ints (rowOf n (fun _ => 0))) true)) ∧ (hv tv nx = some (.row [vn, vt, .int .i64 pp] true) ∧ hv tv (nx + 1) = some (.row [ov, .int .i64 ((n : Nat) : Int), av_] true)) ∧ (Tv.get 2 = some (.ptr nx 0) ∧ Tv.get 3 = some (.ptr (nx + 1) 0) ∧ Tv.get 5 = some (.slice ((nx + 1) + 1) 0 n n 1 true) ∧ Tv.get 15 = some (.int .i64 ((n : Nat) : Int)) ∧ Tv.get 16 = some (.int .i64 ((i : Nat) : Int))) ∧ Keep t tv nx (fun _ => False) ∧ mm + i = n) (fun mm Tv tv nv hI => ?_) (n) ⟨0, _, by omega, by omega, by simp, (lS hh6), fun j hj => by omega, ⟨(lN hh6 (lN hh4 (lS hh2))), (lN hh6 (lS hh4))⟩, ⟨(z1 (z8 ds)), (z8 ds), (z1 (z2 ds)), (z1 ds), ds⟩, kU (kU (kU kR hh2) hh4) hh6, by omega⟩)))))))))))))))))))))
 obtain ⟨i, L, hi, hnv, hLl, hrB, hLr, ⟨hr0, hr1⟩, ⟨q2, q3, q5, q15, q16⟩, hkp, hmm⟩ := hI
 refine k_seq (k_reg (rO (o_lss (eV q16) (eV q15)) (r_nil (k_seq ?_))))
 refine k_if eZ (fun hc7 => ?_) (fun hc7 => ?_)
 · refine k_skip (k_seq (k_block (k_seq (k_reg (m1 (z1 q16) (m1 ds (r_nil (k_reg (m1 (z1 (z2 q5)) (m1 (z1 ds) (rO (o_faddr (off := 1) (eV (z1 (z4 q3)))) (rO (o_load eZ hr1 rfl) (r_heap (o_mkrow (w := n) (v := .int .i64 0) eZ eZ (by omega)) rfl (fun t8 (hh9 : hv t8 = upd (hv tv) nv (some (.row (List.replicate n (AV.int .i64 0)) true))) => rO (o_iaddr1 (i := i) (eV (z4 ds)) (eV (z1 (z2 ds))) (by omega)) (r_heap (o_store1 eZ (eV (z1 ds)) (lN hh9 hrB) (by omega)) rfl (fun t10 (hh11 : hv t10 = upd (hv t8) ((nx + 1) + 1) (some (.row (L.set i (.slice nv 0 n n 1 true)) true))) => r_nil (k_reg (rO (o_addN (a := i) (b := 1) (eV (z2 (z8 q16))) ev_c (by omega)) (m1 ds (r_nil ?_))))))))))))))))))))
   refine ⟨mm - 1, by omega, i + 1, L.set i (.slice nv 0 n n 1 true), by omega, by omega, by rw [List.length_set]; exact hLl, (lS hh11), fun j hj => ?_, ⟨(lN hh11 (lN hh9 hr0)), (lN hh11 (lN hh9 hr1))⟩, ⟨(z4 (z8 q2)), (z4 (z8 q3)), (z4 (z8 q5)), (z4 (z8 q15)), ds⟩, kU (kU (hkp) hh9) hh11, by omega⟩
   by_cases hji : j = i
   · subst hji; exact ⟨by rw [List.getElem?_set, if_pos rfl, if_pos (by omega), show ((nx + 1) + 1) + 1 + j = nv by omega], by rw [show ((nx + 1) + 1) + 1 + j = nv by omega, ← ints_zero]; exact (lN hh11 (lS hh9))⟩
   obtain ⟨h1_, h2_⟩ := hLr j (by omega); exact ⟨by rw [List.getElem?_set, if_neg (by omega)]; exact h1_, (((congrFun hh11 _).trans (upd_ne _ _ _ _ (by omega))).trans ((congrFun hh9 _).trans (upd_ne _ _ _ _ (by omega)))).trans h2_⟩
 refine k_exit (exK_same (k_seq (k_seq (k_reg (rO (o_faddr (off := 0) (eV (z1 q2))) (rO (o_load eZ hr0 rfl) (rO (o_len_N hN eZ) (rO (o_mov ev_c) (r_nil (k_block ?_))))))))))
 have hin : i = n := by omega
 refine k_loop (fun mm Tu tu nu => ∃ (i : Nat), i ≤ ns.length ∧ MatV tu ((nx + 1) + 1) n (ahM ns os i) L ∧ ((nx + 1) + 1) + 1 + n ≤ nu ∧ (hv tu nx = some (.row [vn, vt, .int .i64 pp] true) ∧ hv tu (nx + 1) = some (.row [ov, .int .i64 ((n : Nat) : Int), av_] true)) ∧ (Tu.get 2 = some (.ptr nx 0) ∧ Tu.get 3 = some (.ptr (nx + 1) 0) ∧ Tu.get 5 = some (.slice ((nx + 1) + 1) 0 n n 1 true) ∧ Tu.get 27 = some vn ∧ Tu.get 28 = some (.int .i64 ((ns.length : Nat) : Int)) ∧ Tu.get 29 = some (.int .i64 ((i : Nat) : Int))) ∧ Keep t tu nx (fun _ => False) ∧ mm + i = ns.length) (fun mm Tu tu nu hI => ?_) (ns.length) ⟨0, by omega, ⟨hrB, hLl, fun j hj => (hLr j (by omega)).1, fun j hj => (hLr j (by omega)).2⟩, by omega, ⟨hr0, hr1⟩, ⟨(z1 (z4 q2)), (z1 (z4 q3)), (z1 (z4 q5)), (z2 ds), (z1 ds), ds⟩, hkp, by omega⟩
 obtain ⟨i, hi, hMt, hnu, ⟨hr0, hr1⟩, ⟨u2, u3, u5, u27, u28, u29⟩, hku, hmm⟩ := hI
 refine k_seq (k_reg (rO (o_lss (eV u29) (eV u28)) (r_nil (k_seq ?_))))
 refine k_if eZ (fun hc12 => ?_) (fun hc12 => ?_)
 · refine k_skip (k_seq (k_block (k_seq ?_)))
   rcases hN with ⟨-, h0⟩ | ⟨dN, on, cn, exn, wrn, rn, ivs, hne, hdn, hrn, hrln, hsegn, hivl, hivr⟩
   · have h_ := congrArg List.length h0; simp only [List.length_nil] at h_; omega
   have hN : RowN t bd vn ns := .inr ⟨dN, on, cn, exn, wrn, rn, ivs, hne, hdn, hrn, hrln, hsegn, hivl, hivr⟩
   obtain ⟨x, hx⟩ := some_at (l := ns) (i := i) (by omega)
   obtain ⟨iv, hiv⟩ := some_at (l := ivs) (i := i) (by omega)
   have hI := hivr i x iv hx hiv
   have hic := hI.cell
   have hrn1 := hku.look (by omega) id hrn
   refine k_reg (m1 (z1 u29) (rO (o_iaddrE (i := i) (eV (z2 u27)) hne (eV (z2 u29)) (by omega)) (rO (o_loadA (n := 8) eZ hrn1 (by omega) (nodeN_all hsegn hivl hx hiv)) (r_heap (o_alloc) rfl (fun t13 (hh14 : hv t13 = upd (hv tu) nu (some (.row [(.int .i64 0), (.int .i64 0), (.int .i64 0), .nslice, (.str []), (.int .i64 0), (.int .i64 0), (.int .i64 0)] true))) => m1 (z1 (z2 ds)) (r_heap (o_store (n := 8) (eV (z1 ds)) (eV (z2 ds)) (lS hh14) rfl (ncells_cell x hic) (leb rfl)) rfl (fun t15 (hh16 : hv t15 = upd (hv t13) nu (some (.row [(.int .i64 x.kind), (.int .i64 x.op), (.int .i64 x.wide), iv, (.str x.value), (.int .i64 x.hi), (.int .i64 x.lo), (.int .i64 x.time)] true))) => r_nil (k_seq (k_seq (k_reg (rO (o_faddr (off := 0) (eV (z2 ds))) (rO (o_load eZ (lS hh16) rfl) (rO (o_neq eZ ev_c) (r_nil ?_))))))))))))))
   refine k_in eZ (fun hc17 => ?_) (fun hc17 => ?_)
   · refine k_exit (exK_same (k_reg (rO (o_addN (a := i) (b := 1) (eV (z2 (z8 u29))) ev_c (by omega)) (m1 ds (r_nil ?_)))))
     exact ⟨mm - 1, by omega, i + 1, by omega, (by rw [ahM_at hx]; unfold ahS; rw [if_neg (fun h_ => by omega)]; exact hMt.keep (fun e h1 h2 => (((congrFun hh16 e).trans (upd_ne _ _ _ _ (by omega))).trans ((congrFun hh14 e).trans (upd_ne _ _ _ _ (by omega)))))), by omega, ⟨(lN hh16 (lN hh14 hr0)), (lN hh16 (lN hh14 hr1))⟩, ⟨(z4 (z8 u2)), (z4 (z8 u3)), (z4 (z8 u5)), (z4 (z8 u27)), (z4 (z8 u28)), ds⟩, kU (kU (hku) hh14) hh16, by omega⟩
   refine k_skip (k_seq ?_)
   obtain ⟨k0, hk0, hk1, hk2⟩ := h8 i x hx (by omega)
   have hkl := (List.getElem?_eq_some_iff.1 hk0).1
   have hi_ := hI
   rcases hi_ with ⟨-, h0⟩ | ⟨dj, oj, cj, exj, wrj, rj, hej, hdj, hrj, hrlj, hsegj⟩
   · have h_ := congrArg List.length h0; simp only [List.length_nil] at h_; omega
   have hrj_ := hku.look (by omega) id hrj
   have ho_ := hO
   rcases ho_ with ⟨-, h0⟩ | ⟨dz, oz, cz, exz, wrz, rz, hez, hdz, hrz, hrlz, hsegz⟩
   · have h_ := congrArg List.length h0; simp only [List.length_nil] at h_; omega
   have hrz_ := hku.look (by omega) id hrz
   obtain ⟨a, ha⟩ := some_at (l := os) (i := k0.toNat) (by omega)
   obtain ⟨b, hb_⟩ := some_at (l := os) (i := i) (by omega)
   have hab := hor a (List.mem_of_getElem? ha)
   have hbb := hor b (List.mem_of_getElem? hb_)
   have hg0 : (g x.ins 0) = k0 := by unfold g; rw [List.getD_eq_getElem?_getD, hk0]; rfl
   have hga : g os k0.toNat = a := by unfold g; rw [List.getD_eq_getElem?_getD, ha]; rfl
   have hgb : g os i = b := by unfold g; rw [List.getD_eq_getElem?_getD, hb_]; rfl
   refine k_draw (eO 0 rfl (o_faddr (off := 0) (eV (z2 (z8 u3)))) (eO 1 rfl (o_load eZ (lN hh16 (lN hh14 hr1)) rfl) (eO 2 rfl (o_faddr (off := 3) (eV (z1 (z2 (z4 ds))))) (eO 3 rfl (o_load eZ (lS hh16) rfl) (eO 4 rfl (o_iaddrE (i := 0) eZ hej ev_c (by omega)) ?_)))))
   refine eO 5 rfl (o_load eZ (lN hh16 (lN hh14 hrj_)) (by rw [Nat.mul_one]; exact rowI_get (i := 0) hsegj hk0)) ?_
   refine eO 6 rfl (o_iaddrE (i := (k0).toNat) (eV (z4 ds)) hez (ev_cast eZ (by omega)) (by omega)) ?_
   refine eO 7 rfl (o_load eZ (lN hh16 (lN hh14 hrz_)) (by rw [Nat.mul_one]; exact rowI_get (i := k0.toNat) hsegz ha)) ?_
   refine eO 8 rfl (o_faddr (off := 0) (eV (z2 (z8 (z8 u3))))) (eO 9 rfl (o_load eZ (lN hh16 (lN hh14 hr1)) rfl) (eO 10 rfl (o_mov (eV (z2 (z4 (z8 ds))))) (eO 11 rfl (o_iaddrE (i := i) (eV (z1 ds)) hez eZ (by omega)) ?_)))
   refine eO 12 rfl (o_load eZ (lN hh16 (lN hh14 hrz_)) (by rw [Nat.mul_one]; exact rowI_get (i := i) hsegz hb_)) ?_
   refine eO 13 rfl (o_mov (eV (z1 (z4 ds)))) (eO 14 rfl (o_mov (eV (z1 ds))) (e_done (k_seq ?_)))
   have hM2 : MatV t15 ((nx + 1) + 1) n (ahM ns os i) L := hMt.keep (fun e h1 h2 => (((congrFun hh16 e).trans (upd_ne _ _ _ _ (by omega))).trans ((congrFun hh14 e).trans (upd_ne _ _ _ _ (by omega)))))
   have hrow1 := hM2.row
   have hrow2 := hM2.rows a.toNat (by omega)
   refine k_draw (eO 0 rfl (o_mov (eV (z1 ds))) (eO 1 rfl (o_mov (eV (z1 ds))) ?_))
   by_cases hs18 : (a = b)
   · refine eO 2 rfl (ndec_f (o_neq (eV (z1 ds)) eZ) hs18) (eO 3 rfl (o_mov eZ) (e_off 4 rfl (wN ds) (e_off 5 rfl (wN (z1 ds)) (e_off 6 rfl (wN (z2 ds)) (e_off 7 rfl (wN (z1 (z2 ds))) (e_off 8 rfl (wN (z4 ds)) (e_off 9 rfl (wN (z1 (z4 ds))) (e_off 10 rfl (wN (z2 (z4 ds))) (e_off 11 rfl (wN (z1 (z2 (z4 ds)))) (e_off 12 rfl (wN (z8 ds)) (e_off 13 rfl (want_undef ds) (e_off 14 rfl (want_undef (z1 ds)) (e_off 15 rfl (want_undef (z2 ds)) (e_off 16 rfl (want_undef (z1 (z2 ds))) (e_off 17 rfl (want_undef (z4 ds)) (e_off 18 rfl (want_undef (z1 (z4 ds))) (e_off 19 rfl (want_undef (z2 (z4 ds))) (e_off 20 rfl (want_undef (z1 (z2 (z4 ds)))) (e_off 21 rfl (want_undef (z8 ds)) (e_off 22 rfl (want_undef (z1 (z8 ds))) (e_off 23 rfl (wN (z1 (z2 (z8 (z8 ds))))) (eO 24 rfl (o_pick_f (eV (z4 (z8 (z8 ds)))) ev_c) (e_done (k_cond_f eZ (k_skip ?_)))))))))))))))))))))))))
     have hcc : ¬ (a.toNat ≠ b.toNat ∧ (ahM ns os i a.toNat b.toNat = 0 ∨ x.time < ahM ns os i a.toNat b.toNat)) := by omega
     refine k_reg (rO (o_addN (a := i) (b := 1) (eV (z2 (z8 (z8 (z8 (z8 (z8 (z8 u29)))))))) ev_c (by omega)) (m1 ds (r_nil ?_)))
     exact ⟨mm - 1, by omega, i + 1, by omega, (by rw [ahM_at hx]; unfold ahS; rw [hg0, if_neg (fun h_ => hcc ⟨by rw [hga, hgb] at h_; exact h_.2.1, by rw [hga, hgb] at h_; exact h_.2.2⟩)]; exact hMt.keep (fun e h1 h2 => (((congrFun hh16 e).trans (upd_ne _ _ _ _ (by omega))).trans ((congrFun hh14 e).trans (upd_ne _ _ _ _ (by omega)))))), by omega, ⟨(lN hh16 (lN hh14 hr0)), (lN hh16 (lN hh14 hr1))⟩, ⟨(z4 (z8 (z8 (z8 (z8 (z8 (z8 u2))))))), (z4 (z8 (z8 (z8 (z8 (z8 (z8 u3))))))), (z4 (z8 (z8 (z8 (z8 (z8 (z8 u5))))))), (z4 (z8 (z8 (z8 (z8 (z8 (z8 u27))))))), (z4 (z8 (z8 (z8 (z8 (z8 (z8 u28))))))), ds⟩, kU (kU (hku) hh14) hh16, by omega⟩
   refine eO 2 rfl (ndec_t (o_neq (eV (z1 ds)) eZ) hs18) (eO 3 rfl (o_mov eZ) (e_op 4 rfl (o_mov (eV (z1 (z4 (z8 (z8 (z8 u5))))))) (want_on ds) (e_op 5 rfl (o_mov (eV (z2 (z4 ds)))) (want_on (z1 ds)) (e_op 6 rfl (o_iaddr1 (i := (a).toNat) (eV (z1 ds)) (ev_cast eZ (by omega)) (by omega)) (want_on (z2 ds)) (e_op 7 rfl (o_load eZ hrow1 (hM2.at_ a.toNat (by omega))) (want_on (z1 (z2 ds))) (e_op 8 rfl (o_mov (eV (z8 ds))) (want_on (z4 ds)) (e_op 9 rfl (o_iaddr1 (i := (b).toNat) (eV (z1 ds)) (ev_cast eZ (by omega)) (by omega)) (want_on (z1 (z4 ds))) (e_op 10 rfl (o_load eZ hrow2 (g_intsE (rowOf_len _ _) rfl (by omega) (g_rowOf (j := b.toNat) (by omega)))) (want_on (z2 (z4 ds))) ?_))))))))
   by_cases hs19 : ((ahM ns os i a.toNat b.toNat) = 0)
   · refine e_op 11 rfl (dec_t (o_eql eZ ev_c) hs19) (want_on (z1 (z2 (z4 ds)))) (e_op 12 rfl (o_mov eZ) (want_on (z8 ds)) (e_off 13 rfl (wN ds) (e_off 14 rfl (wN (z1 ds)) (e_off 15 rfl (wN (z2 ds)) (e_off 16 rfl (wN (z1 (z2 ds))) (e_off 17 rfl (wN (z4 ds)) (e_off 18 rfl (wN (z1 (z4 ds))) (e_off 19 rfl (wN (z2 (z4 ds))) (e_off 20 rfl (wN (z1 (z2 (z4 ds)))) (e_off 21 rfl (wN (z8 ds)) (e_off 22 rfl (wN (z1 (z8 ds))) (e_op 23 rfl (o_pick_t (eV (z2 (z8 ds))) ev_c) (want_on (z1 (z2 (z8 (z8 ds))))) (eO 24 rfl (o_pick_t (eV (z4 (z8 (z8 ds)))) eZ) (e_done (k_cond_t eZ ?_)))))))))))))))
     have hcc : a.toNat ≠ b.toNat ∧ (ahM ns os i a.toNat b.toNat = 0 ∨ x.time < ahM ns os i a.toNat b.toNat) := by omega
     refine k_draw (eO 0 rfl (o_mov (eV (z2 (z8 (z8 (z8 (z8 (z8 (z8 u5))))))))) (eO 1 rfl (o_mov (eV (z1 (z2 (z8 (z8 (z8 ds))))))) (eO 2 rfl (o_iaddr1 (i := (a).toNat) (eV (z1 ds)) (ev_cast eZ (by omega)) (by omega)) (eO 3 rfl (o_load eZ hrow1 (hM2.at_ a.toNat (by omega))) (eO 4 rfl (o_mov (eV (z1 (z4 (z8 (z8 (z8 ds))))))) (eO 5 rfl (o_faddr (off := 7) (eV (z2 (z8 (z8 (z8 (z8 (z8 (z8 ds))))))))) (eO 6 rfl (o_load eZ (lS hh16) rfl) (eO 7 rfl (o_iaddr1 (i := (b).toNat) (eV (z1 (z2 ds))) (ev_cast (eV (z2 ds)) (by omega)) (by omega)) ?_))))))))
     refine d_heap (ix := 8) (pr := [7, 6, 0, 1, 2, 3, 4, 5, 6]) (d := none) (g := none) (F' := []) (o := (.store 1 (.t 82) (.t 81))) (o_storeI (l := rowOf n (ahM ns os i a.toNat)) eZ (eV (z1 ds)) hrow2 (by rw [rowOf_len]; omega)) rfl (by kernel_rfl) (by kernel_rfl) (by kernel_rfl) (by kernel_rfl) (fun t20 (hh21 : hv t20 = upd (hv t15) (((nx + 1) + 1) + 1 + a.toNat) (some (.row (ints ((rowOf n (ahM ns os i a.toNat)).set b.toNat x.time)) true))) => ⟨?_, ?_⟩)
     · exact all_nil_
     refine e_done (k_reg (rO (o_addN (a := i) (b := 1) (eV (z1 (z2 (z8 (z8 (z8 (z8 (z8 (z8 (z8 u29)))))))))) ev_c (by omega)) (m1 ds (r_nil ?_))))
     exact ⟨mm - 1, by omega, i + 1, by omega, (by rw [ahM_at hx]; unfold ahS; rw [hg0, if_pos ⟨by assumption, by rw [hga, hgb]; exact hcc.1, by rw [hga, hgb]; exact hcc.2⟩, hga, hgb]; exact (hM2.set (by omega) hh21)), by omega, ⟨(lN hh21 (lN hh16 (lN hh14 hr0))), (lN hh21 (lN hh16 (lN hh14 hr1)))⟩, ⟨(z1 (z4 (z8 (z8 (z8 (z8 (z8 (z8 (z8 u2))))))))), (z1 (z4 (z8 (z8 (z8 (z8 (z8 (z8 (z8 u3))))))))), (z1 (z4 (z8 (z8 (z8 (z8 (z8 (z8 (z8 u5))))))))), (z1 (z4 (z8 (z8 (z8 (z8 (z8 (z8 (z8 u27))))))))), (z1 (z4 (z8 (z8 (z8 (z8 (z8 (z8 (z8 u28))))))))), ds⟩, kU (kU (kU (hku) hh14) hh16) hh21, by omega⟩
   refine e_op 11 rfl (dec_f (o_eql eZ ev_c) hs19) (want_on (z1 (z2 (z4 ds)))) (e_op 12 rfl (o_mov eZ) (want_on (z8 ds)) (e_op 13 rfl (o_faddr (off := 7) (eV (z1 (z8 (z8 (z8 (z8 ds))))))) (want_on ds) (e_op 14 rfl (o_load eZ (lS hh16) rfl) (want_on (z1 ds)) (e_op 15 rfl (o_mov (eV (z8 (z8 (z8 (z8 (z8 u5))))))) (want_on (z2 ds)) (e_op 16 rfl (o_mov (eV (z1 (z8 (z8 ds))))) (want_on (z1 (z2 ds))) (e_op 17 rfl (o_iaddr1 (i := (a).toNat) (eV (z1 ds)) (ev_cast eZ (by omega)) (by omega)) (want_on (z4 ds)) (e_op 18 rfl (o_load eZ hrow1 (hM2.at_ a.toNat (by omega))) (want_on (z1 (z4 ds))) (e_op 19 rfl (o_mov (eV (z1 (z2 (z8 (z8 ds)))))) (want_on (z2 (z4 ds))) (e_op 20 rfl (o_iaddr1 (i := (b).toNat) (eV (z1 ds)) (ev_cast eZ (by omega)) (by omega)) (want_on (z1 (z2 (z4 ds)))) (e_op 21 rfl (o_load eZ hrow2 (g_intsE (rowOf_len _ _) rfl (by omega) (g_rowOf (j := b.toNat) (by omega)))) (want_on (z8 ds)) (e_op 22 rfl (o_lss (eV (z1 (z2 (z4 ds)))) eZ) (want_on (z1 (z8 ds))) (e_op 23 rfl (o_pick_f (eV (z2 (z8 ds))) eZ) (want_on (z1 (z2 (z8 (z8 ds))))) (eO 24 rfl (o_pick_t (eV (z4 (z8 (z8 ds)))) eZ) (e_done ?_))))))))))))))
   refine k_if eZ (fun hc22 => ?_) (fun hc22 => ?_)
   · have hcc : a.toNat ≠ b.toNat ∧ (ahM ns os i a.toNat b.toNat = 0 ∨ x.time < ahM ns os i a.toNat b.toNat) := by omega
     refine k_draw (eO 0 rfl (o_mov (eV (z2 (z8 (z8 (z8 (z8 (z8 (z8 u5))))))))) (eO 1 rfl (o_mov (eV (z1 (z2 (z8 (z8 (z8 ds))))))) (eO 2 rfl (o_iaddr1 (i := (a).toNat) (eV (z1 ds)) (ev_cast eZ (by omega)) (by omega)) (eO 3 rfl (o_load eZ hrow1 (hM2.at_ a.toNat (by omega))) (eO 4 rfl (o_mov (eV (z1 (z4 (z8 (z8 (z8 ds))))))) (eO 5 rfl (o_faddr (off := 7) (eV (z2 (z8 (z8 (z8 (z8 (z8 (z8 ds))))))))) (eO 6 rfl (o_load eZ (lS hh16) rfl) (eO 7 rfl (o_iaddr1 (i := (b).toNat) (eV (z1 (z2 ds))) (ev_cast (eV (z2 ds)) (by omega)) (by omega)) ?_))))))))
     refine d_heap (ix := 8) (pr := [7, 6, 0, 1, 2, 3, 4, 5, 6]) (d := none) (g := none) (F' := []) (o := (.store 1 (.t 82) (.t 81))) (o_storeI (l := rowOf n (ahM ns os i a.toNat)) eZ (eV (z1 ds)) hrow2 (by rw [rowOf_len]; omega)) rfl (by kernel_rfl) (by kernel_rfl) (by kernel_rfl) (by kernel_rfl) (fun t23 (hh24 : hv t23 = upd (hv t15) (((nx + 1) + 1) + 1 + a.toNat) (some (.row (ints ((rowOf n (ahM ns os i a.toNat)).set b.toNat x.time)) true))) => ⟨?_, ?_⟩)
     · exact all_nil_
     refine e_done (k_reg (rO (o_addN (a := i) (b := 1) (eV (z1 (z2 (z8 (z8 (z8 (z8 (z8 (z8 (z8 u29)))))))))) ev_c (by omega)) (m1 ds (r_nil ?_))))
     exact ⟨mm - 1, by omega, i + 1, by omega, (by rw [ahM_at hx]; unfold ahS; rw [hg0, if_pos ⟨by assumption, by rw [hga, hgb]; exact hcc.1, by rw [hga, hgb]; exact hcc.2⟩, hga, hgb]; exact (hM2.set (by omega) hh24)), by omega, ⟨(lN hh24 (lN hh16 (lN hh14 hr0))), (lN hh24 (lN hh16 (lN hh14 hr1)))⟩, ⟨(z1 (z4 (z8 (z8 (z8 (z8 (z8 (z8 (z8 u2))))))))), (z1 (z4 (z8 (z8 (z8 (z8 (z8 (z8 (z8 u3))))))))), (z1 (z4 (z8 (z8 (z8 (z8 (z8 (z8 (z8 u5))))))))), (z1 (z4 (z8 (z8 (z8 (z8 (z8 (z8 (z8 u27))))))))), (z1 (z4 (z8 (z8 (z8 (z8 (z8 (z8 (z8 u28))))))))), ds⟩, kU (kU (kU (hku) hh14) hh16) hh24, by omega⟩
   refine k_skip ?_
   have hcc : ¬ (a.toNat ≠ b.toNat ∧ (ahM ns os i a.toNat b.toNat = 0 ∨ x.time < ahM ns os i a.toNat b.toNat)) := by omega
   refine k_reg (rO (o_addN (a := i) (b := 1) (eV (z2 (z8 (z8 (z8 (z8 (z8 (z8 u29)))))))) ev_c (by omega)) (m1 ds (r_nil ?_)))
   exact ⟨mm - 1, by omega, i + 1, by omega, (by rw [ahM_at hx]; unfold ahS; rw [hg0, if_neg (fun h_ => hcc ⟨by rw [hga, hgb] at h_; exact h_.2.1, by rw [hga, hgb] at h_; exact h_.2.2⟩)]; exact hMt.keep (fun e h1 h2 => (((congrFun hh16 e).trans (upd_ne _ _ _ _ (by omega))).trans ((congrFun hh14 e).trans (upd_ne _ _ _ _ (by omega)))))), by omega, ⟨(lN hh16 (lN hh14 hr0)), (lN hh16 (lN hh14 hr1))⟩, ⟨(z4 (z8 (z8 (z8 (z8 (z8 (z8 u2))))))), (z4 (z8 (z8 (z8 (z8 (z8 (z8 u3))))))), (z4 (z8 (z8 (z8 (z8 (z8 (z8 u5))))))), (z4 (z8 (z8 (z8 (z8 (z8 (z8 u27))))))), (z4 (z8 (z8 (z8 (z8 (z8 (z8 u28))))))), ds⟩, kU (kU (hku) hh14) hh16, by omega⟩
 refine k_exit (exK_same (k_seq (k_reg (m1 (z1 u5) (m1 ds (r_nil (k_ret ?_)))))))
 exact ⟨_, ans_tmp ds, _, rfl, (by have h_ := hMt; rw [show i = ns.length by omega] at h_; exact h_), by omega, hku⟩
end Go.Proofs.YtpjohgnhmjceiaaGreatDoor.WX

set_option linter.all false
set_option linter.unusedVariables false
set_option linter.unusedSectionVars false
set_option maxRecDepth 100000
open Go Go.Proofs.YtpjohgnhmjceiaaGreatDoor.AX Go.Proofs
namespace Go.Proofs.YtpjohgnhmjceiaaGreatDoor.WX
variable [Env]
def cmpz_r0 : List Ins := [.o 5 (.mov (kI 0))]
def cmpz_r1 : List Ins := [.o 6 (.load (.t 2)),
 .mv 7 1,
 .o 8 (.look .int (.int .i64 0) (.t 6) (.t 7) false),
 .o 9 (.load (.t 2)),
 .mv 10 0,
 .o 11 (.look .int (.int .i64 0) (.t 9) (.t 10) false),
 .f 12 51 [(.t 8), (.t 11)],
 .mv 5 12]
def cmpz_c : IC := (.seq (.reg cmpz_r0) (.seq (.reg cmpz_r1) .ret))
theorem cmpz_tab : tb 86 = some (.code 3 13 cmpz_c [.tmp 5]) := by kernel_rfl
theorem cmpz_ok {t : TB} {nx M Z clk : Nat} {es : List (AV × AV × Nat)} (a b : Int) (hM : hv t M = some (.map es clk)) (hZ : hv t Z = some (.row [.map M] true)) (hmi : mInt es) : WF tb 86 [.int .i64 a, .int .i64 b, .ptr Z 0] t nx (fun v t' nx' => ∃ r : Int, v = .int .i64 r ∧ (r < 0 ↔ -(mget es a) < -(mget es b)) ∧ nx ≤ nx' ∧ Keep t t' nx (fun _ => False)) := by
 refine k_fun cmpz_tab rfl ?_
 unfold cmpz_c
 change WC _ _ (TA.put (some _) (TA.put (some _) (TA.put (some _) TA.e 0) 1) 2) _ _ _
 refine k_seq (k_reg (rO (o_mov ev_c) (r_nil (k_seq (k_reg (rO (o_load (eV (z1 get_same)) hZ rfl) (m1 (z2 (get_other rfl get_same)) (rO (o_look (eV (z1 ds)) eZ hM hmi) (rO (o_load (eV (z4 get_same)) hZ rfl) (m1 (z1 (z4 (get_other rfl (get_other rfl get_same)))) (rO (o_look (eV (z1 ds)) eZ hM hmi) (r_call (w_callF (evs_cons (eV (z1 (z2 ds))) (evs_cons eZ evs_nil))) rfl (WF.mono (compare_ok (mget es b) (mget es a)) ?_)))))))))))))
 rintro _ t1 n2 ⟨r, rfl, hr, hn_c, hk_c⟩
 refine m1 ds (r_nil (k_ret ?_))
 exact ⟨_, ans_tmp ds, _, rfl, by omega, by omega, Keep.trans kR hk_c (by omega) (fun d _ h => h)⟩
def prun_r0 : List Ins := [.o 2 (.box (.t 0)),
 .o 4 (.alloc [.nslice, (.int .i64 0), .nslice]),
 .o 5 (.mov (kI 0))]
def prun_r1 : List Ins := [.mv 26 1,
 .o 27 (.bin .lss (.t 26) (kI 1)),
 .mv 28 27,
 .g 29 28 false (.mov (.t 1)),
 .g 30 28 false (.bin .gtr (.t 29) (kI 64)),
 .o 31 (.pick (.t 28) (.c (.bool true)) (.t 30))]
def prun_r2 : List Ins := [.o 32 (.build [.nslice, (.int .i64 0), .nslice] []),
 .x (.store 3 (.t 4) (.t 32)),
 .o 5 (.mov (kI 1))]
def prun_r3 : List Ins := [.o 34 (.loadA 3 (.t 2)),
 .f 35 52 [(.t 34)],
 .mv 33 35,
 .o 36 (.extr (.t 33) 0),
 .o 37 (.extr (.t 33) 1),
 .mv 6 36,
 .mv 7 37]
def prun_r4 : List Ins := [.mv 38 7,
 .o 39 (.bin .neq (.t 38) (kI 0))]
def prun_r5 : List Ins := [.o 40 (.build [.nslice, (.int .i64 0), .nslice] []),
 .mv 41 7,
 .x (.store 3 (.t 4) (.t 40)),
 .mv 5 41]
def prun_r6 : List Ins := [.o 42 (.faddr (.t 2) 0),
 .o 43 (.load (.t 42)),
 .o 44 (.len .slc (.t 43)),
 .o 45 (.bin .eql (.t 44) (kI 0))]
def prun_r7 : List Ins := [.o 46 (.build [.nslice, (.int .i64 0), .nslice] []),
 .x (.store 3 (.t 4) (.t 46)),
 .o 5 (.mov (kI 1))]
def prun_r8 : List Ins := [.o 47 (.faddr (.t 2) 0),
 .o 48 (.load (.t 47)),
 .o 49 (.len .slc (.t 48)),
 .o 50 (.mkslice 1 [(.int .i64 0)] (.t 49) (.t 49)),
 .mv 8 50]
def prun_r9 : List Ins := [.mv 51 8,
 .o 52 (.len .slc (.t 51)),
 .o 53 (.mov (kI 0))]
def prun_r10 : List Ins := [.o 54 (.bin .lss (.t 53) (.t 52))]
def prun_r11 : List Ins := [.mv 55 53,
 .mv 9 55]
def prun_r12 : List Ins := [.mv 56 8,
 .mv 57 9,
 .mv 58 9,
 .o 59 (.iaddr 1 (.t 56) (.t 57)),
 .x (.store 1 (.t 59) (.t 58))]
def prun_r13 : List Ins := [.o 60 (.bin .add (.t 53) (kI 1)),
 .mv 53 60]
def prun_r14 : List Ins := [.o 61 (.faddr (.t 2) 0),
 .o 62 (.load (.t 61)),
 .o 63 (.len .slc (.t 62)),
 .o 64 (.mov (kI 0))]
def prun_r15 : List Ins := [.o 65 (.bin .lss (.t 64) (.t 63))]
def prun_r16 : List Ins := [.mv 66 64,
 .o 67 (.iaddr 8 (.t 62) (.t 64)),
 .o 68 (.loadA 8 (.t 67)),
 .o 11 (.alloc [(.int .i64 0), (.int .i64 0), (.int .i64 0), .nslice, (.str []), (.int .i64 0), (.int .i64 0), (.int .i64 0)]),
 .mv 10 66,
 .x (.store 8 (.t 11) (.t 68))]
def prun_r17 : List Ins := [.o 69 (.faddr (.t 11) 0),
 .o 70 (.load (.t 69)),
 .o 71 (.bin .neq (.t 70) (kI 8))]
def prun_r18 : List Ins := [.o 72 (.faddr (.t 11) 3),
 .o 73 (.load (.t 72)),
 .o 74 (.len .slc (.t 73)),
 .o 75 (.mov (kI 0))]
def prun_r19 : List Ins := [.o 76 (.bin .lss (.t 75) (.t 74))]
def prun_r20 : List Ins := [.o 77 (.iaddr 1 (.t 73) (.t 75)),
 .o 78 (.load (.t 77)),
 .mv 13 78]
def prun_r21 : List Ins := [.mv 79 8,
 .mv 80 8,
 .mv 81 13,
 .f 82 85 [(.t 80), (.t 81)],
 .mv 83 8,
 .mv 84 10,
 .f 85 85 [(.t 83), (.t 84)],
 .o 86 (.iaddr 1 (.t 79) (.t 82)),
 .x (.store 1 (.t 86) (.t 85))]
def prun_r22 : List Ins := [.o 87 (.bin .add (.t 75) (kI 1)),
 .mv 75 87]
def prun_r23 : List Ins := [.o 88 (.bin .add (.t 64) (kI 1)),
 .mv 64 88]
def prun_r24 : List Ins := [.o 89 .mkmap,
 .o 14 (.alloc [.nmap]),
 .x (.store 1 (.t 14) (.t 89))]
def prun_r25 : List Ins := [.o 15 (.mov (.c .nslice))]
def prun_r26 : List Ins := [.mv 90 8,
 .o 91 (.len .slc (.t 90)),
 .o 92 (.mov (kI 0))]
def prun_r27 : List Ins := [.o 93 (.bin .lss (.t 92) (.t 91))]
def prun_r28 : List Ins := [.mv 94 92,
 .mv 16 94]
def prun_r29 : List Ins := [.mv 95 8,
 .mv 96 16,
 .f 97 85 [(.t 95), (.t 96)],
 .mv 17 97]
def prun_r30 : List Ins := [.o 98 (.load (.t 14)),
 .mv 99 17,
 .o 100 (.look .int (.int .i64 0) (.t 98) (.t 99) false),
 .o 101 (.bin .add (.t 100) (kI 1)),
 .x (.mupd .int (.t 98) (.t 99) (.t 101))]
def prun_r31 : List Ins := [.o 102 (.load (.t 14)),
 .mv 103 17,
 .o 104 (.look .int (.int .i64 0) (.t 102) (.t 103) false),
 .o 105 (.bin .eql (.t 104) (kI 1))]
def prun_r32 : List Ins := [.mv 106 15,
 .mv 107 17,
 .o 108 (.bslice 1 1 [(.int .i64 0)] [(0, 1, (.t 107))]),
 .o 109 (.app 1 (.t 106) (.t 108)),
 .mv 15 109]
def prun_r33 : List Ins := [.o 110 (.bin .add (.t 92) (kI 1)),
 .mv 92 110]
def prun_r34 : List Ins := [.mv 111 15,
 .o 112 (.mkfn 86 [] [(.t 14)]),
 .f 113 64 [(.t 111), (.t 112)]]
def prun_r35 : List Ins := [.o 114 (.faddr (.t 2) 0),
 .o 115 (.load (.t 114)),
 .o 116 (.len .slc (.t 115)),
 .o 117 (.mkslice 1 [(.int .i64 0)] (.t 116) (.t 116)),
 .mv 118 1,
 .mv 119 15,
 .o 120 (.len .slc (.t 119)),
 .o 121 (.mm false (.t 118) (.t 120)),
 .o 122 (.build [.nslice, (.int .i64 0), .nslice] [(0, 1, (.t 117)), (1, 1, (.t 121))]),
 .o 18 (.alloc [.nslice, (.int .i64 0), .nslice]),
 .x (.store 3 (.t 18) (.t 122))]
def prun_r36 : List Ins := [.o 123 (.faddr (.t 18) 1),
 .o 124 (.load (.t 123)),
 .o 125 (.mkslice 1 [(.int .i64 0)] (.t 124) (.t 124)),
 .mv 19 125]
def prun_r37 : List Ins := [.o 126 .mkmap,
 .mv 20 126]
def prun_r38 : List Ins := [.mv 127 15,
 .o 128 (.len .slc (.t 127)),
 .o 129 (.mov (kI 0))]
def prun_r39 : List Ins := [.o 130 (.bin .lss (.t 129) (.t 128))]
def prun_r40 : List Ins := [.o 131 (.iaddr 1 (.t 127) (.t 129)),
 .o 132 (.load (.t 131)),
 .mv 22 132]
def prun_r41 : List Ins := [.o 23 (.mov (kI 0))]
def prun_r42 : List Ins := [.mv 133 19,
 .o 134 (.len .slc (.t 133)),
 .o 135 (.mov (kI 0))]
def prun_r43 : List Ins := [.o 136 (.bin .lss (.t 135) (.t 134))]
def prun_r44 : List Ins := [.mv 137 135,
 .mv 24 137]
def prun_r45 : List DIns := [⟨0, [], .mv 138 19⟩,
 ⟨1, [], .mv 139 24⟩,
 ⟨2, [0, 1], .o 140 (.iaddr 1 (.t 138) (.t 139))⟩,
 ⟨3, [2], .o 141 (.load (.t 140))⟩,
 ⟨4, [], .mv 142 19⟩,
 ⟨5, [], .mv 143 23⟩,
 ⟨6, [4, 5], .o 144 (.iaddr 1 (.t 142) (.t 143))⟩,
 ⟨7, [6], .o 145 (.load (.t 144))⟩,
 ⟨8, [3, 7], .o 146 (.bin .lss (.t 141) (.t 145))⟩]
def prun_r46 : List Ins := [.mv 147 24,
 .mv 23 147]
def prun_r47 : List Ins := [.o 148 (.bin .add (.t 135) (kI 1)),
 .mv 135 148]
def prun_r48 : List Ins := [.mv 149 20,
 .mv 150 22,
 .mv 151 23,
 .x (.mupd .int (.t 149) (.t 150) (.t 151))]
def prun_r49 : List DIns := [⟨0, [], .mv 152 19⟩,
 ⟨1, [], .mv 153 23⟩,
 ⟨2, [0, 1], .o 154 (.iaddr 1 (.t 152) (.t 153))⟩,
 ⟨3, [2], .o 155 (.load (.t 154))⟩,
 ⟨4, [], .o 156 (.load (.t 14))⟩,
 ⟨5, [], .mv 157 22⟩,
 ⟨6, [4, 5], .o 158 (.look .int (.int .i64 0) (.t 156) (.t 157) false)⟩,
 ⟨7, [3, 6], .o 159 (.bin .add (.t 155) (.t 158))⟩,
 ⟨8, [0, 1, 0, 1, 2, 3, 4, 5, 6, 7], .o 160 (.iaddr 1 (.t 152) (.t 153))⟩,
 ⟨9, [8, 7, 0, 1, 2, 3, 4, 5, 6, 7], .x (.store 1 (.t 160) (.t 159))⟩]
def prun_r50 : List Ins := [.o 161 (.bin .add (.t 129) (kI 1)),
 .mv 129 161]
def prun_r51 : List Ins := [.o 162 (.faddr (.t 18) 0),
 .o 163 (.load (.t 162)),
 .o 164 (.len .slc (.t 163)),
 .o 165 (.mov (kI 0))]
def prun_r52 : List Ins := [.o 166 (.bin .lss (.t 165) (.t 164))]
def prun_r53 : List Ins := [.mv 167 165,
 .mv 25 167]
def prun_r54 : List DIns := [⟨0, [], .o 168 (.faddr (.t 18) 0)⟩,
 ⟨1, [0], .o 169 (.load (.t 168))⟩,
 ⟨2, [], .mv 170 25⟩,
 ⟨3, [], .mv 171 20⟩,
 ⟨4, [], .mv 172 8⟩,
 ⟨5, [], .mv 173 25⟩,
 ⟨6, [4, 5], .f 174 85 [(.t 172), (.t 173)]⟩,
 ⟨7, [3, 6], .o 175 (.look .int (.int .i64 0) (.t 171) (.t 174) false)⟩,
 ⟨8, [1, 2, 0, 1, 2, 3, 4, 5, 6, 7], .o 176 (.iaddr 1 (.t 169) (.t 170))⟩,
 ⟨9, [8, 7, 6, 0, 1, 2, 3, 4, 5, 6, 7], .x (.store 1 (.t 176) (.t 175))⟩]
def prun_r55 : List Ins := [.o 177 (.bin .add (.t 165) (kI 1)),
 .mv 165 177]
def prun_r56 : List Ins := [.o 178 (.loadA 3 (.t 2)),
 .o 179 (.loadA 3 (.t 18)),
 .f 180 81 [(.t 178), (.t 179)],
 .o 181 (.faddr (.t 18) 2),
 .x (.store 1 (.t 181) (.t 180))]
def prun_r57 : List Ins := [.o 182 (.loadA 3 (.t 18)),
 .x (.store 3 (.t 4) (.t 182)),
 .o 5 (.mov (kI 0))]
def prun_c : IC := (.seq (.reg prun_r0) (.seq (.seq (.reg prun_r1) (.cond (.t 31) (.seq (.reg prun_r2) .ret) .skip)) (.seq (.seq (.reg prun_r3) (.seq (.reg prun_r4) (.cond (.t 39) (.seq (.reg prun_r5) .ret) .skip))) (.seq (.seq (.reg prun_r6) (.cond (.t 45) (.seq (.reg prun_r7) .ret) .skip)) (.seq (.reg prun_r8) (.seq (.seq (.reg prun_r9) (.block 0 (.loop (.seq (.reg prun_r10) (.seq (.cond (.t 54) .skip (.exit 0)) (.seq (.block 1 (.seq (.reg prun_r11) (.reg prun_r12))) (.reg prun_r13))))))) (.seq (.seq (.reg prun_r14) (.block 2 (.loop (.seq (.reg prun_r15) (.seq (.cond (.t 65) .skip (.exit 2)) (.seq (.block 3 (.seq (.reg prun_r16) (.seq (.reg prun_r17) (.cond (.t 71) (.seq (.reg prun_r18) (.block 4 (.loop (.seq (.reg prun_r19) (.seq (.cond (.t 76) .skip (.exit 4)) (.seq (.block 5 (.seq (.reg prun_r20) (.reg prun_r21))) (.reg prun_r22))))))) .skip)))) (.reg prun_r23))))))) (.seq (.reg prun_r24) (.seq (.reg prun_r25) (.seq (.seq (.reg prun_r26) (.block 6 (.loop (.seq (.reg prun_r27) (.seq (.cond (.t 93) .skip (.exit 6)) (.seq (.block 7 (.seq (.reg prun_r28) (.seq (.reg prun_r29) (.seq (.reg prun_r30) (.seq (.reg prun_r31) (.cond (.t 105) (.reg prun_r32) .skip)))))) (.reg prun_r33))))))) (.seq (.reg prun_r34) (.seq (.reg prun_r35) (.seq (.reg prun_r36) (.seq (.reg prun_r37) (.seq (.seq (.reg prun_r38) (.block 8 (.loop (.seq (.reg prun_r39) (.seq (.cond (.t 130) .skip (.exit 8)) (.seq (.block 9 (.seq (.reg prun_r40) (.seq (.reg prun_r41) (.seq (.seq (.reg prun_r42) (.block 10 (.loop (.seq (.reg prun_r43) (.seq (.cond (.t 136) .skip (.exit 10)) (.seq (.block 11 (.seq (.reg prun_r44) (.seq (.draw prun_r45) (.cond (.t 146) (.reg prun_r46) .skip)))) (.reg prun_r47))))))) (.seq (.reg prun_r48) (.draw prun_r49)))))) (.reg prun_r50))))))) (.seq (.seq (.reg prun_r51) (.block 12 (.loop (.seq (.reg prun_r52) (.seq (.cond (.t 166) .skip (.exit 12)) (.seq (.block 13 (.seq (.reg prun_r53) (.draw prun_r54))) (.reg prun_r55))))))) (.seq (.reg prun_r56) (.seq (.reg prun_r57) .ret))))))))))))))))))
theorem prun_tab : tb 32 = some (.code 2 183 prun_c [.cell 4 3 true, .tmp 5]) := by kernel_rfl
set_option maxHeartbeats 8000000 in
theorem prun_ok {t : TB} {nx bd m : Nat} {vn vt : AV} {pp : Int} {ns : List Nd} {ts : List Int} (hN : RowN t bd vn ns) (hT : RowI t bd vt ts) (hb : bd ≤ nx) (hG : LvN ns) (hM : MayP ns ts pp) (htl : ts.length < 9223372036854775808) (hlong : ∀ x ∈ ns, x.ins.length < 60000 ∧ (∀ c ∈ x.value, c < 256) ∧ x.value.length ≤ 9223372036854775807) (hm1 : 1 ≤ m) (hm2 : m ≤ 64) (hne0 : 0 < ns.length) :
   WF tb 32 [.agg [vn, vt, .int .i64 pp], .int .i64 (m : Int)] t nx (fun v t' nx' => ∃ (ov av_ : AV) (os : List Int) (N : Nat), v = .tup [.agg [ov, .int .i64 (N : Int), av_], .int .i64 0] ∧ 1 ≤ N ∧ N ≤ m ∧ os.length = ns.length ∧ (∀ a ∈ os, 0 ≤ a ∧ a < (N : Int)) ∧ RowI t' nx' ov os ∧ RowM t' nx' av_ (matL N (ahM ns os ns.length)) ∧ nx ≤ nx' ∧ Keep t t' nx (fun _ => False)) := by
 have hcn := hN.cell
 have hct := hT.cell
 have hfew := hM.few
 refine k_fun prun_tab rfl ?_
 unfold prun_c
 change WC _ _ (TA.put (some _) (TA.put (some _) TA.e 0) 1) _ _ _
 refine k_seq (k_reg (r_heap (o_box (eV (get_other rfl get_same))) rfl (fun t1 (hh2 : hv t1 = upd (hv t) nx (some (.row [vn, vt, (.int .i64 pp)] true))) => r_heap (o_alloc) rfl (fun t3 (hh4 : hv t3 = upd (hv t1) (nx + 1) (some (.row [.nslice, (.int .i64 0), .nslice] true))) => rO (o_mov ev_c) (r_nil (k_seq (k_seq (k_reg (m1 (z1 (z2 get_same)) ?_)))))))))
 by_cases hs5 : (((m : Nat) : Int) < 1)
 · refine rO (dec_t (o_lss eZ ev_c) hs5) (m1 ds (r_off (wN ds) (r_off (wN (z1 ds)) (rO (o_pick_t (eV (z2 ds)) ev_c) (r_nil (k_cond_t eZ (k_seq (k_reg (rO (o_build fill_nil) (r_heap (o_store (n := 3) (eV (z8 ds)) eZ (lS hh4) rfl rfl (leb rfl)) rfl (fun t6 (hh7 : hv t6 = upd (hv t3) (nx + 1) (some (.row [.nslice, (.int .i64 0), .nslice] true))) => rO (o_mov ev_c) (r_nil (k_ret ?_)))))))))))))
   exfalso; omega
 refine rO (dec_f (o_lss eZ ev_c) hs5) (m1 ds (r_op (o_mov (eV (z2 (z4 get_same)))) (want_on ds) (r_op (o_gtr eZ ev_c) (want_on (z1 ds)) (rO (o_pick_f (eV (z2 ds)) eZ) (r_nil ?_)))))
 refine k_if eZ (fun hc8 => ?_) (fun hc8 => ?_)
 · refine k_seq (k_reg (rO (o_build fill_nil) (r_heap (o_store (n := 3) (eV (z8 ds)) eZ (lS hh4) rfl rfl (leb rfl)) rfl (fun t9 (hh10 : hv t9 = upd (hv t3) (nx + 1) (some (.row [.nslice, (.int .i64 0), .nslice] true))) => rO (o_mov ev_c) (r_nil (k_ret ?_))))))
   exfalso; omega
 refine k_skip (k_seq (k_seq (k_reg (rO (o_loadA (n := 3) (eV (z8 ds)) (lN hh4 (lS hh2)) (leb rfl) rfl) (r_call (w_callF (evs_cons eZ evs_nil)) rfl (WF.mono (lrun_ok (hN.keep (fun d hd hw => (show Keep t t3 nx (fun _ => False) from kU (kU kR hh2) hh4) d (by omega) hw) (Nat.le_refl bd)) (hT.keep (fun d hd hw => (show Keep t t3 nx (fun _ => False) from kU (kU kR hh2) hh4) d (by omega) hw) (Nat.le_refl bd)) (by omega) hG hM htl hlong) ?_))))))
 rintro _ t11 n12 ⟨lv, rfl, hn_l, hk_l⟩
 obtain ⟨n_l, rfl⟩ : ∃ k, k = n12 := ⟨_, rfl⟩
 refine m1 ds (rO (o_extr eZ rfl) (rO (o_extr (eV (z1 ds)) rfl) (m1 (z1 ds) (m1 (z1 ds) (r_nil (k_seq (k_reg (m1 ds (rO (ndec_f (o_neq eZ ev_c) (by simp)) (r_nil (k_cond_f eZ (k_skip (k_seq (k_seq (k_reg (rO (o_faddr (off := 0) (eV (z1 (z8 (z8 ds))))) (rO (o_load eZ (Keep.look hk_l (by omega) id (lN hh4 (lS hh2))) rfl) (rO (o_len_N hN eZ) (rO (o_eql eZ ev_c) (r_nil ?_))))))))))))))))))))
 refine k_if eZ (fun hc13 => ?_) (fun hc13 => ?_)
 · refine k_seq (k_reg (rO (o_build fill_nil) (r_heap (o_store (n := 3) (eV (z1 (z4 (z8 (z8 ds))))) eZ (Keep.look hk_l (by omega) id (lS hh4)) rfl rfl (leb rfl)) rfl (fun t14 (hh15 : hv t14 = upd (hv t11) (nx + 1) (some (.row [.nslice, (.int .i64 0), .nslice] true))) => rO (o_mov ev_c) (r_nil (k_ret ?_))))))
   exfalso; omega
 refine k_skip (k_seq (k_reg (rO (o_faddr (off := 0) (eV (z1 (z4 (z8 (z8 ds)))))) (rO (o_load eZ (Keep.look hk_l (by omega) id (lN hh4 (lS hh2))) rfl) (rO (o_len_N hN eZ) (r_heap (o_mkints (w := ns.length) eZ eZ (by omega)) rfl (fun t16 (hh17 : hv t16 = upd (hv t11) n_l (some (.row (ints (rowOf ns.length (fun _ => 0))) true))) => m1 ds (r_nil (k_seq (k_seq (k_reg (m1 ds (rO (o_len_slice eZ) (rO (o_mov ev_c) (r_nil (k_block (k_loop (fun mm Ta ta na => ∃ (i : Nat) (l : List Int), (i ≤ ns.length) ∧ (l.length = ns.length) ∧ (∀ j, j < i → g l j = (j : Int)) ∧ (n_l + 1 ≤ na) ∧ (hv ta nx = some (.row [vn, vt, .int .i64 pp] true) ∧ hv ta (nx + 1) = some (.row [.nslice, .int .i64 0, .nslice] true) ∧ hv ta n_l = some (.row (ints l) true)) ∧ (Ta.get 2 = some (.ptr nx 0) ∧ Ta.get 4 = some (.ptr (nx + 1) 0) ∧ Ta.get 1 = some (.int .i64 ((m : Nat) : Int)) ∧ Ta.get 8 = some (.slice n_l 0 ns.length ns.length 1 true) ∧ Ta.get 52 = some (.int .i64 ((ns.length : Nat) : Int)) ∧ Ta.get 53 = some (.int .i64 ((i : Nat) : Int))) ∧ nx ≤ na ∧ Keep t ta nx (fun _ => False) ∧ mm + i = ns.length) (fun mm Ta ta na hI => ?_) (ns.length) ⟨0, _, by omega, rowOf_len _ _, fun j hj => by omega, by omega, ⟨(lN hh17 (Keep.look hk_l (by omega) id (lN hh4 (lS hh2)))), (lN hh17 (Keep.look hk_l (by omega) id (lS hh4))), (lS hh17)⟩, ⟨(z1 (z4 (z8 (z8 (z8 ds))))), (z4 (z8 (z8 (z8 ds)))), (z2 (z4 (z8 (z8 (z8 get_same))))), (z1 (z2 ds)), (z1 ds), ds⟩, by omega, kU (Keep.trans (kU (kU kR hh2) hh4) hk_l (by omega) (fun d _ h => h)) hh17, by omega⟩)))))))))))))))))
 obtain ⟨i, l, hi, hl, hg, hnl, ⟨hr0, hr1, hrG⟩, ⟨qa2, qa4, qa1, qa8, qa52, qa53⟩, hna, hka, hmm⟩ := hI
 refine k_seq (k_reg (rO (o_lss (eV qa53) (eV qa52)) (r_nil (k_seq ?_))))
 refine k_if eZ (fun hc18 => ?_) (fun hc18 => ?_)
 · refine k_skip (k_seq (k_block (k_seq (k_reg (m1 (z1 qa53) (m1 ds (r_nil (k_reg (m1 (z1 (z2 qa8)) (m1 (z1 ds) (m1 (z2 ds) (rO (o_iaddr1 (i := i) (eV (z2 ds)) (eV (z1 ds)) (by omega)) ?_))))))))))))
   refine r_heap (o_storeI (l := l) eZ (eV (z1 ds)) hrG (by have h_ := hl; omega)) rfl (fun t19 (hh20 : hv t19 = upd (hv ta) n_l (some (.row (ints (l.set i ((i : Nat) : Int))) true))) => ?_)
   refine r_nil (k_reg (rO (o_addN (a := i) (b := 1) (eV (z8 qa53)) ev_c (by omega)) (m1 ds (r_nil ?_))))
   exact ⟨mm - 1, by omega, i + 1, _, by omega, by rw [List.length_set]; exact hl, fun j hj => by rw [g_set]; split <;> first | omega | exact hg j (by omega), by omega, ⟨(lN hh20 hr0), (lN hh20 hr1), (lS hh20)⟩, ⟨(z2 (z8 qa2)), (z2 (z8 qa4)), (z2 (z8 qa1)), (z2 (z8 qa8)), (z2 (z8 qa52)), ds⟩, by omega, kU (hka) hh20, by omega⟩
 refine k_exit (exK_same (k_seq (k_seq (k_reg (rO (o_faddr (off := 0) (eV (z1 qa2))) (rO (o_load eZ hr0 rfl) (rO (o_len_N hN eZ) (rO (o_mov ev_c) (r_nil (k_block ?_))))))))))
 have huf0 : UF ns.length l id (fun _ => 0) := UF.start _ _ hl (fun k hk => hg k (by omega))
 refine k_loop (fun mm Tb tb nb => ∃ (i : Nat) (l : List Int) (R dd : Nat → Nat), (i ≤ ns.length) ∧ (UF ns.length l R dd) ∧ (n_l + 1 ≤ nb) ∧ (hv tb nx = some (.row [vn, vt, .int .i64 pp] true) ∧ hv tb (nx + 1) = some (.row [.nslice, .int .i64 0, .nslice] true) ∧ hv tb n_l = some (.row (ints l) true)) ∧ (Tb.get 2 = some (.ptr nx 0) ∧ Tb.get 4 = some (.ptr (nx + 1) 0) ∧ Tb.get 1 = some (.int .i64 ((m : Nat) : Int)) ∧ Tb.get 8 = some (.slice n_l 0 ns.length ns.length 1 true) ∧ Tb.get 62 = some vn ∧ Tb.get 63 = some (.int .i64 ((ns.length : Nat) : Int)) ∧ Tb.get 64 = some (.int .i64 ((i : Nat) : Int))) ∧ nx ≤ nb ∧ Keep t tb nx (fun _ => False) ∧ mm + i = ns.length) (fun mm Tb tb nb hI => ?_) (ns.length) ⟨0, l, id, (fun _ => 0), by omega, huf0, by omega, ⟨hr0, hr1, hrG⟩, ⟨(z1 (z4 qa2)), (z1 (z4 qa4)), (z1 (z4 qa1)), (z1 (z4 qa8)), (z2 ds), (z1 ds), ds⟩, by omega, hka, by omega⟩
 obtain ⟨i, l, R, dd, hi, huf, hnl, ⟨hr0, hr1, hrG⟩, ⟨qb2, qb4, qb1, qb8, qb62, qb63, qb64⟩, hnb, hkb, hmm⟩ := hI
 refine k_seq (k_reg (rO (o_lss (eV qb64) (eV qb63)) (r_nil (k_seq ?_))))
 refine k_if eZ (fun hc21 => ?_) (fun hc21 => ?_)
 · refine k_skip (k_seq (k_block (k_seq ?_)))
   rcases hN with ⟨-, h0⟩ | ⟨dN, on, cn, exn, wrn, rn, ivs, hne, hdn, hrn, hrln, hsegn, hivl, hivr⟩
   · have h_ := congrArg List.length h0; simp only [List.length_nil] at h_; omega
   have hN : RowN t bd vn ns := .inr ⟨dN, on, cn, exn, wrn, rn, ivs, hne, hdn, hrn, hrln, hsegn, hivl, hivr⟩
   obtain ⟨x, hx⟩ := some_at (l := ns) (i := i) (by omega)
   obtain ⟨iv, hiv⟩ := some_at (l := ivs) (i := i) (by omega)
   have hI := hivr i x iv hx hiv
   have hic := hI.cell
   have hrn1 := hkb.look (by omega) id hrn
   have hxm := List.mem_of_getElem? hx
   have hins := (hM.nodes x hxm).2
   have hxl := (hlong x hxm).1
   refine k_reg (m1 (z1 qb64) (rO (o_iaddrE (i := i) (eV (z2 qb62)) hne (eV (z2 qb64)) (by omega)) (rO (o_loadA (n := 8) eZ hrn1 (by omega) (nodeN_all hsegn hivl hx hiv)) (r_heap (o_alloc) rfl (fun t22 (hh23 : hv t22 = upd (hv tb) nb (some (.row [(.int .i64 0), (.int .i64 0), (.int .i64 0), .nslice, (.str []), (.int .i64 0), (.int .i64 0), (.int .i64 0)] true))) => m1 (z1 (z2 ds)) (r_heap (o_store (n := 8) (eV (z1 ds)) (eV (z2 ds)) (lS hh23) rfl (ncells_cell x hic) (leb rfl)) rfl (fun t24 (hh25 : hv t24 = upd (hv t22) nb (some (.row [(.int .i64 x.kind), (.int .i64 x.op), (.int .i64 x.wide), iv, (.str x.value), (.int .i64 x.hi), (.int .i64 x.lo), (.int .i64 x.time)] true))) => r_nil (k_seq (k_reg (rO (o_faddr (off := 0) (eV (z2 ds))) (rO (o_load eZ (lS hh25) rfl) (rO (o_neq eZ ev_c) (r_nil ?_)))))))))))))
   refine k_in eZ (fun hc26 => ?_) (fun hc26 => ?_)
   · refine k_seq (k_reg (rO (o_faddr (off := 3) (eV (z1 (z4 ds)))) (rO (o_load eZ (lS hh25) rfl) (rO (o_len_I hI eZ) (rO (o_mov ev_c) (r_nil (k_block (k_loop (fun mm Tc tc nc => ∃ (j : Nat) (l : List Int) (R dd : Nat → Nat), (j ≤ x.ins.length) ∧ (UF ns.length l R dd) ∧ (n_l + 1 ≤ nc) ∧ (hv tc nx = some (.row [vn, vt, .int .i64 pp] true) ∧ hv tc (nx + 1) = some (.row [.nslice, .int .i64 0, .nslice] true) ∧ hv tc n_l = some (.row (ints l) true)) ∧ (Tc.get 2 = some (.ptr nx 0) ∧ Tc.get 4 = some (.ptr (nx + 1) 0) ∧ Tc.get 1 = some (.int .i64 ((m : Nat) : Int)) ∧ Tc.get 8 = some (.slice n_l 0 ns.length ns.length 1 true) ∧ Tc.get 62 = some vn ∧ Tc.get 63 = some (.int .i64 ((ns.length : Nat) : Int)) ∧ Tc.get 64 = some (.int .i64 ((i : Nat) : Int)) ∧ Tc.get 10 = some (.int .i64 ((i : Nat) : Int)) ∧ Tc.get 73 = some iv ∧ Tc.get 74 = some (.int .i64 ((x.ins.length : Nat) : Int)) ∧ Tc.get 75 = some (.int .i64 ((j : Nat) : Int))) ∧ nx ≤ nc ∧ Keep t tc nx (fun _ => False) ∧ mm + j = x.ins.length) (fun mm Tc tc nc hI => ?_) (x.ins.length) ⟨0, l, R, dd, by omega, huf, by omega, ⟨(lN hh25 (lN hh23 hr0)), (lN hh25 (lN hh23 hr1)), (lN hh25 (lN hh23 hrG))⟩, ⟨(z2 (z4 (z8 qb2))), (z2 (z4 (z8 qb4))), (z2 (z4 (z8 qb1))), (z2 (z4 (z8 qb8))), (z2 (z4 (z8 qb62))), (z2 (z4 (z8 qb63))), (z2 (z4 (z8 qb64))), (z8 ds), (z2 ds), (z1 ds), ds⟩, by omega, kU (kU (hkb) hh23) hh25, by omega⟩))))))))
     obtain ⟨j, l, R, dd, hj, huf, hnl, ⟨hr0, hr1, hrG⟩, ⟨qc2, qc4, qc1, qc8, qc62, qc63, qc64, qc10, qc73, qc74, qc75⟩, hnc, hkc, hmm⟩ := hI
     refine k_seq (k_reg (rO (o_lss (eV qc75) (eV qc74)) (r_nil (k_seq ?_))))
     refine k_if eZ (fun hc27 => ?_) (fun hc27 => ?_)
     · refine k_skip (k_seq (k_block (k_seq ?_)))
       have hi_ := hI
       rcases hi_ with ⟨-, h0⟩ | ⟨dj, oj, cj, exj, wrj, rj, hej, hdj, hrj, hrlj, hsegj⟩
       · have h_ := congrArg List.length h0; simp only [List.length_nil] at h_; omega
       have hrj_ := hkc.look (by omega) id hrj
       obtain ⟨k0, hk0⟩ := some_at (l := x.ins) (i := j) (by omega)
       have hkb_ := hins k0 (List.mem_of_getElem? hk0)
       obtain ⟨k, rfl⟩ := Int.eq_ofNat_of_zero_le hkb_.1
       have hRk := (huf.rt k (by omega)).1
       have hRi := (huf.rt i (by omega)).1
       refine k_reg (rO (o_iaddrE (i := j) (eV (z1 qc73)) hej (eV (z1 qc75)) (by omega)) ?_)
       refine rO (o_load eZ hrj_ (by rw [Nat.mul_one]; exact rowI_get (i := j) hsegj hk0)) ?_
       refine m1 ds (r_nil (k_reg (m1 (z4 qc8) (m1 (z1 (z4 qc8)) (m1 (z2 ds) (r_call (w_callF (evs_cons (eV (z1 ds)) (evs_cons eZ evs_nil))) rfl (WF.mono (find_ok (k0 := k) huf hrG (by omega) (by omega) (by omega)) ?_)))))))
       rintro _ t28 n29 ⟨l2, rfl, huf1, hrf1, hnf1, hkf1⟩
       refine m1 (z8 qc8) (m1 (z1 (z8 qc10)) (r_call (w_callF (evs_cons (eV (z1 ds)) (evs_cons eZ evs_nil))) rfl (WF.mono (find_ok (k0 := i) huf1 hrf1 (by omega) (by omega) (by omega)) ?_)))
       rintro _ t30 n31 ⟨l3, rfl, huf2, hrf2, hnf2, hkf2⟩
       refine rO (o_iaddr1 (i := (R k)) (eV (z2 (z4 ds))) (eV (z1 (z2 ds))) (by omega)) ?_
       refine r_heap (o_storeI (l := l3) eZ (eV (z1 ds)) hrf2 (by have h_ := huf2.len; omega)) rfl (fun t32 (hh33 : hv t32 = upd (hv t30) n_l (some (.row (ints (l3.set (R k) (((R i) : Nat) : Int))) true))) => ?_)
       refine r_nil (k_reg (rO (o_addN (a := j) (b := 1) (eV (z1 (z4 (z8 qc75)))) ev_c (by omega)) (m1 ds (r_nil ?_))))
       obtain ⟨R2, d2, huf4⟩ := huf2.join (i := k) (k := i) (by omega) (by omega)
       exact ⟨x.ins.length - (j + 1), by omega, j + 1, _, R2, d2, by omega, huf4, by omega, ⟨(lN hh33 (Keep.look hkf2 (by omega) (fun h_ => absurd (show nx = n_l from h_) (by omega)) (Keep.look hkf1 (by omega) (fun h_ => absurd (show nx = n_l from h_) (by omega)) hr0))), (lN hh33 (Keep.look hkf2 (by omega) (fun h_ => absurd (show (nx + 1) = n_l from h_) (by omega)) (Keep.look hkf1 (by omega) (fun h_ => absurd (show (nx + 1) = n_l from h_) (by omega)) hr1))), (lS hh33)⟩, ⟨(z1 (z2 (z4 (z8 qc2)))), (z1 (z2 (z4 (z8 qc4)))), (z1 (z2 (z4 (z8 qc1)))), (z1 (z2 (z4 (z8 qc8)))), (z1 (z2 (z4 (z8 qc62)))), (z1 (z2 (z4 (z8 qc63)))), (z1 (z2 (z4 (z8 qc64)))), (z1 (z2 (z4 (z8 qc10)))), (z1 (z2 (z4 (z8 qc73)))), (z1 (z2 (z4 (z8 qc74)))), ds⟩, by omega, kU (Keep.trans (Keep.trans (hkc) hkf1 (by omega) ((fun b hb e => absurd (show b = n_l from e) (by omega)))) hkf2 (by omega) ((fun b hb e => absurd (show b = n_l from e) (by omega)))) hh33, by omega⟩
     refine k_exit (exK_same (k_reg (rO (o_addN (a := i) (b := 1) (eV (z1 qc64)) ev_c (by omega)) (m1 ds (r_nil ?_)))))
     exact ⟨ns.length - (i + 1), by omega, i + 1, l, R, dd, by omega, huf, by omega, ⟨hr0, hr1, hrG⟩, ⟨(z1 (z2 qc2)), (z1 (z2 qc4)), (z1 (z2 qc1)), (z1 (z2 qc8)), (z1 (z2 qc62)), (z1 (z2 qc63)), ds⟩, by omega, hkc, by omega⟩
   refine k_skip (k_reg (rO (o_addN (a := i) (b := 1) (eV (z2 (z8 qb64))) ev_c (by omega)) (m1 ds (r_nil ?_))))
   exact ⟨ns.length - (i + 1), by omega, i + 1, l, R, dd, by omega, huf, by omega, ⟨(lN hh25 (lN hh23 hr0)), (lN hh25 (lN hh23 hr1)), (lN hh25 (lN hh23 hrG))⟩, ⟨(z4 (z8 qb2)), (z4 (z8 qb4)), (z4 (z8 qb1)), (z4 (z8 qb8)), (z4 (z8 qb62)), (z4 (z8 qb63)), ds⟩, by omega, kU (kU (hkb) hh23) hh25, by omega⟩
 refine k_exit (exK_same (k_seq (k_reg (r_heap (o_mkmap) rfl (fun t34 (hh35 : hv t34 = upd (hv tb) nb (some (.map [] 0))) => r_heap (o_alloc) rfl (fun t36 (hh37 : hv t36 = upd (hv t34) (nb + 1) (some (.row [.nmap] true))) => r_heap (o_store (n := 1) eZ (eV (z1 ds)) (lS hh37) rfl rfl (leb rfl)) rfl (fun t38 (hh39 : hv t38 = upd (hv t36) (nb + 1) (some (.row [(.map nb)] true))) => r_nil (k_seq (k_reg (rO (o_mov ev_c) (r_nil (k_seq (k_seq (k_reg (m1 (z1 (z4 qb8)) (rO (o_len_slice eZ) (rO (o_mov ev_c) (r_nil (k_block (k_loop (fun mm Td td nd => ∃ (i : Nat) (l : List Int) (R dd : Nat → Nat) (es : List (AV × AV × Nat)) (clk : Nat) (av_ : AV) (A : List Int), (i ≤ ns.length) ∧ (UF ns.length l R dd) ∧ (nb + 2 ≤ nd) ∧ (mInt es) ∧ (∀ q, 0 ≤ mget es q ∧ mget es q ≤ (i : Int)) ∧ (RowX td ((nb + 1) + 1) nd av_ A) ∧ (A.length ≤ i) ∧ (0 < i → 0 < A.length) ∧ (hv td nx = some (.row [vn, vt, .int .i64 pp] true) ∧ hv td (nx + 1) = some (.row [.nslice, .int .i64 0, .nslice] true) ∧ hv td n_l = some (.row (ints l) true) ∧ hv td nb = some (.map es clk) ∧ hv td (nb + 1) = some (.row [.map nb] true)) ∧ (Td.get 2 = some (.ptr nx 0) ∧ Td.get 4 = some (.ptr (nx + 1) 0) ∧ Td.get 1 = some (.int .i64 ((m : Nat) : Int)) ∧ Td.get 8 = some (.slice n_l 0 ns.length ns.length 1 true) ∧ Td.get 14 = some (.ptr (nb + 1) 0) ∧ Td.get 15 = some av_ ∧ Td.get 91 = some (.int .i64 ((ns.length : Nat) : Int)) ∧ Td.get 92 = some (.int .i64 ((i : Nat) : Int))) ∧ nx ≤ nd ∧ Keep t td nx (fun _ => False) ∧ mm + i = ns.length) (fun mm Td td nd hI => ?_) (ns.length) ⟨0, l, R, dd, [], 0, .nslice, [], by omega, huf, by omega, (fun e he => by cases he), (fun q => by simp [mget]), .inl ⟨rfl, rfl⟩, by simp, by omega, ⟨(lN hh39 (lN hh37 (lN hh35 hr0))), (lN hh39 (lN hh37 (lN hh35 hr1))), (lN hh39 (lN hh37 (lN hh35 hrG))), (lN hh39 (lN hh37 (lS hh35))), (lS hh39)⟩, ⟨(z8 qb2), (z8 qb4), (z8 qb1), (z8 qb8), (z1 (z4 ds)), (z1 (z2 ds)), (z1 ds), ds⟩, by omega, kU (kU (kU (hkb) hh35) hh37) hh39, by omega⟩))))))))))))))))))))
 obtain ⟨i, l, R, dd, es, clk, av_, A, hi, huf, hnd2, hmi, hsz, hX, hA1, hA2, ⟨hr0, hr1, hrG, hrM, hrZ⟩, ⟨qd2, qd4, qd1, qd8, qd14, qd15, qd91, qd92⟩, hnd, hkd, hmm⟩ := hI
 refine k_seq (k_reg (rO (o_lss (eV qd92) (eV qd91)) (r_nil (k_seq ?_))))
 refine k_if eZ (fun hc40 => ?_) (fun hc40 => ?_)
 · refine k_skip (k_seq (k_block (k_seq (k_reg (m1 (z1 qd92) (m1 ds (r_nil (k_seq ?_))))))))
   have hRi := (huf.rt i (by omega)).1
   have hq1 := hsz ((R i : Nat) : Int)
   refine k_reg (m1 (z1 (z2 qd8)) (m1 (z1 ds) (r_call (w_callF (evs_cons (eV (z1 ds)) (evs_cons eZ evs_nil))) rfl (WF.mono (find_ok (k0 := i) huf hrG (by omega) (by omega) (by omega)) ?_))))
   rintro _ t41 n42 ⟨l2, rfl, huf1, hrf1, hnf1, hkf1⟩
   refine m1 ds (r_nil (k_seq (k_reg (rO (o_load (eV (z1 (z2 (z4 qd14)))) (Keep.look hkf1 (by omega) (fun h_ => absurd (show (nb + 1) = n_l from h_) (by omega)) hrZ) rfl) (m1 (z1 ds) (rO (o_look (eV (z1 ds)) eZ (Keep.look hkf1 (by omega) (fun h_ => absurd (show nb = n_l from h_) (by omega)) hrM) hmi) (rO (o_add eZ ev_c (by omega) (by omega)) (r_heap (o_mupd (eV (z1 (z2 ds))) (eV (z2 ds)) eZ (Keep.look hkf1 (by omega) (fun h_ => absurd (show nb = n_l from h_) (by omega)) hrM) hmi) rfl (fun tm2 ⟨es2, clk2, hmq2, hmi2, hmg2⟩ => r_nil (k_seq ?_))))))))))
   have hq2 := hmg2 ((R i : Nat) : Int)
   rw [if_pos rfl] at hq2
   refine k_reg (rO (o_load (eV (z4 (z8 qd14))) (lN hmq2 (Keep.look hkf1 (by omega) (fun h_ => absurd (show (nb + 1) = n_l from h_) (by omega)) hrZ)) rfl) (m1 (z2 (z4 ds)) (rO (o_look (eV (z1 ds)) eZ (lS hmq2) hmi2) (rO (o_eql eZ ev_c) (r_nil ?_)))))
   refine k_if eZ (fun hc43 => ?_) (fun hc43 => ?_)
   · refine k_reg (m1 (z8 (z8 qd15)) (m1 (z2 (z8 ds)) (r_heap (o_bslice (fill_cons eZ rfl rfl fill_nil)) rfl (fun t44 (hh45 : hv t44 = upd (hv tm2) n42 (some (.row [(.int .i64 (((R i) : Nat) : Int))] true))) => r_heap (o_appE (eV (z2 ds)) eZ (app_X (lo := ((nb + 1) + 1)) (hX.keep (fun d h1 h2 => ((((congrFun hh45 d).trans (upd_ne _ _ _ _ (by omega))).trans ((congrFun hmq2 d).trans (upd_ne _ _ _ _ (by omega)))).trans (hkf1 _ (by omega) (fun h_ => absurd (show d = n_l from h_) (by omega))))) (Nat.le_refl _)) (by omega) (lS hh45) (by omega))) rfl (fun ta ⟨hX2, hka⟩ => m1 ds (r_nil (k_reg (rO (o_addN (a := i) (b := 1) (eV (z1 (z4 (z8 (z8 qd92))))) ev_c (by omega)) (m1 ds (r_nil ?_))))))))))
     exact ⟨ns.length - (i + 1), by omega, i + 1, l2, R, dd, es2, clk2, _, A ++ [((R i : Nat) : Int)], by omega, huf1, by omega, hmi2, (fun q => by have h1_ := hmg2 q; have h2_ := hsz q; rw [h1_]; split <;> omega), hX2, by simp only [List.length_append, List.length_cons, List.length_nil]; omega, by intro _; simp only [List.length_append, List.length_cons, List.length_nil]; omega, ⟨(Keep.look hka (by omega) (fun h_ => absurd (show ((nb + 1) + 1) ≤ nx from h_) (by omega)) (lN hh45 (lN hmq2 (Keep.look hkf1 (by omega) (fun h_ => absurd (show nx = n_l from h_) (by omega)) hr0)))), (Keep.look hka (by omega) (fun h_ => absurd (show ((nb + 1) + 1) ≤ (nx + 1) from h_) (by omega)) (lN hh45 (lN hmq2 (Keep.look hkf1 (by omega) (fun h_ => absurd (show (nx + 1) = n_l from h_) (by omega)) hr1)))), (Keep.look hka (by omega) (fun h_ => absurd (show ((nb + 1) + 1) ≤ n_l from h_) (by omega)) (lN hh45 (lN hmq2 hrf1))), (Keep.look hka (by omega) (fun h_ => absurd (show ((nb + 1) + 1) ≤ nb from h_) (by omega)) (lN hh45 (lS hmq2))), (Keep.look hka (by omega) (fun h_ => absurd (show ((nb + 1) + 1) ≤ (nb + 1) from h_) (by omega)) (lN hh45 (lN hmq2 (Keep.look hkf1 (by omega) (fun h_ => absurd (show (nb + 1) = n_l from h_) (by omega)) hrZ))))⟩, ⟨(z1 (z2 (z4 (z8 (z8 qd2))))), (z1 (z2 (z4 (z8 (z8 qd4))))), (z1 (z2 (z4 (z8 (z8 qd1))))), (z1 (z2 (z4 (z8 (z8 qd8))))), (z1 (z2 (z4 (z8 (z8 qd14))))), (z2 ds), (z1 (z2 (z4 (z8 (z8 qd91))))), ds⟩, by omega, Keep.trans (kU (kU (Keep.trans (hkd) hkf1 (by omega) ((fun b hb e => absurd (show b = n_l from e) (by omega)))) hmq2) hh45) hka (by omega) ((fun b hb e => absurd (show ((nb + 1) + 1) ≤ b from e) (by omega))), by omega⟩
   refine k_skip (k_reg (rO (o_addN (a := i) (b := 1) (eV (z8 (z8 qd92))) ev_c (by omega)) (m1 ds (r_nil ?_))))
   exact ⟨ns.length - (i + 1), by omega, i + 1, l2, R, dd, es2, clk2, av_, A, by omega, huf1, by omega, hmi2, (fun q => by have h1_ := hmg2 q; have h2_ := hsz q; rw [h1_]; split <;> omega), (hX.keep (fun d h1 h2 => (((congrFun hmq2 d).trans (upd_ne _ _ _ _ (by omega))).trans (hkf1 _ (by omega) (fun h_ => absurd (show d = n_l from h_) (by omega))))) (by omega)), by omega, by intro _; omega, ⟨(lN hmq2 (Keep.look hkf1 (by omega) (fun h_ => absurd (show nx = n_l from h_) (by omega)) hr0)), (lN hmq2 (Keep.look hkf1 (by omega) (fun h_ => absurd (show (nx + 1) = n_l from h_) (by omega)) hr1)), (lN hmq2 hrf1), (lS hmq2), (lN hmq2 (Keep.look hkf1 (by omega) (fun h_ => absurd (show (nb + 1) = n_l from h_) (by omega)) hrZ))⟩, ⟨(z2 (z8 (z8 qd2))), (z2 (z8 (z8 qd4))), (z2 (z8 (z8 qd1))), (z2 (z8 (z8 qd8))), (z2 (z8 (z8 qd14))), (z2 (z8 (z8 qd15))), (z2 (z8 (z8 qd91))), ds⟩, by omega, kU (Keep.trans (hkd) hkf1 (by omega) ((fun b hb e => absurd (show b = n_l from e) (by omega)))) hmq2, by omega⟩
 refine k_exit (exK_same (k_seq ?_))
 have hsz2 : ∀ q, 0 ≤ mget es q ∧ mget es q ≤ 4096 := fun q => by have h_ := hsz q; omega
 have hA0 : 0 < A.length := by omega
 rcases hX with ⟨-, h0⟩ | ⟨dA, rfl, hdA, hdA2, hAr⟩
 · rw [h0] at hA0; simp at hA0
 have hcm : CmpOK td nd dA (fun _ => True) (fun x => -(mget es x)) (.func 86 [] [.ptr (nb + 1) 0]) := ⟨_, _, _, rfl, fun x y t1 n1 _ _ h1 h2 => cmpz_ok x y (h2.look (by omega) (fun h_ => absurd (show nb = dA from h_) (by omega)) hrM) (h2.look (by omega) (fun h_ => absurd (show nb + 1 = dA from h_) (by omega)) hrZ) hmi⟩
 refine k_reg (m1 (z1 qd15) (rO (o_mkfn evs_nil (evs_cons (eV (z2 qd14)) evs_nil)) (r_call (w_callF (evs_cons (eV (z1 ds)) (evs_cons eZ evs_nil))) rfl (WF.mono (ssf_ok (n := A.length) rfl hAr (by omega) (by omega) hcm (Nat.le_refl _) (by omega) kR (fun _ _ => trivial)) ?_))))
 rintro _ t46 n47 ⟨l3, rfl, hl_s, hr_s, hsg_s, hso_s, hn_s, hk_s⟩
 obtain ⟨n_s, rfl⟩ : ∃ k, k = n47 := ⟨_, rfl⟩
 refine r_nil (k_seq (k_reg (rO (o_faddr (off := 0) (eV (z4 qd2))) (rO (o_load eZ (Keep.look hk_s (by omega) (fun h_ => absurd (show nx = dA from h_) (by omega)) hr0) rfl) (rO (o_len_N hN eZ) (r_heap (o_mkints (w := ns.length) eZ eZ (by omega)) rfl (fun t48 (hh49 : hv t48 = upd (hv t46) n_s (some (.row (ints (rowOf ns.length (fun _ => 0))) true))) => m1 (z8 qd1) (m1 (z1 (z8 qd15)) (rO (o_len_slice eZ) (rO (o_minN (a := m) (b := A.length) (eV (z2 ds)) eZ) (rO (o_build (fill_cons (eV (z4 ds)) rfl rfl (fill_cons eZ rfl rfl fill_nil))) (r_heap (o_alloc) rfl (fun t50 (hh51 : hv t50 = upd (hv t48) (n_s + 1) (some (.row [.nslice, (.int .i64 0), .nslice] true))) => r_heap (o_store (n := 3) eZ (eV (z1 ds)) (lS hh51) rfl rfl (leb rfl)) rfl (fun t52 (hh53 : hv t52 = upd (hv t50) (n_s + 1) (some (.row [(.slice n_s 0 ns.length ns.length 1 true), (.int .i64 (((min m A.length) : Nat) : Int)), .nslice] true))) => r_nil (k_seq (k_reg (rO (o_faddr (off := 1) (eV (z1 ds))) (rO (o_load eZ (lS hh53) rfl) (r_heap (o_mkints (w := (min m A.length)) eZ eZ (by omega)) rfl (fun t54 (hh55 : hv t54 = upd (hv t52) ((n_s + 1) + 1) (some (.row (ints (rowOf (min m A.length) (fun _ => 0))) true))) => m1 ds (r_nil (k_seq (k_reg (r_heap (o_mkmap) rfl (fun t56 (hh57 : hv t56 = upd (hv t54) (((n_s + 1) + 1) + 1) (some (.map [] 0))) => m1 ds ?_)))))))))))))))))))))))))
 refine r_nil (k_seq (k_seq (k_reg (m1 (z1 (z4 (z8 (z8 qd15)))) (rO (o_len_slice eZ) (rO (o_mov ev_c) (r_nil (k_block ?_))))))))
 refine k_loop (fun mm Tf tf nf => ∃ (i : Nat) (L : List Int) (eb : List (AV × AV × Nat)) (kb : Nat), (i ≤ A.length) ∧ (n_s + 4 ≤ nf) ∧ (L.length = (min m A.length)) ∧ (∀ j, 0 ≤ g L j ∧ g L j ≤ ((i * 4096 : Nat) : Int)) ∧ (mInt eb) ∧ (∀ q, 0 ≤ mget eb q ∧ mget eb q < (((min m A.length) : Nat) : Int)) ∧ (hv tf nx = some (.row [vn, vt, .int .i64 pp] true) ∧ hv tf (nx + 1) = some (.row [.nslice, .int .i64 0, .nslice] true) ∧ hv tf n_l = some (.row (ints l) true) ∧ hv tf nb = some (.map es clk) ∧ hv tf (nb + 1) = some (.row [.map nb] true) ∧ hv tf n_s = some (.row (ints (rowOf ns.length (fun _ => 0))) true) ∧ hv tf (n_s + 1) = some (.row [(.slice n_s 0 ns.length ns.length 1 true), (.int .i64 (((min m A.length) : Nat) : Int)), .nslice] true) ∧ hv tf ((n_s + 1) + 1) = some (.row (ints L) true) ∧ hv tf (((n_s + 1) + 1) + 1) = some (.map eb kb) ∧ hv tf dA = some (.row (ints l3) true)) ∧ (Tf.get 2 = some (.ptr nx 0) ∧ Tf.get 4 = some (.ptr (nx + 1) 0) ∧ Tf.get 8 = some (.slice n_l 0 ns.length ns.length 1 true) ∧ Tf.get 14 = some (.ptr (nb + 1) 0) ∧ Tf.get 18 = some (.ptr (n_s + 1) 0) ∧ Tf.get 19 = some (.slice ((n_s + 1) + 1) 0 (min m A.length) (min m A.length) 1 true) ∧ Tf.get 20 = some (.map (((n_s + 1) + 1) + 1)) ∧ Tf.get 127 = some (.slice dA 0 A.length A.length 1 false) ∧ Tf.get 128 = some (.int .i64 ((A.length : Nat) : Int)) ∧ Tf.get 129 = some (.int .i64 ((i : Nat) : Int))) ∧ nx ≤ nf ∧ Keep t tf nx (fun _ => False) ∧ mm + i = A.length) (fun mm Tf tf nf hI => ?_) (A.length) ⟨0, _, [], 0, by omega, by omega, rowOf_len _ _, (fun q => by rw [g_zero]; omega), (fun e he => by cases he), (fun q => by simp only [mget]; omega), ⟨(lN hh57 (lN hh55 (lN hh53 (lN hh51 (lN hh49 (Keep.look hk_s (by omega) (fun h_ => absurd (show nx = dA from h_) (by omega)) hr0)))))), (lN hh57 (lN hh55 (lN hh53 (lN hh51 (lN hh49 (Keep.look hk_s (by omega) (fun h_ => absurd (show (nx + 1) = dA from h_) (by omega)) hr1)))))), (lN hh57 (lN hh55 (lN hh53 (lN hh51 (lN hh49 (Keep.look hk_s (by omega) (fun h_ => absurd (show n_l = dA from h_) (by omega)) hrG)))))), (lN hh57 (lN hh55 (lN hh53 (lN hh51 (lN hh49 (Keep.look hk_s (by omega) (fun h_ => absurd (show nb = dA from h_) (by omega)) hrM)))))), (lN hh57 (lN hh55 (lN hh53 (lN hh51 (lN hh49 (Keep.look hk_s (by omega) (fun h_ => absurd (show (nb + 1) = dA from h_) (by omega)) hrZ)))))), (lN hh57 (lN hh55 (lN hh53 (lN hh51 (lS hh49))))), (lN hh57 (lN hh55 (lS hh53))), (lN hh57 (lS hh55)), (lS hh57), (lN hh57 (lN hh55 (lN hh53 (lN hh51 (lN hh49 hr_s)))))⟩, ⟨(z8 (z8 (z8 qd2))), (z8 (z8 (z8 qd4))), (z8 (z8 (z8 qd8))), (z8 (z8 (z8 qd14))), (z2 (z8 ds)), (z1 (z4 ds)), (z1 (z2 ds)), (z2 ds), (z1 ds), ds⟩, by omega, kU (kU (kU (kU (kU (Keep.trans (hkd) hk_s (by omega) ((fun b hb e => absurd (show b = dA from e) (by omega)))) hh49) hh51) hh53) hh55) hh57, by omega⟩
 obtain ⟨i, L, eb, kb, hi, hnf2, hLl, hLd, hmb, hbn, ⟨hr0, hr1, hrG, hrM, hrZ, hrP1, hrP2, hrP3, hrP4, hrA⟩, ⟨qf2, qf4, qf8, qf14, qf18, qf19, qf20, qf127, qf128, qf129⟩, hnf, hkf, hmm⟩ := hI
 refine k_seq (k_reg (rO (o_lss (eV qf129) (eV qf128)) (r_nil (k_seq ?_))))
 refine k_if eZ (fun hc58 => ?_) (fun hc58 => ?_)
 · refine k_skip (k_seq (k_block (k_seq (k_reg (rO (o_iaddr1 (i := i) (eV (z1 qf127)) (eV (z1 qf129)) (by omega)) (rO (o_load eZ hrA (g_ints hl_s rfl (by omega))) (m1 ds (r_nil (k_seq (k_reg (rO (o_mov ev_c) (r_nil (k_seq (k_seq (k_reg (m1 (z1 (z4 qf19)) (rO (o_len_slice eZ) (rO (o_mov ev_c) (r_nil (k_block (k_loop (fun mm Th th nh => ∃ (j b : Nat), (j ≤ (min m A.length)) ∧ (b < (min m A.length)) ∧ (n_s + 4 ≤ nh) ∧ (hv th nx = some (.row [vn, vt, .int .i64 pp] true) ∧ hv th (nx + 1) = some (.row [.nslice, .int .i64 0, .nslice] true) ∧ hv th n_l = some (.row (ints l) true) ∧ hv th nb = some (.map es clk) ∧ hv th (nb + 1) = some (.row [.map nb] true) ∧ hv th n_s = some (.row (ints (rowOf ns.length (fun _ => 0))) true) ∧ hv th (n_s + 1) = some (.row [(.slice n_s 0 ns.length ns.length 1 true), (.int .i64 (((min m A.length) : Nat) : Int)), .nslice] true) ∧ hv th ((n_s + 1) + 1) = some (.row (ints L) true) ∧ hv th (((n_s + 1) + 1) + 1) = some (.map eb kb) ∧ hv th dA = some (.row (ints l3) true)) ∧ (Th.get 2 = some (.ptr nx 0) ∧ Th.get 4 = some (.ptr (nx + 1) 0) ∧ Th.get 8 = some (.slice n_l 0 ns.length ns.length 1 true) ∧ Th.get 14 = some (.ptr (nb + 1) 0) ∧ Th.get 18 = some (.ptr (n_s + 1) 0) ∧ Th.get 19 = some (.slice ((n_s + 1) + 1) 0 (min m A.length) (min m A.length) 1 true) ∧ Th.get 20 = some (.map (((n_s + 1) + 1) + 1)) ∧ Th.get 127 = some (.slice dA 0 A.length A.length 1 false) ∧ Th.get 128 = some (.int .i64 ((A.length : Nat) : Int)) ∧ Th.get 129 = some (.int .i64 ((i : Nat) : Int)) ∧ Th.get 22 = some (.int .i64 (g l3 i)) ∧ Th.get 23 = some (.int .i64 ((b : Nat) : Int)) ∧ Th.get 133 = some (.slice ((n_s + 1) + 1) 0 (min m A.length) (min m A.length) 1 true) ∧ Th.get 134 = some (.int .i64 (((min m A.length) : Nat) : Int)) ∧ Th.get 135 = some (.int .i64 ((j : Nat) : Int))) ∧ nx ≤ nh ∧ Keep t th nx (fun _ => False) ∧ mm + j = (min m A.length)) (fun mm Th th nh hI => ?_) ((min m A.length)) ⟨0, 0, by omega, by omega, by omega, ⟨hr0, hr1, hrG, hrM, hrZ, hrP1, hrP2, hrP3, hrP4, hrA⟩, ⟨(z8 qf2), (z8 qf4), (z8 qf8), (z8 qf14), (z8 qf18), (z8 qf19), (z8 qf20), (z8 qf127), (z8 qf128), (z8 qf129), (z4 ds), (z1 (z2 ds)), (z2 ds), (z1 ds), ds⟩, by omega, hkf, by omega⟩)))))))))))))))))))))
   obtain ⟨j, b, hj, hb1, hnh2, ⟨hr0, hr1, hrG, hrM, hrZ, hrP1, hrP2, hrP3, hrP4, hrA⟩, ⟨qh2, qh4, qh8, qh14, qh18, qh19, qh20, qh127, qh128, qh129, qh22, qh23, qh133, qh134, qh135⟩, hnh, hkh, hmm⟩ := hI
   refine k_seq (k_reg (rO (o_lss (eV qh135) (eV qh134)) (r_nil (k_seq ?_))))
   refine k_if eZ (fun hc59 => ?_) (fun hc59 => ?_)
   · refine k_skip (k_seq (k_block (k_seq (k_reg (m1 (z1 qh135) (m1 ds (r_nil (k_seq (k_draw (eO 0 rfl (o_mov (eV (z1 (z2 qh19)))) (eO 1 rfl (o_mov (eV (z1 ds))) (eO 2 rfl (o_iaddr1 (i := j) (eV (z1 ds)) eZ (by omega)) (eO 3 rfl (o_load eZ hrP3 (g_ints hLl rfl (by omega))) (eO 4 rfl (o_mov (eV (z1 (z2 (z4 qh19))))) (eO 5 rfl (o_mov (eV (z8 qh23))) (eO 6 rfl (o_iaddr1 (i := b) (eV (z1 ds)) eZ (by omega)) (eO 7 rfl (o_load eZ hrP3 (g_ints hLl rfl (by omega))) (eO 8 rfl (o_lss (eV (z4 ds)) eZ) (e_done ?_)))))))))))))))))))
     refine k_if eZ (fun hc60 => ?_) (fun hc60 => ?_)
     · refine k_reg (m1 (z1 (z8 ds)) (m1 ds (r_nil (k_reg (rO (o_addN (a := j) (b := 1) (eV (z2 (z4 (z8 qh135)))) ev_c (by omega)) (m1 ds (r_nil ?_)))))))
       exact ⟨(min m A.length) - (j + 1), by omega, j + 1, j, by omega, by omega, by omega, ⟨hr0, hr1, hrG, hrM, hrZ, hrP1, hrP2, hrP3, hrP4, hrA⟩, ⟨(z8 (z8 qh2)), (z8 (z8 qh4)), (z8 (z8 qh8)), (z8 (z8 qh14)), (z8 (z8 qh18)), (z8 (z8 qh19)), (z8 (z8 qh20)), (z8 (z8 qh127)), (z8 (z8 qh128)), (z8 (z8 qh129)), (z8 (z8 qh22)), (z2 ds), (z8 (z8 qh133)), (z8 (z8 qh134)), ds⟩, by omega, hkh, by omega⟩
     refine k_skip (k_reg (rO (o_addN (a := j) (b := 1) (eV (z4 (z8 qh135))) ev_c (by omega)) (m1 ds (r_nil ?_))))
     exact ⟨(min m A.length) - (j + 1), by omega, j + 1, b, by omega, by omega, by omega, ⟨hr0, hr1, hrG, hrM, hrZ, hrP1, hrP2, hrP3, hrP4, hrA⟩, ⟨(z2 (z4 (z8 qh2))), (z2 (z4 (z8 qh4))), (z2 (z4 (z8 qh8))), (z2 (z4 (z8 qh14))), (z2 (z4 (z8 qh18))), (z2 (z4 (z8 qh19))), (z2 (z4 (z8 qh20))), (z2 (z4 (z8 qh127))), (z2 (z4 (z8 qh128))), (z2 (z4 (z8 qh129))), (z2 (z4 (z8 qh22))), (z2 (z4 (z8 qh23))), (z2 (z4 (z8 qh133))), (z2 (z4 (z8 qh134))), ds⟩, by omega, hkh, by omega⟩
   refine k_exit (exK_same (k_seq (k_reg (m1 (z1 qh20) (m1 (z2 qh22) (m1 (z1 (z2 qh23)) (r_heap (o_mupd (eV (z2 ds)) (eV (z1 ds)) eZ hrP4 hmb) rfl (fun tm4 ⟨es4, clk4, hmq4, hmi4, hmg4⟩ => r_nil ?_))))))))
   have hLb := hLd b
   have hszi := hsz2 (g l3 i)
   refine k_draw (eO 0 rfl (o_mov (eV (z1 (z4 qh19)))) (eO 1 rfl (o_mov (eV (z2 (z4 qh23)))) (eO 2 rfl (o_iaddr1 (i := b) (eV (z1 ds)) eZ (by omega)) (eO 3 rfl (o_load eZ (lN hmq4 hrP3) (g_ints hLl rfl (by omega))) (eO 4 rfl (o_load (eV (z1 (z8 qh14))) (lN hmq4 hrZ) rfl) (eO 5 rfl (o_mov (eV (z2 (z8 qh22)))) (eO 6 rfl (o_look (eV (z1 ds)) eZ (lN hmq4 hrM) hmi) (eO 7 rfl (o_add (eV (z1 (z2 ds))) eZ (by omega) (by omega)) (eO 8 rfl (o_iaddr1 (i := b) (eV (z1 (z2 (z4 ds)))) (eV (z2 (z4 ds))) (by omega)) ?_)))))))))
   refine d_heap (ix := 9) (pr := [8, 7, 0, 1, 2, 3, 4, 5, 6, 7]) (d := none) (g := none) (F' := []) (o := (.store 1 (.t 160) (.t 159))) (o_storeI (l := L) eZ (eV (z1 ds)) (lN hmq4 hrP3) (by have h_ := hLl; omega)) rfl (by kernel_rfl) (by kernel_rfl) (by kernel_rfl) (by kernel_rfl) (fun t61 (hh62 : hv t61 = upd (hv tm4) ((n_s + 1) + 1) (some (.row (ints (L.set b ((g L b) + (mget es (g l3 i))))) true))) => ⟨?_, ?_⟩)
   · exact all_nil_
   refine e_done (k_reg (rO (o_addN (a := i) (b := 1) (eV (z1 (z2 (z4 (z8 qh129))))) ev_c (by omega)) (m1 ds (r_nil ?_))))
   exact ⟨A.length - (i + 1), by omega, i + 1, _, es4, clk4, by omega, by omega, by rw [List.length_set]; exact hLl, (fun q => by have h1_ := hLd q; have h2_ := hLd b; have h3_ := hsz2 (g l3 i); rw [g_set]; split <;> omega), hmi4, (fun q => by have h1_ := hmg4 q; have h2_ := hbn q; rw [h1_]; split <;> omega), ⟨(lN hh62 (lN hmq4 hr0)), (lN hh62 (lN hmq4 hr1)), (lN hh62 (lN hmq4 hrG)), (lN hh62 (lN hmq4 hrM)), (lN hh62 (lN hmq4 hrZ)), (lN hh62 (lN hmq4 hrP1)), (lN hh62 (lN hmq4 hrP2)), (lS hh62), (lN hh62 (lS hmq4)), (lN hh62 (lN hmq4 hrA))⟩, ⟨(z1 (z8 (z8 qh2))), (z1 (z8 (z8 qh4))), (z1 (z8 (z8 qh8))), (z1 (z8 (z8 qh14))), (z1 (z8 (z8 qh18))), (z1 (z8 (z8 qh19))), (z1 (z8 (z8 qh20))), (z1 (z8 (z8 qh127))), (z1 (z8 (z8 qh128))), ds⟩, by omega, kU (kU (hkh) hmq4) hh62, by omega⟩
 refine k_exit (exK_same (k_seq (k_seq (k_reg (rO (o_faddr (off := 0) (eV (z1 qf18))) (rO (o_load eZ hrP2 rfl) (rO (o_len_slice eZ) (rO (o_mov ev_c) (r_nil (k_block ?_))))))))))
 refine k_loop (fun mm Tk tk nk => ∃ (i : Nat) (l : List Int) (O : List Int), (i ≤ ns.length) ∧ (UF ns.length l R dd) ∧ (n_s + 4 ≤ nk) ∧ (O.length = ns.length) ∧ (∀ j, 0 ≤ g O j ∧ g O j < (((min m A.length) : Nat) : Int)) ∧ (hv tk nx = some (.row [vn, vt, .int .i64 pp] true) ∧ hv tk (nx + 1) = some (.row [.nslice, .int .i64 0, .nslice] true) ∧ hv tk n_l = some (.row (ints l) true) ∧ hv tk n_s = some (.row (ints O) true) ∧ hv tk (n_s + 1) = some (.row [(.slice n_s 0 ns.length ns.length 1 true), (.int .i64 (((min m A.length) : Nat) : Int)), .nslice] true) ∧ hv tk (((n_s + 1) + 1) + 1) = some (.map eb kb)) ∧ (Tk.get 2 = some (.ptr nx 0) ∧ Tk.get 4 = some (.ptr (nx + 1) 0) ∧ Tk.get 8 = some (.slice n_l 0 ns.length ns.length 1 true) ∧ Tk.get 18 = some (.ptr (n_s + 1) 0) ∧ Tk.get 20 = some (.map (((n_s + 1) + 1) + 1)) ∧ Tk.get 163 = some (.slice n_s 0 ns.length ns.length 1 true) ∧ Tk.get 164 = some (.int .i64 ((ns.length : Nat) : Int)) ∧ Tk.get 165 = some (.int .i64 ((i : Nat) : Int))) ∧ nx ≤ nk ∧ Keep t tk nx (fun _ => False) ∧ mm + i = ns.length) (fun mm Tk tk nk hI => ?_) (ns.length) ⟨0, l, _, by omega, huf, by omega, rowOf_len _ _, (fun q => by rw [g_zero]; omega), ⟨hr0, hr1, hrG, hrP1, hrP2, hrP4⟩, ⟨(z1 (z4 qf2)), (z1 (z4 qf4)), (z1 (z4 qf8)), (z1 (z4 qf18)), (z1 (z4 qf20)), (z2 ds), (z1 ds), ds⟩, by omega, hkf, by omega⟩
 obtain ⟨i, l, O, hi, huf, hnk2, hOl, hOd, ⟨hr0, hr1, hrG, hrP1, hrP2, hrP4⟩, ⟨qk2, qk4, qk8, qk18, qk20, qk163, qk164, qk165⟩, hnk, hkk, hmm⟩ := hI
 refine k_seq (k_reg (rO (o_lss (eV qk165) (eV qk164)) (r_nil (k_seq ?_))))
 refine k_if eZ (fun hc63 => ?_) (fun hc63 => ?_)
 · refine k_skip (k_seq (k_block (k_seq (k_reg (m1 (z1 qk165) (m1 ds (r_nil ?_)))))))
   have hRi := (huf.rt i (by omega)).1
   refine k_draw (eO 0 rfl (o_faddr (off := 0) (eV (z1 (z2 qk18)))) (eO 1 rfl (o_load eZ hrP2 rfl) (eO 2 rfl (o_mov (eV (z2 ds))) (eO 3 rfl (o_mov (eV (z2 (z4 qk20)))) (eO 4 rfl (o_mov (eV (z1 (z2 (z4 qk8))))) (eO 5 rfl (o_mov (eV (z1 (z4 ds)))) (d_call (ix := 6) (pr := [4, 5]) (d := (some 174)) (g := none) (F' := [(⟨3, [], .mv 171 20⟩, (.map (((n_s + 1) + 1) + 1))), (⟨2, [], .mv 170 25⟩, (.int .i64 ((i : Nat) : Int))), (⟨1, [0], .o 169 (.load (.t 168))⟩, (.slice n_s 0 ns.length ns.length 1 true)), (⟨0, [], .o 168 (.faddr (.t 18) 0)⟩, (.ptr (n_s + 1) 0))]) (w_callF (evs_cons (eV (z1 ds)) (evs_cons eZ evs_nil))) rfl (by kernel_rfl) (by kernel_rfl) (by kernel_rfl) (by kernel_rfl) (WF.mono (find_ok (k0 := i) huf hrG (by omega) (by omega) (by omega)) ?_))))))))
   rintro _ t64 n65 ⟨l2, rfl, huf1, hrf1, hnf1, hkf1⟩
   refine ⟨?_, ?_⟩
   · exact (all_cons_ (still_op rfl rfl (o_mov (eV (z2 (z8 qk20)))) (aeq_flat rfl)) (all_cons_ (still_op rfl rfl (o_mov (eV (z1 (z2 (z4 ds))))) (aeq_flat rfl)) (all_cons_ (still_op rfl rfl (o_load (eV (z2 (z4 ds))) (Keep.look hkf1 (by omega) (fun h_ => absurd (show (n_s + 1) = n_l from h_) (by omega)) hrP2) rfl) (aeq_flat rfl)) (all_cons_ (still_op rfl rfl (o_faddr (off := 0) (eV (z2 (z8 qk18)))) (aeq_flat rfl)) all_nil_))))
   refine eO 7 rfl (o_look (eV (z1 (z2 ds))) eZ (Keep.look hkf1 (by omega) (fun h_ => absurd (show (((n_s + 1) + 1) + 1) = n_l from h_) (by omega)) hrP4) hmb) (eO 8 rfl (o_iaddr1 (i := i) (eV (z2 (z4 ds))) (eV (z1 (z4 ds))) (by omega)) ?_)
   refine d_heap (ix := 9) (pr := [8, 7, 6, 0, 1, 2, 3, 4, 5, 6, 7]) (d := none) (g := none) (F' := []) (o := (.store 1 (.t 176) (.t 175))) (o_storeI (l := O) eZ (eV (z1 ds)) (Keep.look hkf1 (by omega) (fun h_ => absurd (show n_s = n_l from h_) (by omega)) hrP1) (by have h_ := hOl; omega)) rfl (by kernel_rfl) (by kernel_rfl) (by kernel_rfl) (by kernel_rfl) (fun t66 (hh67 : hv t66 = upd (hv t64) n_s (some (.row (ints (O.set i (mget eb (((R i) : Nat) : Int)))) true))) => ⟨?_, ?_⟩)
   · exact all_nil_
   refine e_done (k_reg (rO (o_addN (a := i) (b := 1) (eV (z1 (z4 (z8 qk165)))) ev_c (by omega)) (m1 ds (r_nil ?_))))
   exact ⟨ns.length - (i + 1), by omega, i + 1, l2, _, by omega, huf1, by omega, by rw [List.length_set]; exact hOl, (fun q => by have h1_ := hOd q; have h2_ := hbn ((R i : Nat) : Int); rw [g_set]; split <;> omega), ⟨(lN hh67 (Keep.look hkf1 (by omega) (fun h_ => absurd (show nx = n_l from h_) (by omega)) hr0)), (lN hh67 (Keep.look hkf1 (by omega) (fun h_ => absurd (show (nx + 1) = n_l from h_) (by omega)) hr1)), (lN hh67 hrf1), (lS hh67), (lN hh67 (Keep.look hkf1 (by omega) (fun h_ => absurd (show (n_s + 1) = n_l from h_) (by omega)) hrP2)), (lN hh67 (Keep.look hkf1 (by omega) (fun h_ => absurd (show (((n_s + 1) + 1) + 1) = n_l from h_) (by omega)) hrP4))⟩, ⟨(z1 (z2 (z4 (z8 qk2)))), (z1 (z2 (z4 (z8 qk4)))), (z1 (z2 (z4 (z8 qk8)))), (z1 (z2 (z4 (z8 qk18)))), (z1 (z2 (z4 (z8 qk20)))), (z1 (z2 (z4 (z8 qk163)))), (z1 (z2 (z4 (z8 qk164)))), ds⟩, by omega, kU (Keep.trans (hkk) hkf1 (by omega) ((fun b hb e => absurd (show b = n_l from e) (by omega)))) hh67, by omega⟩
 refine k_exit (exK_same (k_seq (k_reg (rO (o_loadA (n := 3) (eV (z1 qk2)) hr0 (leb rfl) rfl) (rO (o_loadA (n := 3) (eV (z2 qk18)) hrP2 (leb rfl) rfl) ?_)))))
 have hor : ∀ a ∈ O, 0 ≤ a ∧ a < (((min m A.length) : Nat) : Int) := mem_g (fun j _ => hOd j)
 refine r_call (w_callF (evs_cons (eV (z1 ds)) (evs_cons eZ evs_nil))) rfl (WF.mono (ahead_ok (n := (min m A.length)) (hN.keep (fun d hd hw => (show Keep t tk nx (fun _ => False) from hkk) d (by omega) hw) (by omega)) hct (own_rowI hOl (by omega) hrP1) rfl (Nat.le_refl _) hOl hor (by omega) (by omega) hM.kind8) ?_)
 rintro _ t68 n69 ⟨L, rfl, hMu, hn_h, hk_h⟩
 refine rO (o_faddr (off := 2) (eV (z4 qk18))) (r_heap (o_store (n := 1) eZ (eV (z1 ds)) (Keep.look hk_h (by omega) id hrP2) rfl rfl (leb rfl)) rfl (fun t70 (hh71 : hv t70 = upd (hv t68) (n_s + 1) (some (.row [(.slice n_s 0 ns.length ns.length 1 true), (.int .i64 (((min m A.length) : Nat) : Int)), (.slice ((nk + 1) + 1) 0 (min m A.length) (min m A.length) 1 true)] true))) => r_nil (k_seq (k_reg (rO (o_loadA (n := 3) (eV (z2 (z4 qk18))) (lS hh71) (leb rfl) rfl) (r_heap (o_store (n := 3) (eV (z1 (z2 (z4 qk4)))) eZ (lN hh71 (Keep.look hk_h (by omega) id hr1)) rfl rfl (leb rfl)) rfl (fun t72 (hh73 : hv t72 = upd (hv t70) (nx + 1) (some (.row [(.slice n_s 0 ns.length ns.length 1 true), (.int .i64 (((min m A.length) : Nat) : Int)), (.slice ((nk + 1) + 1) 0 (min m A.length) (min m A.length) 1 true)] true))) => rO (o_mov ev_c) (r_nil (k_ret ?_)))))))))
 exact ⟨_, ans_two (res_cell (z1 (z8 qk4)) (lS hh73) (leb rfl) rfl (res_tmp ds res_nil)), _, _, O, (min m A.length), rfl, by omega, by omega, hOl, hor, own_rowI hOl (by omega) (lN hh73 (lN hh71 (Keep.look hk_h (by omega) id hrP1))), (hMu.keep (fun e h1 h2 => (((congrFun hh73 e).trans (upd_ne _ _ _ _ (by omega))).trans ((congrFun hh71 e).trans (upd_ne _ _ _ _ (by omega)))))).rowM (by omega), by omega, kU (kU (Keep.trans (hkk) hk_h (by omega) (fun d _ h => h)) hh71) hh73⟩
end Go.Proofs.YtpjohgnhmjceiaaGreatDoor.WX

