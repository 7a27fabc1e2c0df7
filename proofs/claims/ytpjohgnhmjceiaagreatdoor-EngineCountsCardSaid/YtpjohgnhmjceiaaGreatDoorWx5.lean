/- The program's functions in the evaluator's terms: engine.Run over gates, and the law: what each of them answers, whatever comes in.
   Conditions: those of each theorem. -/
import Derived.Test.YtpjohgnhmjceiaaGreatDoorWx4
set_option linter.all false
set_option linter.unusedVariables false
set_option linter.unusedSectionVars false
set_option maxRecDepth 100000
open Go Go.Proofs.YtpjohgnhmjceiaaGreatDoor.AX Go.Proofs
namespace Go.Proofs.YtpjohgnhmjceiaaGreatDoor.WX
section
variable [Env]
def netK (ts : List Int) (c : Chg) : Nat := (ts.getD c.net.toNat 0).toNat
/-- What of a stimulus comes at a time. -/
def absL (ts : List Int) (now : Int) : List Chg → List (List Nat) → List (List Nat) × List Chg
 | [], v => (v, [])
 | c :: cs, v => if c.at_ = now then absL ts now cs (v.set (netK ts c) c.val) else (v, c :: cs)
def diffs (now : Int) (pp qq : List (List Nat)) (k : Nat) : List Chg := (List.range k).flatMap (fun i => if gv qq i = gv pp i then [] else [⟨now, (i : Int), gv qq i⟩])
theorem diffs_succ (now : Int) (pp qq : List (List Nat)) (k : Nat) : diffs now pp qq (k + 1) = diffs now pp qq k ++ (if gv qq k = gv pp k then [] else [⟨now, (k : Int), gv qq k⟩]) := by
 unfold diffs; rw [List.range_succ, List.flatMap_append]; simp
def nextT (h : Int) (cs : List Chg) : Int := match cs with | [] => h + 1 | c :: _ => min (h + 1) c.at_
inductive RunL (ns : List Nd) (ts gs fl : List Int) (h : Int) : Nat → Int → List Chg → List (List Nat) → List (List Nat) → List (List Nat) → List Chg → List Chg → Prop
 | done {now : Int} {cs : List Chg} {v was pp : List (List Nat)} {l : List Chg} : h < now → RunL ns ts gs fl h 0 now cs v was pp l l
 | step {k m : Nat} {now : Int} {cs cs' : List Chg} {v v1 v2 was was2 pp : List (List Nat)} {l fin : List Chg} : now ≤ h → absL ts now cs v = (v1, cs') → Settle ns gs fl m v1 was v2 was2 →
     RunL ns ts gs fl h k (nextT h cs') cs' v2 was2 (insV v2 ts) (l ++ diffs now pp (insV v2 ts) ts.length) fin → RunL ns ts gs fl h (k + 1) now cs v was pp l fin
theorem RunL.cases_ {ns : List Nd} {ts gs fl : List Int} {h now : Int} {k : Nat} {cs : List Chg} {v was pp : List (List Nat)} {l fin : List Chg} (hr : RunL ns ts gs fl h k now cs v was pp l fin) :
   (h < now ∧ fin = l) ∨ ∃ (k' m : Nat) (cs' : List Chg) (v1 v2 was2 : List (List Nat)), k = k' + 1 ∧ now ≤ h ∧ absL ts now cs v = (v1, cs') ∧ Settle ns gs fl m v1 was v2 was2 ∧ RunL ns ts gs fl h k' (nextT h cs') cs' v2 was2 (insV v2 ts) (l ++ diffs now pp (insV v2 ts) ts.length) fin := by
 cases hr with
 | done h1 => exact .inl ⟨h1, rfl⟩
 | step h1 h2 h3 h4 => exact .inr ⟨_, _, _, _, _, _, rfl, h1, h2, h3, h4⟩
theorem absL_nil {ts : List Int} {now : Int} {v : List (List Nat)} : absL ts now [] v = (v, []) := rfl
theorem absL_yes {ts : List Int} {now : Int} {v : List (List Nat)} {c : Chg} {cs : List Chg} (h : c.at_ = now) : absL ts now (c :: cs) v = absL ts now cs (v.set (netK ts c) c.val) := if_pos h
theorem absL_no {ts : List Int} {now : Int} {v : List (List Nat)} {c : Chg} {cs : List Chg} (h : ¬ c.at_ = now) : absL ts now (c :: cs) v = (v, c :: cs) := if_neg h
theorem VI.put {ns : List Nd} {v : List (List Nat)} (h : VI ns v) {k : Nat} {x : Nd} {s : List Nat} (hx : ns[k]? = some x) (hs : isV s) (hw : x.wide = (s.length : Int)) : VI ns (v.set k s) := by
 refine ⟨by rw [List.length_set]; exact h.len, fun i y hy => ?_⟩
 rw [gv_set]
 by_cases e : k = i ∧ k < v.length
 · rw [if_pos e]
   obtain ⟨rfl, -⟩ := e
   rw [hx] at hy; cases hy
   exact ⟨hs.2.2, by omega⟩
 · rw [if_neg e]; exact h.at_ i y hy
def mixL (qq pp : List (List Nat)) (k : Nat) : List (List Nat) := qq.take k ++ pp.drop k
theorem mix_len {qq pp : List (List Nat)} {k : Nat} (h : qq.length = pp.length) : (mixL qq pp k).length = pp.length := by unfold mixL; simp; omega
theorem mix_at {qq pp : List (List Nat)} {k : Nat} (h : qq.length = pp.length) (hk : k < pp.length) : gv (mixL qq pp k) k = gv pp k := by
 unfold gv mixL
 rw [List.getD_eq_getElem?_getD, List.getD_eq_getElem?_getD, List.getElem?_append_right (by simp; omega), List.getElem?_drop]
 congr 2; simp; omega
theorem mix_set {qq pp : List (List Nat)} {k : Nat} (h : qq.length = pp.length) (hk : k < pp.length) : (mixL qq pp k).set k (gv qq k) = mixL qq pp (k + 1) := by
 apply List.ext_getElem?
 intro i
 rw [List.getElem?_set]
 unfold mixL
 by_cases e : k = i
 · subst e
   rw [if_pos rfl, if_pos (by simp; omega), List.getElem?_append_left (by simp; omega), List.getElem?_take, if_pos (by omega), gv_at (by omega)]
 · rw [if_neg e]
   by_cases h2 : i < k
   · rw [List.getElem?_append_left (by simp; omega), List.getElem?_append_left (by simp; omega), List.getElem?_take, List.getElem?_take, if_pos h2, if_pos (by omega)]
   · rw [List.getElem?_append_right (by simp; omega), List.getElem?_append_right (by simp; omega), List.getElem?_drop, List.getElem?_drop]
     congr 1; simp; omega
theorem mix_same {qq pp : List (List Nat)} {k : Nat} (h : qq.length = pp.length) (hk : k < pp.length) (e : gv qq k = gv pp k) : mixL qq pp (k + 1) = mixL qq pp k := by
 rw [← mix_set h hk, e, ← mix_at h hk]
 apply List.ext_getElem?
 intro i
 rw [List.getElem?_set]
 by_cases e : k = i
 · subst e; rw [if_pos rfl, if_pos (by rw [mix_len h]; exact hk), gv_at (by rw [mix_len h]; exact hk)]
 · rw [if_neg e]
theorem mix_end {qq pp : List (List Nat)} {k : Nat} (h : qq.length = pp.length) (hk : pp.length ≤ k) : mixL qq pp k = qq := by
 unfold mixL; rw [List.drop_eq_nil_of_le hk, List.append_nil, List.take_of_length_le (by omega)]
theorem mix_zero (qq pp : List (List Nat)) : mixL qq pp 0 = pp := by unfold mixL; simp
/-- A list of changes of its own, above lo. -/
structure OY (t : TB) (nx lo d : Nat) (v : AV) (l : List Chg) : Prop where
 lt : d < nx
 v : (v = .nslice ∧ l = [] ∧ d = lo) ∨ (v = .slice d 0 l.length l.length 3 false ∧ hv t d = some (.row (flatC3 l) true) ∧ lo < d)
theorem OY.nil {t : TB} {nx lo : Nat} (h : lo < nx) : OY t nx lo lo .nslice [] := ⟨h, .inl ⟨rfl, rfl, rfl⟩⟩
theorem OY.keep {t t' : TB} {nx nx' lo d m : Nat} {v : AV} {l : List Chg} {W : Nat → Prop} (h : OY t nx lo d v l) (hk : Keep t t' m W) (hm : nx ≤ m) (hw : W d → d = lo) (hn : nx ≤ nx') : OY t' nx' lo d v l := by
 have hl := h.lt
 exact ⟨by omega, h.v.elim .inl (fun h1 => .inr ⟨h1.1, (hk d (by omega) (fun e => by have := hw e; omega)).trans h1.2.1, h1.2.2⟩)⟩
theorem flatC3_len (l : List Chg) : (flatC3 l).length = l.length * 3 := by
 induction l with
 | nil => rfl
 | cons c l ih =>
   show (ccells c ++ flatC3 l).length = _
   rw [List.length_append, ih]; simp [ccells]; omega
theorem flatC3_snoc (l : List Chg) (c : Chg) : flatC3 (l ++ [c]) = flatC3 l ++ ccells c := by unfold flatC3; rw [List.flatMap_append]; simp
theorem OY.app {t : TB} {nx lo d e : Nat} {v : AV} {l : List Chg} {c : Chg} {ex : Bool} (h : OY t nx lo d v l) (hlo : lo < nx) (he : hv t e = some (.row (ccells c) true)) (hs : (l.length + 1) * 3 ≤ 65536) :
   ∃ t', appendA 3 v (.slice e 0 1 1 3 ex) t nx = .ok (.slice nx 0 (l.length + 1) (l.length + 1) 3 false) t' (nx + 1) ∧ (OY t' (nx + 1) lo nx (.slice nx 0 (l.length + 1) (l.length + 1) 3 false) (l ++ [c]) ∧ Keep t t' nx (fun b => b = d ∧ lo < d)) := by
 have hcc : allCell (ccells c) = true := by rw [allCell_iff]; intro z hz; simp only [ccells, List.mem_cons, List.not_mem_nil, or_false] at hz; rcases hz with rfl | rfl | rfl <;> rfl
 have hsrc : srcCells (.slice e 0 1 1 3 ex) 1 3 t = some (ccells c) := by
   rw [src_row (k := 1) he (by simp [ccells])]; rfl
 rcases h.v with ⟨rfl, rfl, rfl⟩ | ⟨rfl, hr, hd⟩
 · obtain ⟨t', h1, h2⟩ := app_nil (t := t) (nx := nx) (sz := 3) (k := 1) (cs := ccells c) rfl hsrc hcc (by decide) (by omega)
   exact ⟨t', h1, ⟨Nat.lt_succ_self _, .inr ⟨rfl, by rw [h2, upd_same]; simp [flatC3], hlo⟩⟩, Keep.upd kR h2 (.inl (Nat.le_refl _))⟩
 · have hl := flatC3_len l
   obtain ⟨t', h1, t1, h2, h3⟩ := app_new_f (t := t) (nx := nx) (sz := 3) (k := 1) (b := d) (o := 0) (n := l.length) (c := l.length) (y := .slice e 0 1 1 3 ex) rfl hsrc hcc hr (by omega) (by omega) hs
   refine ⟨t', h1, ⟨Nat.lt_succ_self _, .inr ⟨by rw [List.length_append]; rfl, ?_, hlo⟩⟩, Keep.upd (Keep.upd kR h2 (.inr ⟨rfl, hd⟩)) h3 (.inl (Nat.le_refl _))⟩
   rw [lS h3, flatC3_snoc, show (flatC3 l).drop 0 = flatC3 l from rfl, List.take_of_length_le (by omega)]
theorem OY.flat {t : TB} {nx lo d : Nat} {v : AV} {l : List Chg} (h : OY t nx lo d v l) : flatC v = true := by
 rcases h.v with ⟨rfl, -⟩ | ⟨rfl, -⟩ <;> rfl
theorem OY.cell {t : TB} {nx lo d : Nat} {v : AV} {l : List Chg} (h : OY t nx lo d v l) : isCell v = true := by
 rcases h.v with ⟨rfl, -⟩ | ⟨rfl, -⟩ <;> rfl
theorem OY.ge {t : TB} {nx lo d : Nat} {v : AV} {l : List Chg} (h : OY t nx lo d v l) : lo ≤ d := by
 rcases h.v with ⟨-, -, h⟩ | ⟨-, -, h⟩ <;> omega
theorem cell4 {a b c d : AV} (h1 : isCell a = true) (h2 : isCell b = true) (h3 : isCell c = true) (h4 : isCell d = true) : allCell [a, b, c, d] = true := by
 rw [allCell_iff]
 intro z hz
 simp only [List.mem_cons, List.not_mem_nil, or_false] at hz
 rcases hz with rfl | rfl | rfl | rfl <;> assumption
theorem RowC.cons {t : TB} {bd : Nat} {v : AV} {c : Chg} {cs : List Chg} (h : RowC t bd v (c :: cs)) : ∃ (d o cc : Nat) (ex wr : Bool) (r : List AV), v = .slice d o (cs.length + 1) cc 3 ex ∧ d < bd ∧ hv t d = some (.row r wr) ∧ (∀ j u, (ccells c)[j]? = some u → r[o + 0 * 3 + j]? = some u) ∧ RowC t bd (.slice d (o + 3) cs.length (cc - 1) 3 ex) cs := by
 rcases h with ⟨-, h⟩ | ⟨d, o, cc, ex, wr, r, h1, h2, h3, h4, h5⟩
 · cases h
 · refine ⟨d, o, cc, ex, wr, r, h1, h2, h3, fun j u hu => ?_, .inr ⟨d, o + 3, cc - 1, ex, wr, r, rfl, h2, h3, ?_, ?_⟩⟩
   · have hj : j < 3 := (List.getElem?_eq_some_iff.1 hu).1
     exact rowC_get h5 (i := 0) (c := c) rfl hj rfl hu
   · rw [List.length_cons] at h4; omega
   · have e := congrArg (fun m => m.drop 3) h5
     simp only [List.length_cons] at e
     rw [List.drop_take, List.drop_drop, show (cs.length + 1) * 3 - 3 = cs.length * 3 by omega] at e
     rw [e]; rfl
theorem o_cs1g {T : TA} {t : TB} {nx d o n cc : Nat} {ex : Bool} {w : AV} {x : Opd} (hx : x.ev T = some w) (hw : w = .slice d o (n + 1) cc 3 ex) : (IOp.cslice 3 x (some (kI 1)) none none).run T t nx = .ok (.slice d (o + 3) n (cc - 1) 3 ex) t nx := by
 subst hw
 have hb : bnds T (n + 1) cc (some (kI 1)) none none = some (1, n + 1, cc) := by
   unfold bnds
   dsimp only
   rw [bnd_at (k := .i64) (m := 1) rfl (by omega)]
 simp only [IOp.run, hx, hb, fNat_eq]
 rfl
theorem RowC.flat {t : TB} {bd : Nat} {v : AV} {cs : List Chg} (h : RowC t bd v cs) : flatC v = true := by
 rcases h with ⟨rfl, -⟩ | ⟨d, o, cc, ex, wr, r, rfl, -⟩ <;> rfl
theorem o_minI {T : TA} {t : TB} {nx : Nat} {x y : Opd} {a b : Int} (hx : x.ev T = some (.int .i64 a)) (hy : y.ev T = some (.int .i64 b)) : (IOp.mm false x y).run T t nx = .ok (.int .i64 (min a b)) t nx := by
 simp only [IOp.run, hx, hy, iLt_eq]
 by_cases h : b < a
 · rw [decide_eq_true h, show min a b = b by omega]
 · rw [decide_eq_false h, show min a b = a by omega]
theorem RunL.few {ns : List Nd} {ts gs fl : List Int} {h : Int} : ∀ {k : Nat} {now : Int} {cs : List Chg} {v was pp : List (List Nat)} {l fin : List Chg}, RunL ns ts gs fl h k now cs v was pp l fin → l.length ≤ fin.length := by
 intro k
 induction k with
 | zero =>
   intro now cs v was pp l fin hr
   rcases hr.cases_ with ⟨-, rfl⟩ | ⟨k', m, cs', v1, v2, was2, e, -⟩
   · exact Nat.le_refl _
   · cases e
 | succ k ih =>
   intro now cs v was pp l fin hr
   rcases hr.cases_ with ⟨-, rfl⟩ | ⟨k', m, cs', v1, v2, was2, e, -, -, -, h2⟩
   · exact Nat.le_refl _
   · cases e
     have := ih h2
     rw [List.length_append] at this
     omega
theorem diffs_mono (now : Int) (pp qq : List (List Nat)) {j : Nat} : ∀ {n : Nat}, j ≤ n → (diffs now pp qq j).length ≤ (diffs now pp qq n).length
 | 0, h => by rw [show j = 0 by omega]; exact Nat.le_refl _
 | n + 1, h => by
   by_cases e : j = n + 1
   · rw [e]; exact Nat.le_refl _
   · have := diffs_mono now pp qq (j := j) (n := n) (by omega)
     rw [diffs_succ, List.length_append]
     omega
def send0_r0 : LI := [.o 6 (.mov (.c (.bool false)))]
def send0_r1 : LI := [.mv 11 0,
 .o 12 (.nilck (.t 11)),
 .o 13 (.faddr (.t 12) 5),
 .o 14 (.load (.t 13)),
 .o 15 (.len .slc (.t 14)),
 .o 16 (.mov (kI 0))]
def send0_r2 : LI := [.o 17 (.bin .lss (.t 16) (.t 15))]
def send0_r3 : LI := [.o 18 (.iaddr 1 (.t 14) (.t 16)),
 .o 19 (.load (.t 18)),
 .mv 8 19]
def send0_r4 : LI := [.mv 20 0,
 .o 21 (.nilck (.t 20)),
 .o 22 (.faddr (.t 21) 0),
 .o 23 (.faddr (.t 22) 0),
 .o 24 (.load (.t 23)),
 .mv 25 8,
 .o 26 (.iaddr 8 (.t 24) (.t 25)),
 .o 27 (.loadA 8 (.t 26)),
 .o 9 (.alloc [(.int .i64 0), (.int .i64 0), (.int .i64 0), .nslice, (.str []), (.int .i64 0), (.int .i64 0), (.int .i64 0)]),
 .x (.store 8 (.t 9) (.t 27))]
def send0_r5 : List DIns := [⟨0, [], .mv 28 0⟩,
 ⟨1, [0], .o 29 (.nilck (.t 28))⟩,
 ⟨2, [1], .o 30 (.faddr (.t 29) 6)⟩,
 ⟨3, [2], .o 31 (.load (.t 30))⟩,
 ⟨4, [], .o 32 (.faddr (.t 9) 3)⟩,
 ⟨5, [4], .o 33 (.load (.t 32))⟩,
 ⟨6, [5], .o 34 (.iaddr 1 (.t 33) (kI 0))⟩,
 ⟨7, [6], .o 35 (.load (.t 34))⟩,
 ⟨8, [3, 7], .o 36 (.iaddr 1 (.t 31) (.t 35))⟩,
 ⟨9, [8], .o 37 (.load (.t 36))⟩,
 ⟨10, [9, 0, 1, 2, 3, 4, 5, 6, 7, 8, 9], .mv 10 37⟩]
def send0_r6 : LI := [.mv 38 10,
 .mv 39 0,
 .o 40 (.nilck (.t 39)),
 .o 41 (.faddr (.t 40) 8),
 .o 42 (.load (.t 41)),
 .mv 43 8,
 .o 44 (.iaddr 1 (.t 42) (.t 43)),
 .o 45 (.load (.t 44)),
 .o 46 (.bin .eql (.t 38) (.t 45))]
def send0_r7 : LI := [.mv 47 0,
 .o 48 (.nilck (.t 47)),
 .o 49 (.faddr (.t 48) 8),
 .o 50 (.load (.t 49)),
 .mv 51 8,
 .mv 52 10,
 .o 53 (.iaddr 1 (.t 50) (.t 51)),
 .x (.store 1 (.t 53) (.t 52))]
def send0_r8 : LI := [.o 54 (.faddr (.t 9) 7),
 .o 55 (.load (.t 54)),
 .mv 56 2,
 .mv 57 1,
 .o 58 (.bin .sub (.t 56) (.t 57)),
 .o 59 (.bin .leq (.t 55) (.t 58))]
def send0_r9 : List DIns := [⟨0, [], .mv 60 0⟩,
 ⟨1, [0], .o 61 (.nilck (.t 60))⟩,
 ⟨2, [1], .o 62 (.faddr (.t 61) 9)⟩,
 ⟨3, [2], .o 63 (.iface 111 (.t 62))⟩,
 ⟨4, [], .mv 64 1⟩,
 ⟨5, [], .o 65 (.faddr (.t 9) 7)⟩,
 ⟨6, [5], .o 66 (.load (.t 65))⟩,
 ⟨7, [4, 6], .o 67 (.bin .add (.t 64) (.t 66))⟩,
 ⟨8, [], .mv 68 8⟩,
 ⟨9, [], .mv 69 10⟩,
 ⟨10, [7, 8, 9], .o 70 (.build [(.int .i64 0), (.int .i64 0), (.str [])] [(0, 1, (.t 67)), (1, 1, (.t 68)), (2, 1, (.t 69))])⟩,
 ⟨11, [10], .o 71 (.iface 109 (.t 70))⟩,
 ⟨12, [3, 11], .f 72 111 [(.t 63), (.t 71)]⟩]
def send0_r10 : LI := [.o 73 (.bin .add (.t 16) (kI 1)),
 .mv 16 73]
def send0_r11 : LI := [.mv 74 0,
 .o 75 (.nilck (.t 74)),
 .o 76 (.faddr (.t 75) 9),
 .o 77 (.load (.t 76)),
 .o 78 (.len .slc (.t 77)),
 .o 79 (.bin .leq (.t 78) (kI 4096)),
 .mv 6 79]
def send0_c : IC := (.seq (.reg send0_r0) (.seq (.seq (.reg send0_r1) (.block 0 (.loop (.seq (.reg send0_r2) (.seq (.cond (.t 17) .skip (.exit 0)) (.seq (.block 1 (.seq (.reg send0_r3) (.seq (.reg send0_r4) (.seq (.draw send0_r5) (.seq (.seq (.reg send0_r6) (.cond (.t 46) (.exit 1) .skip)) (.seq (.reg send0_r7) (.seq (.reg send0_r8) (.cond (.t 59) (.draw send0_r9) .skip)))))))) (.reg send0_r10))))))) (.seq (.reg send0_r11) .ret)))
theorem send0_tab : tb 58 = some (.code 3 80 send0_c [.tmp 6]) := by kernel_rfl
theorem send0_ok {t : TB} {nx bd R V WA n : Nat} {vn vt gsv flv lav : AV} {p : Int} {v was : List (List Nat)} {now h : Int} (hS : SR t nx bd R V WA vn vt p gsv flv lav n v was) : WF tb 58 [.ptr R 0, .int .i64 now, .int .i64 h] t nx (fun v' t' nx' => v' = .bool true ∧ nx ≤ nx' ∧ Keep t t' nx (fun _ => False)) := by
 refine k_fun send0_tab rfl ?_
 unfold send0_c
 change WC _ _ (Bt.put (some _) (Bt.put (some _) (Bt.put (some _) Bt.e 0) 1) 2) _ _ _
 refine k_seq (k_reg (rO (o_mov ev_c) (r_nil (k_seq (k_seq (k_reg (m1 (z1 (get_other rfl (get_other rfl get_same))) (rO (o_nilck eZ) (rO (o_faddr (off := 5) eZ) (rO (o_load eZ hS.hR rfl) (rO (o_len_nslice eZ) (rO (o_mov ev_c) (r_nil (k_block (k_loop (fun mm Tz tz nz => Tz.get 0 = some (.ptr R 0) ∧ Tz.get 14 = some .nslice ∧ Tz.get 15 = some (.int .i64 ((0 : Nat) : Int)) ∧ Tz.get 16 = some (.int .i64 0) ∧ t = tz ∧ nx = nz) (fun mm Tzz1 tz nz hI => ?_) 0 ⟨(z1 (z2 (z4 (get_other rfl (get_other rfl get_same))))), (z2 ds), (z1 ds), ds, rfl, rfl⟩)))))))))))))))
 obtain ⟨qzz1_0, qzz1_14, qzz1_15, qzz1_16, rfl, rfl⟩ := hI
 refine k_seq (k_reg (rO (dec_f (o_lss (eV qzz1_16) (eV qzz1_15)) (by simp)) (r_nil (k_seq (k_cond_f eZ (k_exit (exK_same (k_seq (k_reg (m1 (z1 qzz1_0) (rO (o_nilck eZ) (rO (o_faddr (off := 9) eZ) (rO (o_load eZ hS.hR rfl) (rO (o_len_nslice eZ) (rO (ndec_t (o_leq eZ ev_c) (by simp)) (m1 ds (r_nil (k_ret ?_))))))))))))))))))
 exact ⟨_, ans_tmp ds, by first | rfl | decide, by omega, kR⟩
def run__r0 : LI := [.o 3 (.box (.t 0)),
 .o 6 (.alloc [.nslice, .nslice, .nslice, .nslice]),
 .o 7 (.mov (kI 0))]
def run__r1 : LI := [.o 19 (.loadA 3 (.t 3)),
 .mv 20 1,
 .mv 21 2,
 .f 22 14 [(.t 19), (.t 20), (.t 21)],
 .mv 8 22]
def run__r2 : LI := [.mv 23 8,
 .o 24 (.bin .neq (.t 23) (kI 0))]
def run__r3 : LI := [.o 25 (.build [.nslice, .nslice, .nslice, .nslice] []),
 .mv 26 8,
 .x (.store 4 (.t 6) (.t 25)),
 .mv 7 26]
def run__r4 : LI := [.o 27 (.loadA 3 (.t 3)),
 .f 28 54 [(.t 27)],
 .mv 9 28]
def run__r5 : LI := [.mv 29 9,
 .f 30 55 [(.t 29)],
 .o 31 (.build [.nslice, .nslice, .nslice, .nslice] [(2, 1, (.t 30))]),
 .o 10 (.alloc [.nslice, .nslice, .nslice, .nslice]),
 .x (.store 4 (.t 10) (.t 31))]
def run__r6 : LI := [.o 32 (.faddr (.t 3) 1),
 .o 33 (.load (.t 32)),
 .o 34 (.len .slc (.t 33)),
 .o 35 (.mov (kI 0))]
def run__r7 : LI := [.o 36 (.bin .lss (.t 35) (.t 34))]
def run__r8 : LI := [.o 37 (.iaddr 1 (.t 33) (.t 35)),
 .o 38 (.load (.t 37)),
 .mv 12 38]
def run__r9 : LI := [.o 39 (.faddr (.t 10) 0),
 .o 40 (.load (.t 39)),
 .o 41 (.bslice 1 1 [(.str [])] [(0, 1, (.c (.str [])))]),
 .o 42 (.app 1 (.t 40) (.t 41)),
 .o 43 (.faddr (.t 10) 0),
 .x (.store 1 (.t 43) (.t 42))]
def run__r10 : List DIns := [⟨0, [], .o 44 (.faddr (.t 10) 1)⟩,
 ⟨1, [0], .o 45 (.load (.t 44))⟩,
 ⟨2, [], .o 46 (.faddr (.t 3) 0)⟩,
 ⟨3, [2], .o 47 (.load (.t 46))⟩,
 ⟨4, [], .mv 48 12⟩,
 ⟨5, [3, 4], .o 49 (.iaddr 8 (.t 47) (.t 48))⟩,
 ⟨6, [5], .o 50 (.faddr (.t 49) 2)⟩,
 ⟨7, [6], .o 51 (.load (.t 50))⟩,
 ⟨8, [7], .o 52 (.bslice 1 1 [(.int .i64 0)] [(0, 1, (.t 51))])⟩,
 ⟨9, [1, 8], .o 53 (.app 1 (.t 45) (.t 52))⟩,
 ⟨10, [0, 1, 2, 3, 4, 5, 6, 7, 8, 9], .o 54 (.faddr (.t 10) 1)⟩,
 ⟨11, [10, 9, 9, 0, 1, 2, 3, 4, 5, 6, 7, 8, 9], .x (.store 1 (.t 54) (.t 53))⟩]
def run__r11 : LI := [.o 55 (.bin .add (.t 35) (kI 1)),
 .mv 35 55]
def run__r12 : LI := [.mv 56 9,
 .f 57 55 [(.t 56)],
 .mv 13 57]
def run__r13 : LI := [.o 14 (.mov (kI 0)),
 .o 15 (.mov (kI 0))]
def run__r14 : LI := [.mv 58 14,
 .mv 59 2,
 .o 60 (.bin .leq (.t 58) (.t 59))]
def run__r15 : LI := [.mv 63 15,
 .o 64 (.bin .eql (.t 63) (kI 16384))]
def run__r16 : LI := [.o 65 (.build [.nslice, .nslice, .nslice, .nslice] []),
 .x (.store 4 (.t 6) (.t 65)),
 .o 7 (.mov (kI 2))]
def run__r17 : LI := [.mv 66 9,
 .o 67 (.nilck (.t 66)),
 .o 68 (.faddr (.t 67) 9),
 .o 69 (.load (.t 68)),
 .o 70 (.len .slc (.t 69)),
 .o 71 (.bin .gtr (.t 70) (kI 0)),
 .mv 72 71,
 .g 73 72 true (.mov (.t 9)),
 .g 74 72 true (.nilck (.t 73)),
 .g 75 72 true (.faddr (.t 74) 9),
 .g 76 72 true (.load (.t 75)),
 .g 77 72 true (.iaddr 3 (.t 76) (kI 0)),
 .g 78 72 true (.faddr (.t 77) 0),
 .g 79 72 true (.load (.t 78)),
 .g 80 72 true (.mov (.t 14)),
 .g 81 72 true (.bin .eql (.t 79) (.t 80)),
 .o 82 (.pick (.t 72) (.t 81) (.c (.bool false)))]
def run__r18 : LI := [.mv 83 9,
 .o 84 (.nilck (.t 83)),
 .o 85 (.faddr (.t 84) 9),
 .o 86 (.iface 111 (.t 85)),
 .f 87 56 [(.t 86)],
 .o 88 (.tassert 109 (.agg [(.int .i64 0), (.int .i64 0), (.str [])]) (.t 87) false),
 .o 16 (.alloc [(.int .i64 0), (.int .i64 0), (.str [])]),
 .x (.store 3 (.t 16) (.t 88))]
def run__r19 : List DIns := [⟨0, [], .mv 89 9⟩,
 ⟨1, [0], .o 90 (.nilck (.t 89))⟩,
 ⟨2, [1], .o 91 (.faddr (.t 90) 6)⟩,
 ⟨3, [2], .o 92 (.load (.t 91))⟩,
 ⟨4, [], .o 93 (.faddr (.t 16) 1)⟩,
 ⟨5, [4], .o 94 (.load (.t 93))⟩,
 ⟨6, [], .o 95 (.faddr (.t 16) 2)⟩,
 ⟨7, [6], .o 96 (.load (.t 95))⟩,
 ⟨8, [3, 5, 0, 1, 2, 3, 4, 5, 6, 7], .o 97 (.iaddr 1 (.t 92) (.t 94))⟩,
 ⟨9, [8, 7, 0, 1, 2, 3, 4, 5, 6, 7], .x (.store 1 (.t 97) (.t 96))⟩]
def run__r20 : LI := [.mv 98 1,
 .o 99 (.len .slc (.t 98)),
 .o 100 (.bin .gtr (.t 99) (kI 0)),
 .mv 101 100,
 .g 102 101 true (.mov (.t 1)),
 .g 103 101 true (.iaddr 3 (.t 102) (kI 0)),
 .g 104 101 true (.faddr (.t 103) 0),
 .g 105 101 true (.load (.t 104)),
 .g 106 101 true (.mov (.t 14)),
 .g 107 101 true (.bin .eql (.t 105) (.t 106)),
 .o 108 (.pick (.t 101) (.t 107) (.c (.bool false)))]
def run__r21 : List DIns := [⟨0, [], .mv 109 9⟩,
 ⟨1, [0], .o 110 (.nilck (.t 109))⟩,
 ⟨2, [1], .o 111 (.faddr (.t 110) 6)⟩,
 ⟨3, [2], .o 112 (.load (.t 111))⟩,
 ⟨4, [], .o 113 (.faddr (.t 3) 1)⟩,
 ⟨5, [4], .o 114 (.load (.t 113))⟩,
 ⟨6, [], .mv 115 1⟩,
 ⟨7, [6], .o 116 (.iaddr 3 (.t 115) (kI 0))⟩,
 ⟨8, [7], .o 117 (.faddr (.t 116) 1)⟩,
 ⟨9, [8], .o 118 (.load (.t 117))⟩,
 ⟨10, [5, 9], .o 119 (.iaddr 1 (.t 114) (.t 118))⟩,
 ⟨11, [10], .o 120 (.load (.t 119))⟩,
 ⟨12, [], .mv 121 1⟩,
 ⟨13, [12], .o 122 (.iaddr 3 (.t 121) (kI 0))⟩,
 ⟨14, [13], .o 123 (.faddr (.t 122) 2)⟩,
 ⟨15, [14], .o 124 (.load (.t 123))⟩,
 ⟨16, [3, 11, 0, 1, 2, 3, 4, 5, 6, 7, 8, 9, 10, 11, 12, 13, 14, 15], .o 125 (.iaddr 1 (.t 112) (.t 120))⟩,
 ⟨17, [16, 15, 0, 1, 2, 3, 4, 5, 6, 7, 8, 9, 10, 11, 12, 13, 14, 15], .x (.store 1 (.t 125) (.t 124))⟩]
def run__r22 : LI := [.mv 126 1,
 .o 127 (.cslice 3 (.t 126) (some (kI 1)) none none),
 .mv 1 127]
def run__r23 : LI := [.mv 128 9,
 .f 129 57 [(.t 128)]]
def run__r24 : LI := [.mv 130 9,
 .f 131 55 [(.t 130)],
 .o 132 (.len .slc (.t 131)),
 .o 133 (.mov (kI 0))]
def run__r25 : LI := [.o 134 (.bin .lss (.t 133) (.t 132))]
def run__r26 : LI := [.mv 135 133,
 .o 136 (.iaddr 1 (.t 131) (.t 133)),
 .o 137 (.load (.t 136)),
 .mv 17 135,
 .mv 18 137]
def run__r27 : LI := [.mv 138 18,
 .mv 139 13,
 .mv 140 17,
 .o 141 (.iaddr 1 (.t 139) (.t 140)),
 .o 142 (.load (.t 141)),
 .o 143 (.bin .neq (.t 138) (.t 142))]
def run__r28 : LI := [.o 144 (.faddr (.t 10) 3),
 .o 145 (.load (.t 144)),
 .mv 146 14,
 .mv 147 17,
 .mv 148 18,
 .o 149 (.build [(.int .i64 0), (.int .i64 0), (.str [])] [(0, 1, (.t 146)), (1, 1, (.t 147)), (2, 1, (.t 148))]),
 .o 150 (.bslice 3 1 [(.int .i64 0), (.int .i64 0), (.str [])] [(0, 3, (.t 149))]),
 .o 151 (.app 3 (.t 145) (.t 150)),
 .o 152 (.faddr (.t 10) 3),
 .x (.store 1 (.t 152) (.t 151))]
def run__r29 : LI := [.mv 153 13,
 .mv 154 17,
 .mv 155 18,
 .o 156 (.iaddr 1 (.t 153) (.t 154)),
 .x (.store 1 (.t 156) (.t 155))]
def run__r30 : LI := [.o 157 (.bin .add (.t 133) (kI 1)),
 .mv 133 157]
def run__r31 : LI := [.mv 158 9,
 .mv 159 14,
 .mv 160 2,
 .f 161 58 [(.t 158), (.t 159), (.t 160)],
 .o 162 (.not (.t 161))]
def run__r32 : LI := [.o 163 (.build [.nslice, .nslice, .nslice, .nslice] []),
 .x (.store 4 (.t 6) (.t 163)),
 .o 7 (.mov (kI 141))]
def run__r33 : LI := [.mv 164 2,
 .o 165 (.bin .add (.t 164) (kI 1)),
 .mv 14 165]
def run__r34 : LI := [.mv 166 9,
 .o 167 (.nilck (.t 166)),
 .o 168 (.faddr (.t 167) 9),
 .o 169 (.load (.t 168)),
 .o 170 (.len .slc (.t 169)),
 .o 171 (.bin .gtr (.t 170) (kI 0))]
def run__r35 : LI := [.mv 172 14,
 .mv 173 9,
 .o 174 (.nilck (.t 173)),
 .o 175 (.faddr (.t 174) 9),
 .o 176 (.load (.t 175)),
 .o 177 (.iaddr 3 (.t 176) (kI 0)),
 .o 178 (.faddr (.t 177) 0),
 .o 179 (.load (.t 178)),
 .o 180 (.mm false (.t 172) (.t 179)),
 .mv 14 180]
def run__r36 : LI := [.mv 181 1,
 .o 182 (.len .slc (.t 181)),
 .o 183 (.bin .gtr (.t 182) (kI 0))]
def run__r37 : LI := [.mv 184 14,
 .mv 185 1,
 .o 186 (.iaddr 3 (.t 185) (kI 0)),
 .o 187 (.faddr (.t 186) 0),
 .o 188 (.load (.t 187)),
 .o 189 (.mm false (.t 184) (.t 188)),
 .mv 14 189]
def run__r38 : LI := [.mv 61 15,
 .o 62 (.bin .add (.t 61) (kI 1)),
 .mv 15 62]
def run__r39 : LI := [.o 190 (.loadA 4 (.t 10)),
 .x (.store 4 (.t 6) (.t 190)),
 .o 7 (.mov (kI 0))]
def run__c : IC := (.seq (.reg run__r0) (.seq (.seq (.reg run__r1) (.seq (.reg run__r2) (.cond (.t 24) (.seq (.reg run__r3) .ret) .skip))) (.seq (.reg run__r4) (.seq (.reg run__r5) (.seq (.seq (.reg run__r6) (.block 0 (.loop (.seq (.reg run__r7) (.seq (.cond (.t 36) .skip (.exit 0)) (.seq (.block 1 (.seq (.reg run__r8) (.seq (.reg run__r9) (.draw run__r10)))) (.reg run__r11))))))) (.seq (.reg run__r12) (.seq (.seq (.reg run__r13) (.block 2 (.loop (.seq (.seq (.reg run__r14) (.cond (.t 60) .skip (.exit 2))) (.seq (.block 3 (.seq (.seq (.reg run__r15) (.cond (.t 64) (.seq (.reg run__r16) .ret) .skip)) (.seq (.block 4 (.loop (.seq (.seq (.reg run__r17) (.cond (.t 82) .skip (.exit 4))) (.block 5 (.seq (.reg run__r18) (.draw run__r19)))))) (.seq (.block 6 (.loop (.seq (.seq (.reg run__r20) (.cond (.t 108) .skip (.exit 6))) (.block 7 (.seq (.draw run__r21) (.reg run__r22)))))) (.seq (.reg run__r23) (.seq (.seq (.reg run__r24) (.block 8 (.loop (.seq (.reg run__r25) (.seq (.cond (.t 134) .skip (.exit 8)) (.seq (.block 9 (.seq (.reg run__r26) (.seq (.reg run__r27) (.cond (.t 143) (.seq (.reg run__r28) (.reg run__r29)) .skip)))) (.reg run__r30))))))) (.seq (.seq (.reg run__r31) (.cond (.t 162) (.seq (.reg run__r32) .ret) .skip)) (.seq (.reg run__r33) (.seq (.seq (.reg run__r34) (.cond (.t 171) (.reg run__r35) .skip)) (.seq (.reg run__r36) (.cond (.t 183) (.reg run__r37) .skip))))))))))) (.reg run__r38)))))) (.seq (.reg run__r39) .ret))))))))
theorem run__tab : tb 16 = some (.code 3 191 run__c [.cell 6 4 true, .tmp 7]) := by kernel_rfl
set_option maxHeartbeats 8000000 in
theorem run_ok {t : TB} {nx bd : Nat} {vn vt cv : AV} {ns : List Nd} {ts : List Int} {cs : List Chg} {h : Int} {Φ : List Int → List Chg → Prop} (hL : NR t bd vn vt ns ts) (hb : bd ≤ nx) (hG : LvN ns) (hM : MayP ns ts ((ts.length : Nat) : Int)) (hlong : ∀ x ∈ ns, x.ins.length < 60000 ∧ (∀ c ∈ x.value, c < 256) ∧ x.value.length ≤ 9223372036854775807) (h8 : ∀ x ∈ ns, x.kind ≠ 8) (h0 : 0 < ns.length) (hsm : ns.length < 20) (ht0 : 0 < ts.length) (hC : RowC t bd cv cs) (hcl : cs.length < 1000000000000) (hSt : StimP ns ts cs h)
   (hrun : ∀ gs : List Int, gs.Perm (gl ns ns.length) → Ord ns gs → ∃ (k : Nat) (fin : List Chg), k ≤ 16383 ∧ fin.length ≤ 20000 ∧ RunL ns ts gs (flp ns ns.length) h k 0 cs (followL ns gs (x0 ns)) (wasL ns (followL ns gs (x0 ns)) (flp ns ns.length)) (insV (followL ns gs (x0 ns)) ts) [] fin ∧ Φ gs fin) :
   WF tb 16 [.agg [vn, vt, (.int .i64 ((ts.length : Nat) : Int))], cv, .int .i64 h] t nx (fun v' t' nx' => ∃ (a1 a2 lv : AV) (P LB lo : Nat) (gs : List Int) (fin : List Chg), v' = .tup [.agg [a1, a2, .slice P 0 ts.length ts.length 1 false, lv], .int .i64 0] ∧ gs.Perm (gl ns ns.length) ∧ Ord ns gs ∧ Φ gs fin ∧ hv t' P = some (.row (strs (insV (followL ns gs (x0 ns)) ts)) true) ∧ OY t' nx' lo LB lv fin ∧ nx ≤ P ∧ P < nx' ∧ nx ≤ lo ∧ isCell a1 = true ∧ isCell a2 = true ∧ nx ≤ nx' ∧ Keep t t' nx (fun _ => False)) := by
 have hfew := hL.few
 have htl := hL.tl
 have hcn := hL.hN.cell
 have hct := hL.hT.cell
 have hup := hSt.upto
 refine k_fun run__tab rfl ?_
 unfold run__c
 change WC _ _ (Bt.put (some _) (Bt.put (some _) (Bt.put (some _) Bt.e 0) 1) 2) _ _ _
 refine k_seq (k_reg (r_heap (o_box (eV (get_other rfl (get_other rfl get_same)))) rfl (fun t1 (hh2 : hv t1 = upd (hv t) nx (some (.row [vn, vt, (.int .i64 ((ts.length : Nat) : Int))] true))) => r_heap (o_alloc) rfl (fun t3 (hh4 : hv t3 = upd (hv t1) (nx + 1) (some (.row [.nslice, .nslice, .nslice, .nslice] true))) => rO (o_mov ev_c) (r_nil (k_seq (k_seq (k_reg (rO (o_loadA (n := 3) (eV (z2 ds)) (lN hh4 (lS hh2)) (leb rfl) rfl) (m1 (z4 (get_other rfl get_same)) (m1 (z1 (z4 get_same)) ?_)))))))))))
 refine r_call (w_callF (evs_cons (eV (z2 ds)) (evs_cons (eV (z1 ds)) (evs_cons eZ evs_nil)))) rfl (WF.mono (echeck_ok (hL.hN.keep (fun d hd hw => (show Keep t t3 nx (fun _ => False) from kU (kU kR hh2) hh4) d (by omega) hw) (Nat.le_refl bd)) (hL.hT.keep (fun d hd hw => (show Keep t t3 nx (fun _ => False) from kU (kU kR hh2) hh4) d (by omega) hw) (Nat.le_refl bd)) (hC.keep (fun d hd hw => (show Keep t t3 nx (fun _ => False) from kU (kU kR hh2) hh4) d (by omega) hw) (Nat.le_refl bd)) (by omega) (by omega) (by omega) (by omega) hM.nets (fun c hc => ⟨fun b hb_ => by have h_ := bitC_iff.1 ((hSt.each c hc).2.2.1.2.2 b hb_); omega, by have h_ := (hSt.each c hc).2.2.1.2.1; omega⟩) hM hlong (fun t2 nx2 k2 h2 => lrun_ok ((hL.hN.keep (fun d hd hw => (show Keep t t3 nx (fun _ => False) from kU (kU kR hh2) hh4) d (by omega) hw) (Nat.le_refl bd)).keep (fun d hd hw => k2 d (by omega) hw) (Nat.le_refl bd)) ((hL.hT.keep (fun d hd hw => (show Keep t t3 nx (fun _ => False) from kU (kU kR hh2) hh4) d (by omega) hw) (Nat.le_refl bd)).keep (fun d hd hw => k2 d (by omega) hw) (Nat.le_refl bd)) (by omega) hG hM (by omega) hlong)) ?_)
 rintro _ t5 n6 ⟨rk, rfl, hrk1, hrk2, hn_c, hk_c⟩
 obtain rfl : rk = 0 := hrk2.2 hSt
 refine m1 ds (r_nil (k_seq (k_reg (m1 ds (rO (ndec_f (o_neq eZ ev_c) (by simp)) (r_nil (k_cond_f eZ (k_skip (k_seq (k_reg (rO (o_loadA (n := 3) (eV (z1 (z8 ds))) (Keep.look hk_c (by omega) id (lN hh4 (lS hh2))) (leb rfl) rfl) ?_)))))))))))
 have hLb := hL.keep (show Keep t t5 nx (fun _ => False) from Keep.trans (kU (kU kR hh2) hh4) hk_c (by omega) (fun d _ h => h)) hb (fun _ _ h => h)
 refine r_call (w_callF (evs_cons eZ evs_nil)) rfl (WF.mono (begun_ok hLb (by omega) hG hM hlong h8 h0 hsm) ?_)
 rintro _ t7 n8 ⟨R, V, WA, gsv, flv, lav, gs, v1, rfl, hv1, hS0, hgs0, hfl0, hlav, hpm, hord, hVI0, hn_b, hk_b⟩
 have hs0 := hS0.hs
 obtain ⟨hGsOK, hGall, hGl⟩ := gl_OK hpm
 have hfpl := flp_len ns ns.length
 obtain ⟨K, fin, hK, hfl_, hrl, hPhi⟩ := hrun gs hpm hord
 rw [← hv1] at hrl
 have hWV0 : WV (flp ns ns.length) (wasL ns v1 (flp ns ns.length)) := fun k hk => by
   rw [wasL_at hk]
   obtain ⟨hk0, x, hx, hx7⟩ := flp_OK k hk
   obtain ⟨c, d, hins, hcr_, hdr_, hwd⟩ := flip_ins hL.g (List.mem_of_getElem? hx) hx7
   rw [insAt0 hx hins]
   exact hL.g.isV hVI0 hcr_
 have hvl0 := hVI0.len
 refine m1 ds (r_nil (k_seq (k_reg (m1 ds (r_call (w_callF (evs_cons eZ evs_nil)) rfl (WF.mono (ports_ok (hS0.keep (show Keep t7 t7 n8 (fun b => False) from Keep.refl t7 n8 _) (Nat.le_refl _) (fun _ h => h.elim) (by omega)) ((hL.keep (show Keep t t7 nx (fun _ => False) from Keep.trans (Keep.trans (kU (kU kR hh2) hh4) hk_c (by omega) (fun d _ h => h)) hk_b (by omega) (fun d _ h => h)) hb (fun _ _ h => h)).up (show bd ≤ n6 by omega)) (by omega) ht0 (by omega)) ?_))))))
 rintro _ t9 n10 ⟨P1, rfl, hP1a, hP1b, hrP1, hn_P1, hk_P1⟩
 refine rO (o_build (fill_cons eZ rfl rfl fill_nil)) (r_heap (o_alloc) rfl (fun t11 (hh12 : hv t11 = upd (hv t9) n10 (some (.row [.nslice, .nslice, .nslice, .nslice] true))) => r_heap (o_store (n := 4) eZ (eV (z1 ds)) (lS hh12) rfl rfl (leb rfl)) rfl (fun t13 (hh14 : hv t13 = upd (hv t11) n10 (some (.row [.nslice, .nslice, (.slice P1 0 ts.length ts.length 1 false), .nslice] true))) => r_nil (k_seq (k_seq (k_reg (rO (o_faddr (off := 1) (eV (z1 (z16 ds)))) (rO (o_load eZ (lN hh14 (lN hh12 (Keep.look hk_P1 (by omega) id (Keep.look hk_b (by omega) id (Keep.look hk_c (by omega) id (lN hh4 (lS hh2))))))) rfl) (rO (o_len_I hL.hT eZ) (rO (o_mov ev_c) (r_nil (k_block (k_loop (fun mm Tv tv nv => ∃ (i a b : Nat) (v1_ v2_ : AV) (l1 l2 : List AV), i ≤ ts.length ∧ (Tv.get 1 = some cv ∧ Tv.get 2 = some (.int .i64 h) ∧ Tv.get 3 = some (.ptr nx 0) ∧ Tv.get 6 = some (.ptr (nx + 1) 0) ∧ Tv.get 9 = some (.ptr R 0) ∧ Tv.get 10 = some (.ptr n10 0) ∧ Tv.get 33 = some vt ∧ Tv.get 34 = some (.int .i64 ((ts.length : Nat) : Int)) ∧ Tv.get 35 = some (.int .i64 ((i : Nat) : Int))) ∧ hv tv n10 = some (.row [v1_, v2_, (.slice P1 0 ts.length ts.length 1 false), .nslice] true) ∧ OX tv nv n10 a v1_ i l1 ∧ OX tv nv n10 b v2_ i l2 ∧ (a ≠ b ∨ a = n10) ∧ n10 < nv ∧ Keep t13 tv n10 (fun _ => False) ∧ Keep t tv nx (fun _ => False) ∧ mm + i = ts.length) (fun mm Tv tv nv hI => ?_) (ts.length) ⟨0, n10, n10, .nslice, .nslice, [], [], by omega, ⟨(z2 (z4 (z16 (get_other rfl get_same)))), (z2 (z4 (z16 get_same))), (z1 (z4 (z16 ds))), (z4 (z16 ds)), (z1 (z8 ds)), (z1 (z4 ds)), (z2 ds), (z1 ds), ds⟩, (lS hh14), .nil (by omega), .nil (by omega), by omega, by omega, kR, kU (kU (Keep.trans (Keep.trans (Keep.trans (kU (kU kR hh2) hh4) hk_c (by omega) (fun d _ h => h)) hk_b (by omega) (fun d _ h => h)) hk_P1 (by omega) (fun d _ h => h)) hh12) hh14, rfl⟩)))))))))))))
 obtain ⟨i, a, b, v1_, v2_, l1, l2, hi, ⟨q1, q2, q3, q6, q9, q10, q33, q34, q35⟩, hW, hO1, hO2, hab, hnv, hkB, hkv, hmm⟩ := hI
 have ho1 := hO1.lt; have ho2 := hO2.lt
 have h0r := hkB.look (by omega) id (lN hh14 (lN hh12 (Keep.look hk_P1 (by omega) id (Keep.look hk_b (by omega) id (Keep.look hk_c (by omega) id (lN hh4 (lS hh2)))))))
 refine k_seq (k_reg (rO (o_lss (eV q35) (eV q34)) (r_nil (k_seq ?_))))
 refine k_if eZ (fun hc15 => ?_) (fun hc15 => ?_)
 · refine k_skip (k_seq (k_block (k_seq ?_)))
   obtain ⟨k, hk⟩ := some_at (l := ts) (i := i) (by omega)
   have hkr := hL.nets k (List.mem_of_getElem? hk)
   obtain ⟨dT, oT, cT, exT, wrT, rT, hTe, hTd, hTr, hTg⟩ := RowI.at hL.hT hk
   have hTr1 := hkv.look (by omega) id hTr
   have hx := ndAt_lt (ns := ns) (k := k.toNat) (by omega)
   obtain ⟨x, hxe⟩ : ∃ x, x = ndAt ns k.toNat := ⟨_, rfl⟩
   rw [← hxe] at hx
   obtain ⟨dN, oN, cN, exN, wrN, rN, iv, hNe, hNd, hNr, hNl, hNg, hI, hic⟩ := RowN.at hL.hN hx
   have hNr1 := hkv.look (by omega) id hNr
   refine k_reg (rO (o_iaddrE (i := i) (eV (z1 q33)) hTe (eV (z1 q35)) (by omega)) (rO (o_load eZ hTr1 hTg) (m1 ds (r_nil (k_seq (k_reg (rO (o_faddr (off := 0) (eV (z4 q10))) (rO (o_load eZ hW rfl) (r_heap (o_bslice (fill_cons ev_c rfl rfl fill_nil)) rfl (fun t16 (hh17 : hv t16 = upd (hv tv) nv (some (.row [(.str [])] true))) => ?_))))))))))
   refine r_heap (o_appE (eV (z1 ds)) eZ ((hO1.keep (nx' := (nv + 1)) (show Keep tv t16 nv (fun b => False) from Keep.upd (Keep.refl tv nv _) hh17 (by first | exact .inl (by omega) | (right; first | exact rfl | (show _ ∨ _; omega) | omega))) (Nat.le_refl _) (fun h => h.elim) (by omega)).app (by omega) (lS hh17) rfl (by omega))) rfl (fun ta ⟨hO1b, hka⟩ => ?_)
   refine rO (o_faddr (off := 0) (eV (z8 q10))) (r_heap (o_store (n := 1) eZ (eV (z1 ds)) (Keep.look hka (by omega) (fun h_ => absurd (show n10 = a ∧ n10 < a from h_) (by omega)) (lN hh17 hW)) rfl rfl (leb rfl)) rfl (fun t18 (hh19 : hv t18 = upd (hv ta) n10 (some (.row [(.slice (nv + 1) 0 (i + 1) (i + 1) 1 false), v2_, (.slice P1 0 ts.length ts.length 1 false), .nslice] true))) => r_nil (k_draw (eO 0 rfl (o_faddr (off := 1) (eV (z2 (z8 q10)))) (eO 1 rfl (o_load eZ (lS hh19) rfl) (eO 2 rfl (o_faddr (off := 0) (eV (z4 (z8 q3)))) (eO 3 rfl (o_load eZ (lN hh19 (Keep.look hka (by omega) (fun h_ => absurd (show nx = a ∧ n10 < a from h_) (by omega)) (lN hh17 h0r))) rfl) (eO 4 rfl (o_mov (eV (z2 (z8 ds)))) (eO 5 rfl (o_iaddrE (i := k.toNat) (eV (z1 ds)) hNe (ev_cast eZ (by omega)) (by omega)) (eO 6 rfl (o_faddr (off := 2) eZ) (eO 7 rfl (o_load eZ (lN hh19 (Keep.look hka (by omega) (fun h_ => absurd (show dN = a ∧ n10 < a from h_) (by omega)) (lN hh17 hNr1))) (node_at hNg rfl)) ?_)))))))))))
   refine d_heap (ix := 8) (pr := [7]) (d := (some 52)) (g := none) (F' := [(⟨2, [], .o 46 (.faddr (.t 3) 0)⟩, (.ptr nx 0)), (⟨1, [0], .o 45 (.load (.t 44))⟩, v2_), (⟨0, [], .o 44 (.faddr (.t 10) 1)⟩, (.ptr n10 1))]) (o := (.bslice 1 1 [(.int .i64 0)] [(0, 1, (.t 51))])) (o_bslice (fill_cons eZ rfl rfl fill_nil)) rfl (by kernel_rfl) (by kernel_rfl) (by kernel_rfl) (by kernel_rfl) (fun t20 (hh21 : hv t20 = upd (hv t18) ((nv + 1) + 1) (some (.row [(.int .i64 x.wide)] true))) => ⟨?_, ?_⟩)
   · exact (all_cons_ (still_op rfl rfl (o_faddr (off := 0) (eV (z1 (z2 (z16 q3))))) (aeq_flat rfl)) (all_cons_ (still_op rfl rfl (o_load (eV (z8 ds)) (lN hh21 (lS hh19)) rfl) (aeq_flat hO2.flat)) (all_cons_ (still_op rfl rfl (o_faddr (off := 1) (eV (z1 (z2 (z16 q10))))) (aeq_flat rfl)) all_nil_)))
   refine d_heap (ix := 9) (pr := [1, 8]) (d := (some 53)) (g := none) (F' := [(⟨2, [], .o 46 (.faddr (.t 3) 0)⟩, (.ptr nx 0))]) (o := (.app 1 (.t 45) (.t 52))) (o_appE (eV (z1 (z2 (z4 ds)))) eZ ((hO2.keep (nx' := (((nv + 1) + 1) + 1)) (show Keep tv t20 nv (fun z => z = n10 ∨ (z = a ∧ n10 < a)) from Keep.upd (Keep.upd (Keep.trans (Keep.upd (Keep.refl tv nv _) hh17 (by first | exact .inl (by omega) | (right; first | exact rfl | (show _ ∨ _; omega) | omega))) hka (by omega) ((fun _ _ h => .inr h))) hh19 (by first | exact .inl (by omega) | (right; first | exact rfl | (show _ ∨ _; omega) | omega))) hh21 (by first | exact .inl (by omega) | (right; first | exact rfl | (show _ ∨ _; omega) | omega))) (Nat.le_refl _) (fun h_ => by have e_ : b = n10 ∨ (b = a ∧ n10 < a) := h_; omega) (by omega)).app (by omega) (lS hh21) rfl (by omega))) rfl (by kernel_rfl) (by kernel_rfl) (by kernel_rfl) (by kernel_rfl) (fun tb ⟨hO2b, hkd⟩ => ⟨?_, ?_⟩)
   · exact (all_cons_ (still_op rfl rfl (o_faddr (off := 0) (eV (z4 (z16 q3)))) (aeq_flat rfl)) all_nil_)
   refine eO 10 rfl (o_faddr (off := 1) (eV (z4 (z16 q10)))) ?_
   refine d_heap (ix := 11) (pr := [10, 9, 9, 0, 1, 2, 3, 4, 5, 6, 7, 8, 9]) (d := none) (g := none) (F' := []) (o := (.store 1 (.t 54) (.t 53))) (o_store (n := 1) eZ (eV (z1 ds)) (Keep.look hkd (by omega) (fun h_ => absurd (show n10 = b ∧ n10 < b from h_) (by omega)) (lN hh21 (lS hh19))) rfl rfl (leb rfl)) rfl (by kernel_rfl) (by kernel_rfl) (by kernel_rfl) (by kernel_rfl) (fun t22 (hh23 : hv t22 = upd (hv tb) n10 (some (.row [(.slice (nv + 1) 0 (i + 1) (i + 1) 1 false), (.slice (((nv + 1) + 1) + 1) 0 (i + 1) (i + 1) 1 false), (.slice P1 0 ts.length ts.length 1 false), .nslice] true))) => ⟨?_, ?_⟩)
   · exact all_nil_
   refine e_done (k_reg (rO (o_addN (a := i) (b := 1) (eV (z2 (z4 (z16 q35)))) ev_c (by omega)) (m1 ds (r_nil ?_))))
   have hkA : Keep tv t22 nv (fun z => z = n10 ∨ (z = a ∧ n10 < a) ∨ (z = b ∧ n10 < b)) := Keep.upd (Keep.trans (Keep.upd (Keep.upd (Keep.trans (Keep.upd (Keep.refl tv nv _) hh17 (by first | exact .inl (by omega) | (right; first | exact rfl | (show _ ∨ _; omega) | omega))) hka (by omega) ((fun _ _ h => .inr (.inl h)))) hh19 (by first | exact .inl (by omega) | (right; first | exact rfl | (show _ ∨ _; omega) | omega))) hh21 (by first | exact .inl (by omega) | (right; first | exact rfl | (show _ ∨ _; omega) | omega))) hkd (by omega) ((fun _ _ h => .inr (.inr h)))) hh23 (by first | exact .inl (by omega) | (right; first | exact rfl | (show _ ∨ _; omega) | omega))
   have hk1 : Keep ta t22 ((nv + 1) + 1) (fun z => z = n10 ∨ (z = b ∧ n10 < b)) := Keep.upd (Keep.trans (Keep.upd (Keep.upd (Keep.refl ta ((nv + 1) + 1) _) hh19 (by first | exact .inl (by omega) | (right; first | exact rfl | (show _ ∨ _; omega) | omega))) hh21 (by first | exact .inl (by omega) | (right; first | exact rfl | (show _ ∨ _; omega) | omega))) hkd (by omega) ((fun _ _ h => .inr h))) hh23 (by first | exact .inl (by omega) | (right; first | exact rfl | (show _ ∨ _; omega) | omega))
   have hk2 : Keep tb t22 ((((nv + 1) + 1) + 1) + 1) (fun z => z = n10) := Keep.upd (Keep.refl tb ((((nv + 1) + 1) + 1) + 1) _) hh23 (by first | exact .inl (by omega) | (right; first | exact rfl | (show _ ∨ _; omega) | omega))
   exact ⟨ts.length - (i + 1), by omega, i + 1, _, _, _, _, _, _, by omega, ⟨(z8 (z16 q1)), (z8 (z16 q2)), (z8 (z16 q3)), (z8 (z16 q6)), (z8 (z16 q9)), (z8 (z16 q10)), (z8 (z16 q33)), (z8 (z16 q34)), ds⟩, (lS hh23), hO1b.keep hk1 (by omega) (fun h_ => by have e_ : (nv + 1) = n10 ∨ ((nv + 1) = b ∧ n10 < b) := h_; omega) (by omega), hO2b.keep hk2 (by omega) (fun h_ => by have e_ : (((nv + 1) + 1) + 1) = n10 := h_; omega) (by omega), by omega, by omega, Keep.trans hkB hkA (by omega) (fun z hz h_ => by have e_ : z = n10 ∨ (z = a ∧ n10 < a) ∨ (z = b ∧ n10 < b) := h_; omega), kU (Keep.trans (kU (kU (Keep.trans (kU (hkv) hh17) hka (by omega) ((fun z hz h_ => absurd (show z = a ∧ n10 < a from h_) (by omega)))) hh19) hh21) hkd (by omega) ((fun z hz h_ => absurd (show z = b ∧ n10 < b from h_) (by omega)))) hh23, by omega⟩
 refine k_exit (exK_same (k_seq ?_))
 have hfa1 := hO1.flat; have hfa2 := hO2.flat; have hca1 := hO1.cell; have hca2 := hO2.cell
 have hb0 := hkB.look (by omega) id (lN hh14 (lN hh12 (Keep.look hk_P1 (by omega) id (Keep.look hk_b (by omega) id (Keep.look hk_c (by omega) id (lN hh4 (lS hh2)))))))
 have hb6 := hkB.look (by omega) id (lN hh14 (lN hh12 (Keep.look hk_P1 (by omega) id (Keep.look hk_b (by omega) id (Keep.look hk_c (by omega) id (lS hh4))))))
 have hbP1 := hkB.look (by omega) id (lN hh14 (lN hh12 hrP1))
 have hS1 := hS0.keep ((show Keep t7 tv n8 (fun _ => False) from fun z hz hz2 => (hkB z (by omega) hz2).trans (((show Keep t7 t13 n8 (fun b => False) from Keep.upd (Keep.upd (Keep.trans (Keep.refl t7 n8 _) hk_P1 (by omega) (fun d _ h => h.elim)) hh12 (by first | exact .inl (by omega) | (right; first | exact rfl | (show _ ∨ _; omega) | omega))) hh14 (by first | exact .inl (by omega) | (right; first | exact rfl | (show _ ∨ _; omega) | omega)))) z hz hz2))) (Nat.le_refl _) (fun _ h => h.elim) (show _ ≤ nv by omega)
 have hg1 := hgs0.keep ((show Keep t7 tv n8 (fun _ => False) from fun z hz hz2 => (hkB z (by omega) hz2).trans (((show Keep t7 t13 n8 (fun b => False) from Keep.upd (Keep.upd (Keep.trans (Keep.refl t7 n8 _) hk_P1 (by omega) (fun d _ h => h.elim)) hh12 (by first | exact .inl (by omega) | (right; first | exact rfl | (show _ ∨ _; omega) | omega))) hh14 (by first | exact .inl (by omega) | (right; first | exact rfl | (show _ ∨ _; omega) | omega)))) z hz hz2))) (Nat.le_refl _) (fun _ h => h.elim) (Nat.le_refl _)
 have hf1 := hfl0.keep ((show Keep t7 tv n8 (fun _ => False) from fun z hz hz2 => (hkB z (by omega) hz2).trans (((show Keep t7 t13 n8 (fun b => False) from Keep.upd (Keep.upd (Keep.trans (Keep.refl t7 n8 _) hk_P1 (by omega) (fun d _ h => h.elim)) hh12 (by first | exact .inl (by omega) | (right; first | exact rfl | (show _ ∨ _; omega) | omega))) hh14 (by first | exact .inl (by omega) | (right; first | exact rfl | (show _ ∨ _; omega) | omega)))) z hz hz2))) (Nat.le_refl _) (fun _ h => h.elim) (Nat.le_refl _)
 have hL1 := (hL.keep hkv hb (fun _ _ h => h)).up (show bd ≤ n6 by omega)
 refine k_reg (m1 (z1 q9) (r_call (w_callF (evs_cons eZ evs_nil)) rfl (WF.mono (ports_ok hS1 hL1 (by omega) ht0 (by omega)) ?_)))
 rintro _ t24 n25 ⟨P2, rfl, hP2a, hP2b, hrP2, hn_P2, hk_P2⟩
 refine m1 ds (r_nil (k_seq (k_seq (k_reg (rO (o_mov ev_c) (rO (o_mov ev_c) (r_nil (k_block (k_loop (fun mm Tw tw nw => ∃ (k n LB : Nat) (cs1 : List Chg) (sv lv : AV) (now : Int) (v was pp : List (List Nat)) (l : List Chg), (Tw.get 1 = some sv ∧ Tw.get 2 = some (.int .i64 h) ∧ Tw.get 3 = some (.ptr nx 0) ∧ Tw.get 6 = some (.ptr (nx + 1) 0) ∧ Tw.get 9 = some (.ptr R 0) ∧ Tw.get 10 = some (.ptr n10 0) ∧ Tw.get 13 = some (.slice P2 0 ts.length ts.length 1 false) ∧ Tw.get 14 = some (.int .i64 now) ∧ Tw.get 15 = some (.int .i64 ((n : Nat) : Int))) ∧ RunL ns ts gs (flp ns ns.length) h k now cs1 v was pp l fin ∧ n + k ≤ 16383 ∧ (RowC tw bd sv cs1 ∧ (∀ c ∈ cs1, c ∈ cs) ∧ SR tw nw n6 R V WA vn vt ((ts.length : Nat) : Int) gsv flv lav ns.length v was ∧ NR tw n6 vn vt ns ts ∧ IL tw R n8 V gsv gs ∧ IL tw R n8 V flv (flp ns ns.length) ∧ VI ns v ∧ WV (flp ns ns.length) was ∧ hv tw n10 = some (.row [v1_, v2_, (.slice P1 0 ts.length ts.length 1 false), lv] true) ∧ OY tw nw P2 LB lv l ∧ hv tw P2 = some (.row (strs pp) true) ∧ pp.length = ts.length ∧ hv tw nx = some (.row [vn, vt, (.int .i64 ((ts.length : Nat) : Int))] true) ∧ hv tw (nx + 1) = some (.row [.nslice, .nslice, .nslice, .nslice] true) ∧ hv tw P1 = some (.row (strs (insV v1 ts)) true)) ∧ nx ≤ nw ∧ P2 < nw ∧ Keep t tw nx (fun _ => False) ∧ mm = k) (fun mm Tw tw nw hI => ?_) (K) ⟨K, 0, P2, cs, cv, .nslice, 0, v1, wasL ns v1 (flp ns ns.length), insV v1 ts, [], ⟨(z2 (z4 q1)), (z2 (z4 q2)), (z2 (z4 q3)), (z2 (z4 q6)), (z2 (z4 q9)), (z2 (z4 q10)), (z2 ds), (z1 ds), ds⟩, hrl, by omega, ⟨hC.keep (show Keep t t24 bd (fun _ => False) from fun d hd hw => (Keep.trans (hkv) hk_P2 (by omega) (fun d _ h => h)) d (by omega) hw) (Nat.le_refl _), fun _ h => h, hS1.keep (show Keep tv t24 nv (fun b => False) from Keep.trans (Keep.refl tv nv _) hk_P2 (by omega) (fun d _ h => h.elim)) (Nat.le_refl _) (fun _ h => h.elim) (by omega), hL1.keep (show Keep tv t24 nv (fun b => False) from Keep.trans (Keep.refl tv nv _) hk_P2 (by omega) (fun d _ h => h.elim)) (by omega) (fun _ _ h => h), hg1.keep (show Keep tv t24 nv (fun b => False) from Keep.trans (Keep.refl tv nv _) hk_P2 (by omega) (fun d _ h => h.elim)) (by omega) (fun _ h => h.elim) (by omega), hf1.keep (show Keep tv t24 nv (fun b => False) from Keep.trans (Keep.refl tv nv _) hk_P2 (by omega) (fun d _ h => h.elim)) (by omega) (fun _ h => h.elim) (by omega), hVI0, hWV0, (Keep.look hk_P2 (by omega) id hW), .nil (by omega), hrP2, by rw [insV_len], (Keep.look hk_P2 (by omega) id hb0), (Keep.look hk_P2 (by omega) id hb6), (Keep.look hk_P2 (by omega) id hbP1)⟩, by omega, by omega, Keep.trans (hkv) hk_P2 (by omega) (fun d _ h => h), rfl⟩)))))))))
 obtain ⟨k, n, LB, cs1, sv, lv, now, v, was, pp, l, ⟨qw1, qw2, qw3, qw6, qw9, qw10, qw13, qw14, qw15⟩, hrw, hnk, ⟨hCsw, hsubw, hSw, hLw, hgw, hfw, hVIw, hWVw, hWw, hOw, hPw, hplw, hb0w, hb6w, hP1w⟩, hnw, hP2w, hkw, hmw⟩ := hI
 have hsw := hSw.hs; have how := hOw.lt; have how2 := hOw.ge; have hvlw := hVIw.len; have hnw_ := hSw.hn
 refine k_seq (k_seq (k_reg (m1 qw14 (m1 (z1 qw2) (rO (o_leq (eV (z1 ds)) eZ) (r_nil ?_))))))
 refine k_in eZ (fun hc26 => ?_) (fun hc26 => ?_)
 · refine k_skip (k_seq (k_block (k_seq (k_seq ?_))))
   obtain ⟨hx_, -⟩ | ⟨k', m, csa, va, v2, was2, hkk, hnh, habs, hset, hrn⟩ := hrw.cases_
   · exfalso; omega
   refine k_reg (m1 (z1 (z2 qw15)) (rO (o_eql eZ ev_c) (r_nil ?_)))
   refine k_if eZ (fun hc27 => ?_) (fun hc27 => ?_)
   · refine k_seq (k_reg (rO (o_build fill_nil) (r_heap (o_store (n := 4) (eV (z2 (z4 qw6))) eZ hb6w rfl rfl (leb rfl)) rfl (fun t28 (hh29 : hv t28 = upd (hv tw) (nx + 1) (some (.row [.nslice, .nslice, .nslice, .nslice] true))) => rO (o_mov ev_c) (r_nil (k_ret ?_))))))
     exfalso; omega
   refine k_skip (k_seq (k_block (k_loop (fun mm Tz tz nz => Tz.get 1 = some sv ∧ Tz.get 2 = some (.int .i64 h) ∧ Tz.get 3 = some (.ptr nx 0) ∧ Tz.get 6 = some (.ptr (nx + 1) 0) ∧ Tz.get 9 = some (.ptr R 0) ∧ Tz.get 10 = some (.ptr n10 0) ∧ Tz.get 13 = some (.slice P2 0 ts.length ts.length 1 false) ∧ Tz.get 14 = some (.int .i64 now) ∧ Tz.get 15 = some (.int .i64 ((n : Nat) : Int)) ∧ tw = tz ∧ nw = nz) (fun mm Tzz30 tz nz hI => ?_) 0 ⟨(z1 (z4 qw1)), (z1 (z4 qw2)), (z1 (z4 qw3)), (z1 (z4 qw6)), (z1 (z4 qw9)), (z1 (z4 qw10)), (z1 (z4 qw13)), (z1 (z4 qw14)), (z1 (z4 qw15)), rfl, rfl⟩)))
   obtain ⟨qzz30_1, qzz30_2, qzz30_3, qzz30_6, qzz30_9, qzz30_10, qzz30_13, qzz30_14, qzz30_15, rfl, rfl⟩ := hI
   refine k_seq (k_seq (k_reg (m1 qzz30_9 (rO (o_nilck eZ) (rO (o_faddr (off := 9) eZ) (rO (o_load eZ hSw.hR rfl) (rO (o_len_nslice eZ) (rO (dec_f (o_gtr eZ ev_c) (by simp)) (m1 ds (r_off (wN ds) (r_off (wN (z1 ds)) (r_off (wN (z2 ds)) (r_off (wN (z1 (z2 ds))) (r_off (wN (z4 ds)) (r_off (wN (z1 (z4 ds))) (r_off (wN (z2 (z4 ds))) (r_off (wN (z1 (z2 (z4 ds)))) (r_off (wN (z8 ds)) (rO (o_pick_f (eV (z1 (z8 ds))) ev_c) (r_nil (k_cond_f eZ (k_exit (exK_same (k_seq (k_block (k_loop (fun mm Ty ty ny => ∃ (csb : List Chg) (svb : AV) (vb : List (List Nat)), (Ty.get 1 = some svb ∧ Ty.get 2 = some (.int .i64 h) ∧ Ty.get 3 = some (.ptr nx 0) ∧ Ty.get 6 = some (.ptr (nx + 1) 0) ∧ Ty.get 9 = some (.ptr R 0) ∧ Ty.get 10 = some (.ptr n10 0) ∧ Ty.get 13 = some (.slice P2 0 ts.length ts.length 1 false) ∧ Ty.get 14 = some (.int .i64 now) ∧ Ty.get 15 = some (.int .i64 ((n : Nat) : Int))) ∧ absL ts now csb vb = (va, csa) ∧ (RowC ty bd svb csb ∧ (∀ c ∈ csb, c ∈ cs) ∧ SR ty ny n6 R V WA vn vt ((ts.length : Nat) : Int) gsv flv lav ns.length vb was ∧ NR ty n6 vn vt ns ts ∧ IL ty R n8 V gsv gs ∧ IL ty R n8 V flv (flp ns ns.length) ∧ VI ns vb ∧ WV (flp ns ns.length) was ∧ hv ty n10 = some (.row [v1_, v2_, (.slice P1 0 ts.length ts.length 1 false), lv] true) ∧ OY ty ny P2 LB lv l ∧ hv ty P2 = some (.row (strs pp) true) ∧ pp.length = ts.length ∧ hv ty nx = some (.row [vn, vt, (.int .i64 ((ts.length : Nat) : Int))] true) ∧ hv ty (nx + 1) = some (.row [.nslice, .nslice, .nslice, .nslice] true) ∧ hv ty P1 = some (.row (strs (insV v1 ts)) true)) ∧ nx ≤ ny ∧ P2 < ny ∧ Keep t ty nx (fun _ => False) ∧ mm = csb.length) (fun mm Ty ty ny hI => ?_) (cs1.length) ⟨cs1, sv, v, ⟨(z1 (z16 qzz30_1)), (z1 (z16 qzz30_2)), (z1 (z16 qzz30_3)), (z1 (z16 qzz30_6)), (z1 (z16 qzz30_9)), (z1 (z16 qzz30_10)), (z1 (z16 qzz30_13)), (z1 (z16 qzz30_14)), (z1 (z16 qzz30_15))⟩, habs, ⟨hCsw.keep (show Keep _ _ bd (fun _ => False) from fun d hd hw => (show Keep tw tw nw (fun b => False) from Keep.refl tw nw _) d (by omega) hw) (Nat.le_refl _), hsubw, hSw.keep (show Keep tw tw nw (fun b => False) from Keep.refl tw nw _) (Nat.le_refl _) (fun _ h => h.elim) (by omega), hLw.keep (show Keep tw tw nw (fun b => False) from Keep.refl tw nw _) (by omega) (fun _ _ h => h), hgw.keep (show Keep tw tw nw (fun b => False) from Keep.refl tw nw _) (by omega) (fun _ h => h.elim) (by omega), hfw.keep (show Keep tw tw nw (fun b => False) from Keep.refl tw nw _) (by omega) (fun _ h => h.elim) (by omega), hVIw, hWVw, hWw, hOw.keep (show Keep tw tw nw (fun b => False) from Keep.refl tw nw _) (Nat.le_refl _) (fun h => h.elim) (by omega), hPw, hplw, hb0w, hb6w, hP1w⟩, by omega, by omega, hkw, rfl⟩))))))))))))))))))))))))))
   obtain ⟨csb, svb, vb, ⟨qy1, qy2, qy3, qy6, qy9, qy10, qy13, qy14, qy15⟩, habsy, ⟨hCsy, hsuby, hSy, hLy, hgy, hfy, hVIy, hWVy, hWy, hOy, hPy, hply, hb0y, hb6y, hP1y⟩, hny, hP2y, hky, hmy⟩ := hI
   have hsy := hSy.hs; have hoy := hOy.lt; have hoy2 := hOy.ge; have hvly := hVIy.len; have hny_ := hSy.hn
   refine k_seq (k_seq ?_)
   refine k_cut (fun Tq tq nq => ∃ bb : Bool, ty = tq ∧ ny = nq ∧ (bb = true → ∃ c cs_, csb = c :: cs_ ∧ c.at_ = now) ∧ (bb = false → absL ts now csb vb = (vb, csb)) ∧ Tq.get 108 = some (.bool bb) ∧ Tq.get 1 = some svb ∧ Tq.get 2 = some (.int .i64 h) ∧ Tq.get 3 = some (.ptr nx 0) ∧ Tq.get 6 = some (.ptr (nx + 1) 0) ∧ Tq.get 9 = some (.ptr R 0) ∧ Tq.get 10 = some (.ptr n10 0) ∧ Tq.get 13 = some (.slice P2 0 ts.length ts.length 1 false) ∧ Tq.get 14 = some (.int .i64 now) ∧ Tq.get 15 = some (.int .i64 ((n : Nat) : Int))) ?_ ?_
   · rcases csb with _ | ⟨c, csb⟩
     · refine k_reg (m1 qy1 (rO (o_len_C hCsy eZ) (rO (dec_f (o_gtr eZ ev_c) (by simp)) (m1 ds (r_off (wN ds) (r_off (wN (z1 ds)) (r_off (wN (z2 ds)) (r_off (wN (z1 (z2 ds))) (r_off (wN (z4 ds)) (r_off (wN (z1 (z4 ds))) (rO (o_pick_f (eV (z2 (z4 ds))) ev_c) (r_nil ?_))))))))))))
       exact ⟨_, rfl, rfl, fun h => (by cases h), fun _ => absL_nil, ds, (z1 (z2 (z8 qy1))), (z1 (z2 (z8 qy2))), (z1 (z2 (z8 qy3))), (z1 (z2 (z8 qy6))), (z1 (z2 (z8 qy9))), (z1 (z2 (z8 qy10))), (z1 (z2 (z8 qy13))), (z1 (z2 (z8 qy14))), (z1 (z2 (z8 qy15)))⟩
     obtain ⟨dC, oC, cC, exC, wrC, rC, hCe, hCd, hCr, hCg, hCt⟩ := hCsy.cons
     refine k_reg (m1 qy1 (rO (o_len_C hCsy eZ) (rO (dec_t (o_gtr eZ ev_c) (by simp <;> omega)) (m1 ds (r_op (o_mov (eV (z4 qy1))) (want_on ds) (r_op (o_iaddrE (i := 0) eZ hCe ev_c (by omega)) (want_on (z1 ds)) (r_op (o_faddr (off := 0) eZ) (want_on (z2 ds)) (r_op (o_load eZ hCr (hCg 0 _ rfl)) (want_on (z1 (z2 ds))) (r_op (o_mov (eV (z8 qy14))) (want_on (z4 ds)) (r_op (o_eql (eV (z1 ds)) eZ) (want_on (z1 (z4 ds))) (rO (o_pick_t (eV (z2 (z4 ds))) eZ) (r_nil ?_))))))))))))
     exact ⟨_, rfl, rfl, fun h => ⟨c, csb, rfl, (by simpa using h)⟩, fun h => absL_no (by simpa using h), ds, (z1 (z2 (z8 qy1))), (z1 (z2 (z8 qy2))), (z1 (z2 (z8 qy3))), (z1 (z2 (z8 qy6))), (z1 (z2 (z8 qy9))), (z1 (z2 (z8 qy10))), (z1 (z2 (z8 qy13))), (z1 (z2 (z8 qy14))), (z1 (z2 (z8 qy15)))⟩
   rintro Tq tq nq ⟨(_ | _), rfl, rfl, hb1, hb2, q108, qq1, qq2, qq3, qq6, qq9, qq10, qq13, qq14, qq15⟩
   · refine k_cond_f (eV q108) (k_exit (exK_same (k_seq ?_)))
     have hends : va = vb ∧ csa = csb := by
       rw [hb2 rfl] at habsy
       cases habsy; exact ⟨rfl, rfl⟩
     obtain ⟨rfl, rfl⟩ := hends
     refine k_reg (m1 qq9 (r_call (w_callF (evs_cons eZ evs_nil)) rfl (WF.mono (settle_ok (m0 := m) (hSy.keep (show Keep ty ty ny (fun b => False) from Keep.refl ty ny _) (Nat.le_refl _) (fun _ h => h.elim) (show _ ≤ ny by omega)) (hLy.keep (show Keep ty ty ny (fun b => False) from Keep.refl ty ny _) (by omega) (fun _ _ h => h)) (hgy.keep (show Keep ty ty ny (fun b => False) from Keep.refl ty ny _) (by omega) (fun _ h => h.elim) (by omega)) (hfy.keep (show Keep ty ty ny (fun b => False) from Keep.refl ty ny _) (by omega) (fun _ h => h.elim) (by omega)) hGsOK flp_OK (by omega) (by omega) hVIy hWVy hset (by omega)) ?_)))
     rintro _ t31 n32 ⟨rfl, hS2, hVI2, hWV2, hn_s, hk_s⟩
     have hs2 := hS2.hs
     have hvl2 := hVI2.len
     have hn2_ := hS2.hn
     have hL2 := hLy.keep ((show Keep ty t31 ny (fun b => b = V ∨ b = WA) from Keep.trans (Keep.refl ty ny _) hk_s (by omega) ((fun _ _ h => h)))) (by omega) (fun b hb_ h_ => by have e_ : b = V ∨ b = WA := h_; omega)
     have hg2 := hgy.keep ((show Keep ty t31 ny (fun b => b = V ∨ b = WA) from Keep.trans (Keep.refl ty ny _) hk_s (by omega) ((fun _ _ h => h)))) (by omega) (fun b h_ => by have e_ : b = V ∨ b = WA := h_; omega) (Nat.le_refl _)
     have hf2 := hfy.keep ((show Keep ty t31 ny (fun b => b = V ∨ b = WA) from Keep.trans (Keep.refl ty ny _) hk_s (by omega) ((fun _ _ h => h)))) (by omega) (fun b h_ => by have e_ : b = V ∨ b = WA := h_; omega) (Nat.le_refl _)
     have hO2 := hOy.keep ((show Keep ty t31 ny (fun b => b = V ∨ b = WA) from Keep.trans (Keep.refl ty ny _) hk_s (by omega) ((fun _ _ h => h)))) (Nat.le_refl _) (fun h_ => by have e_ : LB = V ∨ LB = WA := h_; omega) (show _ ≤ n32 by omega)
     have hCs2 := hCsy.keep (show Keep _ _ bd (fun _ => False) from fun d hd hw => ((show Keep ty t31 ny (fun b => b = V ∨ b = WA) from Keep.trans (Keep.refl ty ny _) hk_s (by omega) ((fun _ _ h => h)))) d (by omega) (fun h_ => by have e_ : d = V ∨ d = WA := h_; omega)) (Nat.le_refl _)
     have hW2 := (Keep.look hk_s (by omega) (fun h_ => absurd (show n10 = V ∨ n10 = WA from h_) (by omega)) hWy)
     have hP2 := (Keep.look hk_s (by omega) (fun h_ => absurd (show P2 = V ∨ P2 = WA from h_) (by omega)) hPy)
     have hb02 := (Keep.look hk_s (by omega) (fun h_ => absurd (show nx = V ∨ nx = WA from h_) (by omega)) hb0y)
     have hb62 := (Keep.look hk_s (by omega) (fun h_ => absurd (show (nx + 1) = V ∨ (nx + 1) = WA from h_) (by omega)) hb6y)
     have hP12 := (Keep.look hk_s (by omega) (fun h_ => absurd (show P1 = V ∨ P1 = WA from h_) (by omega)) hP1y)
     refine r_nil (k_seq (k_seq (k_reg (m1 (z2 qq9) (r_call (w_callF (evs_cons eZ evs_nil)) rfl (WF.mono (ports_ok (hS2.keep (show Keep t31 t31 n32 (fun b => False) from Keep.refl t31 n32 _) (Nat.le_refl _) (fun _ h => h.elim) (show _ ≤ n32 by omega)) (hL2.keep (show Keep t31 t31 n32 (fun b => False) from Keep.refl t31 n32 _) (by omega) (fun _ _ h => h)) (by omega) ht0 (by omega)) ?_))))))
     rintro _ t33 n34 ⟨P3, rfl, hP3a, hP3b, hrP3, hn_P3, hk_P3⟩
     refine rO (o_len_slice eZ) (rO (o_mov ev_c) (r_nil (k_block ?_)))
     refine k_loop (fun mm Tz tz nz => ∃ (j LB2 : Nat) (lv2 : AV), j ≤ ts.length ∧ (Tz.get 1 = some svb ∧ Tz.get 2 = some (.int .i64 h) ∧ Tz.get 3 = some (.ptr nx 0) ∧ Tz.get 6 = some (.ptr (nx + 1) 0) ∧ Tz.get 9 = some (.ptr R 0) ∧ Tz.get 10 = some (.ptr n10 0) ∧ Tz.get 13 = some (.slice P2 0 ts.length ts.length 1 false) ∧ Tz.get 14 = some (.int .i64 now) ∧ Tz.get 15 = some (.int .i64 ((n : Nat) : Int)) ∧ Tz.get 131 = some (.slice P3 0 ts.length ts.length 1 false) ∧ Tz.get 132 = some (.int .i64 ((ts.length : Nat) : Int)) ∧ Tz.get 133 = some (.int .i64 ((j : Nat) : Int))) ∧ (RowC tz bd svb csa ∧ (∀ c ∈ csa, c ∈ cs) ∧ SR tz nz n6 R V WA vn vt ((ts.length : Nat) : Int) gsv flv lav ns.length v2 was2 ∧ NR tz n6 vn vt ns ts ∧ IL tz R n8 V gsv gs ∧ IL tz R n8 V flv (flp ns ns.length) ∧ VI ns v2 ∧ WV (flp ns ns.length) was2 ∧ hv tz n10 = some (.row [v1_, v2_, (.slice P1 0 ts.length ts.length 1 false), lv2] true) ∧ OY tz nz P2 LB2 lv2 (l ++ diffs now pp (insV v2 ts) j) ∧ hv tz P2 = some (.row (strs (mixL (insV v2 ts) pp j)) true) ∧ (mixL (insV v2 ts) pp j).length = ts.length ∧ hv tz nx = some (.row [vn, vt, (.int .i64 ((ts.length : Nat) : Int))] true) ∧ hv tz (nx + 1) = some (.row [.nslice, .nslice, .nslice, .nslice] true) ∧ hv tz P1 = some (.row (strs (insV v1 ts)) true)) ∧ hv tz P3 = some (.row (strs (insV v2 ts)) true) ∧ (LB2 = P2 ∨ LB2 = LB ∨ P3 < LB2) ∧ nx ≤ nz ∧ P3 < nz ∧ Keep t tz nx (fun _ => False) ∧ mm + j = ts.length) (fun mm Tz tz nz hI => ?_) (ts.length) ⟨0, LB, lv, by omega, ⟨(z2 (z4 qq1)), (z2 (z4 qq2)), (z2 (z4 qq3)), (z2 (z4 qq6)), (z2 (z4 qq9)), (z2 (z4 qq10)), (z2 (z4 qq13)), (z2 (z4 qq14)), (z2 (z4 qq15)), (z2 ds), (z1 ds), ds⟩, ⟨hCs2.keep (show Keep _ _ bd (fun _ => False) from fun d hd hw => ((show Keep t31 t33 n32 (fun b => False) from Keep.trans (Keep.refl t31 n32 _) hk_P3 (by omega) (fun d _ h => h.elim))) d (by omega) hw) (Nat.le_refl _), hsuby, hS2.keep (show Keep t31 t33 n32 (fun b => False) from Keep.trans (Keep.refl t31 n32 _) hk_P3 (by omega) (fun d _ h => h.elim)) (Nat.le_refl _) (fun _ h => h.elim) (by omega), hL2.keep (show Keep t31 t33 n32 (fun b => False) from Keep.trans (Keep.refl t31 n32 _) hk_P3 (by omega) (fun d _ h => h.elim)) (by omega) (fun _ _ h => h), hg2.keep (show Keep t31 t33 n32 (fun b => False) from Keep.trans (Keep.refl t31 n32 _) hk_P3 (by omega) (fun d _ h => h.elim)) (by omega) (fun _ h => h.elim) (by omega), hf2.keep (show Keep t31 t33 n32 (fun b => False) from Keep.trans (Keep.refl t31 n32 _) hk_P3 (by omega) (fun d _ h => h.elim)) (by omega) (fun _ h => h.elim) (by omega), hVI2, hWV2, (Keep.look hk_P3 (by omega) id hW2), by rw [show l ++ diffs now pp (insV v2 ts) 0 = l from by simp [diffs]]; exact hO2.keep (show Keep t31 t33 n32 (fun b => False) from Keep.trans (Keep.refl t31 n32 _) hk_P3 (by omega) (fun d _ h => h.elim)) (Nat.le_refl _) (fun h => h.elim) (by omega), by rw [mix_zero]; exact (Keep.look hk_P3 (by omega) id hP2), by rw [mix_zero]; exact hply, (Keep.look hk_P3 (by omega) id hb02), (Keep.look hk_P3 (by omega) id hb62), (Keep.look hk_P3 (by omega) id hP12)⟩, hrP3, by omega, by omega, by omega, Keep.trans (Keep.trans (hky) hk_s (by omega) ((fun b hb h_ => absurd (show b = V ∨ b = WA from h_) (by omega)))) hk_P3 (by omega) (fun d _ h => h), by omega⟩
     obtain ⟨j, LB2, lv2, hj, ⟨qz1, qz2, qz3, qz6, qz9, qz10, qz13, qz14, qz15, qz131, qz132, qz133⟩, ⟨hCsz, hsubz, hSz, hLz, hgz, hfz, hVIz, hWVz, hWz, hOz, hPz, hplz, hb0z, hb6z, hP1z⟩, hP3z, hLB2, hnz, hP3n, hkz, hmz⟩ := hI
     have hsz := hSz.hs; have hoz := hOz.lt; have hoz2_ := hOz.ge; have hql : (insV v2 ts).length = ts.length := insV_len _ _
     refine k_seq (k_reg (rO (o_lss (eV qz133) (eV qz132)) (r_nil (k_seq ?_))))
     refine k_if eZ (fun hc35 => ?_) (fun hc35 => ?_)
     · refine k_skip (k_seq (k_block (k_seq ?_)))
       have hpl0 : pp.length = ts.length := hply
       have hqp : (insV v2 ts).length = pp.length := by omega
       have hjl : j < pp.length := by omega
       have hmxl := mix_len (k := j) hqp
       have hmj := mix_at hqp hjl
       refine k_reg (m1 (z1 qz133) (rO (o_iaddr (i := j) (eV (z2 qz131)) (eV (z2 qz133)) (by omega)) ?_))
       refine rO (o_load eZ hP3z (by rw [show 0 + j * 1 = j by omega]; exact strs_get (gv_at (by omega)))) ?_
       refine m1 (z2 ds) (m1 (z1 ds) (r_nil (k_seq (k_reg (m1 ds (m1 (z1 (z2 (z4 qz13))) (m1 (z1 (z2 ds)) (rO (o_iaddr (i := j) (eV (z1 ds)) eZ (by omega)) ?_))))))))
       refine rO (o_load eZ hPz (by rw [show 0 + j * 1 = j by omega]; exact strs_get (s := gv pp j) (by rw [← hmj]; exact gv_at (by omega)))) ?_
       refine rO (o_str_neq (eV (z4 ds)) eZ) (r_nil ?_)
       refine k_in eZ (fun hc36 => ?_) (fun hc36 => ?_)
       · refine k_seq ?_
         have hne : ¬ gv (insV v2 ts) j = gv pp j := by assumption
         refine k_reg (rO (o_faddr (off := 3) (eV (z4 (z8 qz10)))) (rO (o_load eZ hWz rfl) (m1 (z2 (z4 (z8 qz14))) (m1 (z2 (z8 ds)) (m1 (z2 (z8 ds)) (rO (o_build (fill_cons (eV (z2 ds)) rfl rfl (fill_cons (eV (z1 ds)) rfl rfl (fill_cons eZ rfl rfl fill_nil)))) (r_heap (o_bslice (fill_cons eZ rfl rfl fill_nil)) rfl (fun t37 (hh38 : hv t37 = upd (hv tz) nz (some (.row [(.int .i64 now), (.int .i64 ((j : Nat) : Int)), (.str (gv (insV v2 ts) j))] true))) => ?_))))))))
         have hll : (l ++ diffs now pp (insV v2 ts) j).length ≤ 20000 := by have h1_ := hrn.few; have h2_ := diffs_mono now pp (insV v2 ts) (show j ≤ ts.length by omega); rw [List.length_append] at h1_ ⊢; omega
         refine r_heap (o_appE (eV (z1 (z4 ds))) eZ ((hOz.keep (nx' := (nz + 1)) (show Keep tz t37 nz (fun b => False) from Keep.upd (Keep.refl tz nz _) hh38 (by first | exact .inl (by omega) | (right; first | exact rfl | (show _ ∨ _; omega) | omega))) (Nat.le_refl _) (fun h => h.elim) (by omega)).app (c := ⟨now, ((j : Nat) : Int), gv (insV v2 ts) j⟩) (by omega) (lS hh38) (by omega))) rfl (fun ta ⟨hOz2, hka⟩ => ?_)
         refine rO (o_faddr (off := 3) (eV (z4 (z16 qz10)))) (r_heap (o_store (n := 1) eZ (eV (z1 ds)) (Keep.look hka (by omega) (fun h_ => absurd (show n10 = LB2 ∧ P2 < LB2 from h_) (by omega)) (lN hh38 hWz)) rfl rfl (leb rfl)) rfl (fun t39 (hh40 : hv t39 = upd (hv ta) n10 (some (.row [v1_, v2_, (.slice P1 0 ts.length ts.length 1 false), (.slice (nz + 1) 0 ((l ++ diffs now pp (insV v2 ts) j).length + 1) ((l ++ diffs now pp (insV v2 ts) j).length + 1) 3 false)] true))) => r_nil (k_reg (m1 (z2 (z4 (z16 qz13))) (m1 (z2 (z16 ds)) (m1 (z2 (z16 ds)) (rO (o_iaddr (i := j) (eV (z2 ds)) (eV (z1 ds)) (by omega)) (r_heap (o_storeS (l := (mixL (insV v2 ts) pp j)) (o := 0 + j * 1) eZ (eV (z1 ds)) (lN hh40 (Keep.look hka (by omega) (fun h_ => absurd (show P2 = LB2 ∧ P2 < LB2 from h_) (by omega)) (lN hh38 hPz))) (by omega)) rfl (fun tp_ hp_ => r_nil (k_reg (rO (o_addN (a := j) (b := 1) (eV (z1 (z2 (z8 (z16 qz133))))) ev_c (by omega)) (m1 ds (r_nil ?_)))))))))))))
         have hkA : Keep tz tp_ nz (fun z => z = n10 ∨ z = P2 ∨ (z = LB2 ∧ P2 < LB2)) := Keep.upd (Keep.upd (Keep.trans (Keep.upd (Keep.refl tz nz _) hh38 (by first | exact .inl (by omega) | (right; first | exact rfl | (show _ ∨ _; omega) | omega))) hka (by omega) ((fun _ _ h => .inr (.inr h)))) hh40 (by first | exact .inl (by omega) | (right; first | exact rfl | (show _ ∨ _; omega) | omega))) hp_ (by first | exact .inl (by omega) | (right; first | exact rfl | (show _ ∨ _; omega) | omega))
         have hkO : Keep ta tp_ ((nz + 1) + 1) (fun z => z = n10 ∨ z = P2) := Keep.upd (Keep.upd (Keep.refl ta ((nz + 1) + 1) _) hh40 (by first | exact .inl (by omega) | (right; first | exact rfl | (show _ ∨ _; omega) | omega))) hp_ (by first | exact .inl (by omega) | (right; first | exact rfl | (show _ ∨ _; omega) | omega))
         exact ⟨ts.length - (j + 1), by omega, j + 1, (nz + 1), _, by omega, ⟨(z1 (z4 (z8 (z16 qz1)))), (z1 (z4 (z8 (z16 qz2)))), (z1 (z4 (z8 (z16 qz3)))), (z1 (z4 (z8 (z16 qz6)))), (z1 (z4 (z8 (z16 qz9)))), (z1 (z4 (z8 (z16 qz10)))), (z1 (z4 (z8 (z16 qz13)))), (z1 (z4 (z8 (z16 qz14)))), (z1 (z4 (z8 (z16 qz15)))), (z1 (z4 (z8 (z16 qz131)))), (z1 (z4 (z8 (z16 qz132)))), ds⟩, ⟨hCsz.keep (show Keep _ _ bd (fun _ => False) from fun d hd hw => hkA d (by omega) (fun h_ => by have e_ : d = n10 ∨ d = P2 ∨ (d = LB2 ∧ P2 < LB2) := h_; omega)) (Nat.le_refl _), hsubz, hSz.keep hkA (Nat.le_refl _) (fun z h_ => by have e_ : z = n10 ∨ z = P2 ∨ (z = LB2 ∧ P2 < LB2) := h_; omega) (by omega), hLz.keep hkA (by omega) (fun z hz h_ => by have e_ : z = n10 ∨ z = P2 ∨ (z = LB2 ∧ P2 < LB2) := h_; omega), hgz.keep hkA (by omega) (fun z h_ => by have e_ : z = n10 ∨ z = P2 ∨ (z = LB2 ∧ P2 < LB2) := h_; omega) (by omega), hfz.keep hkA (by omega) (fun z h_ => by have e_ : z = n10 ∨ z = P2 ∨ (z = LB2 ∧ P2 < LB2) := h_; omega) (by omega), hVIz, hWVz, (lN hp_ (lS hh40)), by rw [diffs_succ, if_neg hne, ← List.append_assoc]; exact hOz2.keep hkO (Nat.le_refl _) (fun h_ => by have e_ : (nz + 1) = n10 ∨ (nz + 1) = P2 := h_; omega) (by omega), by rw [← mix_set hqp hjl]; have h_ := (lS hp_); rw [show 0 + j * 1 = j by omega] at h_; exact h_, by rw [mix_len hqp]; exact hpl0, (lN hp_ (lN hh40 (Keep.look hka (by omega) (fun h_ => absurd (show nx = LB2 ∧ P2 < LB2 from h_) (by omega)) (lN hh38 hb0z)))), (lN hp_ (lN hh40 (Keep.look hka (by omega) (fun h_ => absurd (show (nx + 1) = LB2 ∧ P2 < LB2 from h_) (by omega)) (lN hh38 hb6z)))), (lN hp_ (lN hh40 (Keep.look hka (by omega) (fun h_ => absurd (show P1 = LB2 ∧ P2 < LB2 from h_) (by omega)) (lN hh38 hP1z))))⟩, (lN hp_ (lN hh40 (Keep.look hka (by omega) (fun h_ => absurd (show P3 = LB2 ∧ P2 < LB2 from h_) (by omega)) (lN hh38 hP3z)))), by omega, by omega, by omega, kU (kU (Keep.trans (kU (hkz) hh38) hka (by omega) ((fun z hz h_ => absurd (show z = LB2 ∧ P2 < LB2 from h_) (by omega)))) hh40) hp_, by omega⟩
       refine k_skip ?_
       have heq : gv (insV v2 ts) j = gv pp j := by assumption
       refine k_reg (rO (o_addN (a := j) (b := 1) (eV (z4 (z8 qz133))) ev_c (by omega)) (m1 ds (r_nil ?_)))
       exact ⟨ts.length - (j + 1), by omega, j + 1, LB2, lv2, by omega, ⟨(z2 (z4 (z8 qz1))), (z2 (z4 (z8 qz2))), (z2 (z4 (z8 qz3))), (z2 (z4 (z8 qz6))), (z2 (z4 (z8 qz9))), (z2 (z4 (z8 qz10))), (z2 (z4 (z8 qz13))), (z2 (z4 (z8 qz14))), (z2 (z4 (z8 qz15))), (z2 (z4 (z8 qz131))), (z2 (z4 (z8 qz132))), ds⟩, ⟨hCsz.keep (show Keep _ _ bd (fun _ => False) from fun d hd hw => ((show Keep tz tz nz (fun b => False) from Keep.refl tz nz _)) d (by omega) hw) (Nat.le_refl _), hsubz, hSz.keep (show Keep tz tz nz (fun b => False) from Keep.refl tz nz _) (Nat.le_refl _) (fun _ h => h.elim) (by omega), hLz.keep (show Keep tz tz nz (fun b => False) from Keep.refl tz nz _) (by omega) (fun _ _ h => h), hgz.keep (show Keep tz tz nz (fun b => False) from Keep.refl tz nz _) (by omega) (fun _ h => h.elim) (by omega), hfz.keep (show Keep tz tz nz (fun b => False) from Keep.refl tz nz _) (by omega) (fun _ h => h.elim) (by omega), hVIz, hWVz, hWz, by rw [diffs_succ, if_pos heq, List.append_nil]; exact hOz.keep (show Keep tz tz nz (fun b => False) from Keep.refl tz nz _) (Nat.le_refl _) (fun h => h.elim) (by omega), by rw [mix_same hqp hjl heq]; exact hPz, by rw [mix_len hqp]; exact hpl0, hb0z, hb6z, hP1z⟩, hP3z, by omega, by omega, by omega, hkz, by omega⟩
     refine k_exit (exK_same (k_seq (k_seq ?_)))
     obtain rfl : j = ts.length := by omega
     have hpl0 : pp.length = ts.length := hply
     have hqp : (insV v2 ts).length = pp.length := by omega
     rw [mix_end hqp (by omega)] at hPz
     have hSf := hSz; have hLf := hLz; have hgf := hgz; have hff := hfz; have hOf := hOz; have hCsf := hCsz; have hsubb := hsubz
     refine k_reg (m1 (z1 qz9) (m1 (z2 qz14) (m1 (z1 (z2 qz2)) (r_call (w_callF (evs_cons (eV (z2 ds)) (evs_cons (eV (z1 ds)) (evs_cons eZ evs_nil)))) rfl (WF.mono (send0_ok (hSz.keep (show Keep tz tz nz (fun b => False) from Keep.refl tz nz _) (Nat.le_refl _) (fun _ h => h.elim) (show _ ≤ nz by omega))) ?_)))))
     rintro _ t41 n42 ⟨rfl, hn_n, hk_n⟩
     refine rO (o_not eZ) (r_nil (k_cond_f eZ (k_skip (k_seq (k_reg (m1 (z2 (z4 qz2)) (rO (o_add eZ ev_c (by omega) (by omega)) (m1 ds (r_nil (k_seq (k_seq (k_reg (m1 (z1 (z8 qz9)) (rO (o_nilck eZ) (rO (o_faddr (off := 9) eZ) (rO (o_load eZ (Keep.look hk_n (by omega) id hSz.hR) rfl) (rO (o_len_nslice eZ) (rO (dec_f (o_gtr eZ ev_c) (by simp)) (r_nil (k_cond_f eZ (k_skip (k_seq ?_))))))))))))))))))))))
     rcases hcsa : csa with _ | ⟨c, csb⟩
     · refine k_reg (m1 (z1 (z2 (z4 (z8 qz1)))) (rO (o_len_C hCsz eZ) ?_))
       refine rO (dec_f (o_gtr eZ ev_c) (by rw [hcsa]; simp)) ?_
       refine r_nil (k_cond_f eZ (k_skip ?_))
       have hkf := (show Keep tz t41 nz (fun b => False) from Keep.trans (Keep.refl tz nz _) hk_n (by omega) (fun d _ h => h.elim))
       have hnow : (h + 1) = nextT h csa := by rw [hcsa]; rfl
       refine k_reg (m1 (z2 (z16 qz15)) (rO (o_addN (a := n) (b := 1) eZ ev_c (by omega)) (m1 ds (r_nil ?_))))
       exact ⟨k', by omega, k', n + 1, LB2, csa, svb, lv2, nextT h csa, v2, was2, insV v2 ts, l ++ diffs now pp (insV v2 ts) ts.length, ⟨(z1 (z4 (z16 qz1))), (z1 (z4 (z16 qz2))), (z1 (z4 (z16 qz3))), (z1 (z4 (z16 qz6))), (z1 (z4 (z16 qz9))), (z1 (z4 (z16 qz10))), (z1 (z4 (z16 qz13))), ((z4 (z8 ds)).trans (by rw [hnow])), ds⟩, hrn, by omega, ⟨hCsf.keep (show Keep _ _ bd (fun _ => False) from fun d hd hw => hkf d (by omega) hw) (Nat.le_refl _), hsubb, hSf.keep hkf (Nat.le_refl _) (fun _ h => h.elim) (by omega), hLf.keep hkf (by omega) (fun _ _ h => h), hgf.keep hkf (by omega) (fun _ h => h.elim) (by omega), hff.keep hkf (by omega) (fun _ h => h.elim) (by omega), hVI2, hWV2, (Keep.look hk_n (by omega) id hWz), hOf.keep hkf (Nat.le_refl _) (fun h => h.elim) (by omega), (Keep.look hk_n (by omega) id hPz), by rw [insV_len], (Keep.look hk_n (by omega) id hb0z), (Keep.look hk_n (by omega) id hb6z), (Keep.look hk_n (by omega) id hP1z)⟩, by omega, by omega, Keep.trans (hkz) hk_n (by omega) (fun d _ h => h), rfl⟩
     rw [hcsa] at hCsz
     obtain ⟨dC2, oC2, cC2, exC2, wrC2, rC2, hCe2, hCd2, hCr2, hCg2, hCt2⟩ := hCsz.cons
     have hCz3 := hCsz
     refine k_reg (m1 (z1 (z2 (z4 (z8 qz1)))) (rO (o_len_C hCz3 eZ) (rO (dec_t (o_gtr eZ ev_c) (by simp <;> omega)) (r_nil (k_cond_t eZ (k_reg (m1 (z1 (z8 ds)) (m1 (z1 (z2 (z16 qz1))) (rO (o_iaddrE (i := 0) eZ hCe2 ev_c (by omega)) (rO (o_faddr (off := 0) eZ) (rO (o_load eZ (Keep.look hk_n (by omega) id hCr2) (hCg2 0 _ rfl)) (rO (o_minI (eV (z4 ds)) eZ) (m1 ds (r_nil ?_))))))))))))))
     have hkf := (show Keep tz t41 nz (fun b => False) from Keep.trans (Keep.refl tz nz _) hk_n (by omega) (fun d _ h => h.elim))
     have hnow : (min (h + 1) c.at_) = nextT h csa := by rw [hcsa]; rfl
     have hCsf2 := hCsf
     refine k_reg (m1 (z1 (z8 (z16 qz15))) (rO (o_addN (a := n) (b := 1) eZ ev_c (by omega)) (m1 ds (r_nil ?_))))
     exact ⟨k', by omega, k', n + 1, LB2, csa, svb, lv2, nextT h csa, v2, was2, insV v2 ts, l ++ diffs now pp (insV v2 ts) ts.length, ⟨(z4 (z8 (z16 qz1))), (z4 (z8 (z16 qz2))), (z4 (z8 (z16 qz3))), (z4 (z8 (z16 qz6))), (z4 (z8 (z16 qz9))), (z4 (z8 (z16 qz10))), (z4 (z8 (z16 qz13))), ((z1 (z2 ds)).trans (by rw [hnow])), ds⟩, hrn, by omega, ⟨hCsf.keep (show Keep _ _ bd (fun _ => False) from fun d hd hw => hkf d (by omega) hw) (Nat.le_refl _), hsubb, hSf.keep hkf (Nat.le_refl _) (fun _ h => h.elim) (by omega), hLf.keep hkf (by omega) (fun _ _ h => h), hgf.keep hkf (by omega) (fun _ h => h.elim) (by omega), hff.keep hkf (by omega) (fun _ h => h.elim) (by omega), hVI2, hWV2, (Keep.look hk_n (by omega) id hWz), hOf.keep hkf (Nat.le_refl _) (fun h => h.elim) (by omega), (Keep.look hk_n (by omega) id hPz), by rw [insV_len], (Keep.look hk_n (by omega) id hb0z), (Keep.look hk_n (by omega) id hb6z), (Keep.look hk_n (by omega) id hP1z)⟩, by omega, by omega, Keep.trans (hkz) hk_n (by omega) (fun d _ h => h), rfl⟩
   obtain ⟨c, csb, rfl, hcn_⟩ := hb1 rfl
   obtain ⟨dC, oC, cC, exC, wrC, rC, hCe, hCd, hCr, hCg, hCt⟩ := hCsy.cons
   refine k_cond_t (eV q108) (k_skip (k_block (k_seq ?_)))
   obtain ⟨-, hnr, hcv, kk, xx, hkt, hkx, hk2, hkw_⟩ := hSt.each c (hsuby c (by simp))
   have hkr := hL.nets kk (List.mem_of_getElem? hkt)
   have hnk_ : netK ts c = kk.toNat := by unfold netK; rw [List.getD_eq_getElem?_getD, hkt]; rfl
   obtain ⟨dT, oT, cT, exT, wrT, rT, hTe, hTd, hTr, hTg⟩ := RowI.at hLy.hT hkt
   have hVIn : VI ns (vb.set (netK ts c) c.val) := by rw [hnk_]; exact hVIy.put hkx hcv hkw_
   refine k_draw (eO 0 rfl (o_mov (eV qq9)) (eO 1 rfl (o_nilck eZ) (eO 2 rfl (o_faddr (off := 6) eZ) (eO 3 rfl (o_load eZ hSy.hR rfl) (eO 4 rfl (o_faddr (off := 1) (eV (z4 qq3))) (eO 5 rfl (o_load eZ hb0y rfl) (eO 6 rfl (o_mov (eV (z2 (z4 qq1)))) (eO 7 rfl (o_iaddrE (i := 0) eZ hCe ev_c (by omega)) (eO 8 rfl (o_faddr (off := 1) eZ) (eO 9 rfl (o_load eZ hCr (hCg 1 _ rfl)) (eO 10 rfl (o_iaddrE (i := c.net.toNat) (eV (z4 ds)) hTe (ev_cast eZ (by omega)) (by omega)) (eO 11 rfl (o_load eZ hTr hTg) (eO 12 rfl (o_mov (eV (z4 (z8 qq1)))) (eO 13 rfl (o_iaddrE (i := 0) eZ hCe ev_c (by omega)) (eO 14 rfl (o_faddr (off := 2) eZ) (eO 15 rfl (o_load eZ hCr (hCg 2 _ rfl)) (eO 16 rfl (o_iaddr (i := kk.toNat) (eV (z4 (z8 ds))) (ev_cast (eV (z4 ds)) (by omega)) (by omega)) ?_)))))))))))))))))
   refine d_heap (ix := 17) (pr := [16, 15, 0, 1, 2, 3, 4, 5, 6, 7, 8, 9, 10, 11, 12, 13, 14, 15]) (d := none) (g := none) (F' := []) (o := (.store 1 (.t 125) (.t 124))) (o_storeS (l := vb) (o := 0 + kk.toNat * 1) eZ (eV (z1 ds)) hSy.hV (by first | omega | (simp only [List.length_set]; omega))) rfl (by kernel_rfl) (by kernel_rfl) (by kernel_rfl) (by kernel_rfl) (fun ts_V hs_V => ⟨?_, ?_⟩)
   · exact all_nil_
   refine e_done (k_reg (m1 (z2 (z16 qq1)) (rO (o_cs1g eZ hCe) (m1 ds (r_nil ?_)))))
   have hk5 := (show Keep ty ts_V ny (fun b => b = V) from Keep.upd (Keep.refl ty ny _) hs_V (by first | exact .inl (by omega) | (right; first | exact rfl | (show _ ∨ _; omega) | omega)))
   have hvz : hv ts_V V = some (.row (strs (vb.set (netK ts c) c.val)) true) := by have h_ := (lS hs_V); rw [show 0 + kk.toNat * 1 = kk.toNat by omega, ← hnk_] at h_; exact h_
   exact ⟨csb.length, by rw [hmy]; simp, csb, _, vb.set (netK ts c) c.val, ⟨ds, (z1 (z4 (z16 qq2))), (z1 (z4 (z16 qq3))), (z1 (z4 (z16 qq6))), (z1 (z4 (z16 qq9))), (z1 (z4 (z16 qq10))), (z1 (z4 (z16 qq13))), (z1 (z4 (z16 qq14))), (z1 (z4 (z16 qq15)))⟩, (absL_yes hcn_).symm.trans habsy, ⟨hCt.keep (show Keep _ _ bd (fun _ => False) from fun d hd hw => hk5 d (by omega) (fun h_ => by have e_ : d = V := h_; omega)) (Nat.le_refl _), fun z hz => hsuby z (by simp [hz]), ⟨(lN hs_V hSy.hR), hvz, (lN hs_V hSy.hW), by omega, ⟨by rw [List.length_set]; exact hny_.1, hny_.2⟩⟩, hLy.keep hk5 (by omega) (fun b hb_ h_ => by have e_ : b = V := h_; omega), hgy.keep hk5 (by omega) (fun b h_ => .inl h_) (by omega), hfy.keep hk5 (by omega) (fun b h_ => .inl h_) (by omega), hVIn, hWVy, (lN hs_V hWy), hOy.keep hk5 (Nat.le_refl _) (fun h_ => by have e_ : LB = V := h_; omega) (by omega), (lN hs_V hPy), hply, (lN hs_V hb0y), (lN hs_V hb6y), (lN hs_V hP1y)⟩, by omega, by omega, kU (hky) hs_V, rfl⟩
 refine k_exit (exK_same (k_seq (k_reg (rO (o_loadA (n := 4) (eV (z1 (z2 qw10))) hWw (leb rfl) rfl) (r_heap (o_store (n := 4) (eV (z4 qw6)) eZ hb6w rfl (cell4 hca1 hca2 rfl hOw.cell) (leb rfl)) rfl (fun t43 (hh44 : hv t43 = upd (hv tw) (nx + 1) (some (.row [v1_, v2_, (.slice P1 0 ts.length ts.length 1 false), lv] true))) => rO (o_mov ev_c) (r_nil (k_ret ?_))))))))
 obtain ⟨hfin, rfl⟩ : h < now ∧ fin = l := by
   rcases hrw.cases_ with h_ | ⟨k', m, csa, va, v2, was2, -, hnh, -⟩
   · exact h_
   omega
 skip
 exact ⟨_, ans_two (res_cell (z2 (z4 qw6)) (lS hh44) (leb rfl) rfl (res_tmp ds res_nil)), v1_, v2_, lv, P1, LB, P2, gs, _, rfl, hpm, hord, hPhi, (by rw [← hv1]; exact (lN hh44 hP1w)), hOw.keep (show Keep tw t43 nw (fun b => b = (nx + 1)) from (show Keep tw t43 nw (fun b => b = (nx + 1)) from Keep.upd (Keep.refl tw nw _) hh44 (by first | exact .inl (by omega) | (right; first | exact rfl | (show _ ∨ _; omega) | omega)))) (Nat.le_refl _) (fun h_ => by have e_ : LB = nx + 1 := h_; omega) (by omega), by omega, by omega, by omega, hca1, hca2, by omega, kU (hkw) hh44⟩
end
section
variable [Env]
theorem o_and_eq {T : TA} {t : TB} {nx m r : Nat} {x y : Opd} {a : Int} (hx : x.ev T = some (.int .i64 a)) (hy : y.ev T = some (.int .i64 (m : Int))) (h2 : bitsF .and .i64 a (m : Int) = some (r : Int)) : (IOp.bin .and x y).run T t nx = .ok (.int .i64 (r : Int)) t nx := by
 refine o_bin hx hy rfl (by decide) (by decide) ?_
 show (bitsF .and .i64 a (m : Int)).map (AV.int .i64) = _
 rw [h2]; rfl
theorem land_mod {a m : Nat} (k : Nat) (hm : m = 2 ^ k - 1) (h1 : a ≤ 9223372036854775807) (h2 : m ≤ 9223372036854775807) : bitsF .and .i64 (a : Int) (m : Int) = some ((a % 2 ^ k : Nat) : Int) := by
 show (match Nat.ble a (kMax .i64), Nat.ble m (kMax .i64) with
   | true, true => some (Int.ofNat (Nat.land a m))
   | _, _ => bitsG .and .i64 (.ofNat a) (.ofNat m)) = _
 rw [show Nat.ble a (kMax .i64) = true from by simp [kMax]; omega, show Nat.ble m (kMax .i64) = true from by simp [kMax]; omega]
 dsimp only
 rw [show Nat.land a m = a % 2 ^ k from by rw [hm]; exact Nat.and_two_pow_sub_one_eq_mod a k]
 rfl
theorem o_shrN {T : TA} {t : TB} {nx m : Nat} {x y : Opd} {a : Nat} (hx : x.ev T = some (.int .i64 (a : Int))) (hy : y.ev T = some (.int .i64 (m : Int))) (hm : m ≤ 64) : (IOp.bin .shr x y).run T t nx = .ok (.int .i64 ((a / 2 ^ m : Nat) : Int)) t nx := by
 have e : x.ev T = some (.int .i64 (.ofNat a)) := hx
 have e2 : y.ev T = some (.int .i64 (.ofNat m)) := hy
 have h : shrF .i64 (.ofNat a) (.ofNat m) = some (.ofNat (a / 2 ^ m)) := by
   show some (Int.ofNat (Nat.div a (Nat.pow 2 (Nat.min m IntKind.i64.bits)))) = _
   rw [show Nat.min m IntKind.i64.bits = m from Nat.min_eq_left hm]; rfl
 simp only [IOp.run, e, e2, h, fInt_eq]; rfl
def bitsL (r : Nat) : List Nat := (List.range 8).map (fun j => 48 + r / 2 ^ (7 - j) % 2)
theorem bitsL_at {r j : Nat} (h : j < 8) : (bitsL r)[j]? = some (48 + r / 2 ^ (7 - j) % 2) := by simp [bitsL, h]
theorem bitsL_len (r : Nat) : (bitsL r).length = 8 := by simp [bitsL]
theorem bitsL_B (r : Nat) : B4 (bitsL r) := by
 intro c hc
 simp only [bitsL, List.mem_map] at hc
 obtain ⟨j, -, rfl⟩ := hc
 rcases Nat.mod_two_eq_zero_or_one (r / 2 ^ (7 - j)) with e | e <;> rw [e]
 · exact bitC48
 · exact bitC49
theorem bitsL_V (r : Nat) : isV (bitsL r) := ⟨by rw [bitsL_len]; decide, by rw [bitsL_len]; decide, bitsL_B r⟩
def one8 : List Nat := [48, 48, 48, 48, 48, 48, 48, 49]
def x8 : List Nat := [120, 120, 120, 120, 120, 120, 120, 120]
theorem inc_all : ∀ r < 256, binL 13 (bitsL r) one8 = bitsL ((r + 1) % 256) := by decide +kernel
theorem inc_ne : ∀ r < 256, bitsL ((r + 1) % 256) ≠ bitsL r := by decide +kernel
theorem bits_x (r : Nat) : bitsL r ≠ x8 := fun h => by
 have := bitsL_B r 120 (by rw [h]; simp [x8])
 have h2 : (bitsL r)[0]? = some 120 := by rw [h]; rfl
 rw [bitsL_at (by decide)] at h2
 have h3 := Option.some.inj h2
 omega
def cns (b : List Nat) : List Nd := [⟨2, 0, 1, [], [], 0, 0, 0⟩, ⟨2, 0, 1, [], [], 0, 0, 0⟩, ⟨1, 0, 8, [], b, 0, 0, 0⟩, ⟨1, 0, 8, [], one8, 0, 0, 0⟩, ⟨7, 0, 8, [0, 6], [], 0, 0, 0⟩, ⟨3, 13, 8, [4, 3], [], 0, 0, 0⟩, ⟨4, 0, 8, [1, 2, 5], [], 0, 0, 0⟩]
def cts : List Int := [0, 1, 4]
def inc (q : List Nat) : List Nat := binL 13 q one8
/-- The values: clock, choice, the number that is told, the register's. -/
def stC (b c s q : List Nat) : List (List Nat) := [c, s, b, one8, q, inc q, if truthL s = 49 then b else inc q]
theorem cns_cases {b : List Nat} {P : Nat → Nd → Prop} (h0 : P 0 ⟨2, 0, 1, [], [], 0, 0, 0⟩) (h1 : P 1 ⟨2, 0, 1, [], [], 0, 0, 0⟩) (h2 : P 2 ⟨1, 0, 8, [], b, 0, 0, 0⟩) (h3 : P 3 ⟨1, 0, 8, [], one8, 0, 0, 0⟩) (h4 : P 4 ⟨7, 0, 8, [0, 6], [], 0, 0, 0⟩) (h5 : P 5 ⟨3, 13, 8, [4, 3], [], 0, 0, 0⟩) (h6 : P 6 ⟨4, 0, 8, [1, 2, 5], [], 0, 0, 0⟩) : ∀ (i : Nat) (x : Nd), (cns b)[i]? = some x → P i x
 | 0, x, h => by cases h; exact h0
 | 1, x, h => by cases h; exact h1
 | 2, x, h => by cases h; exact h2
 | 3, x, h => by cases h; exact h3
 | 4, x, h => by cases h; exact h4
 | 5, x, h => by cases h; exact h5
 | 6, x, h => by cases h; exact h6
 | n + 7, x, h => by simp [cns] at h
theorem cns_all {b : List Nat} {P : Nd → Prop} (h : ∀ (i : Nat) (x : Nd), (cns b)[i]? = some x → P x) : ∀ x ∈ cns b, P x := fun x hx => by
 obtain ⟨i, hi, e⟩ := List.getElem_of_mem hx
 exact h i x (by rw [List.getElem?_eq_getElem hi, e])
theorem one8_V : isV one8 := by have := bitsL_V 1; rw [show bitsL 1 = one8 from by decide] at this; exact this
theorem cns_g {b : List Nat} (hb : isV b) (hl : b.length = 8) : NtG (cns b) := by
 refine ⟨cns_all (cns_cases ?_ ?_ ?_ ?_ ?_ ?_ ?_), cns_all (cns_cases ?_ ?_ ?_ ?_ ?_ ?_ ?_), cns_all (cns_cases ?_ ?_ ?_ ?_ ?_ ?_ ?_)⟩
 iterate 7 exact ⟨by dsimp only; decide, by dsimp only; decide⟩
 iterate 7 (show ∀ k ∈ _, 0 ≤ k ∧ k < ((7 : Nat) : Int); simp)
 · exact ok_in
 · exact ok_in
 · exact ok_const hb (by rw [hl]; rfl)
 · exact ok_const one8_V rfl
 · exact ⟨⟨.inr rfl, .inr rfl, .inr ⟨rfl, rfl⟩, .inr rfl⟩, (nodeP7 rfl).2 ⟨1, rfl⟩⟩
 · exact ⟨⟨.inl rfl, .inr rfl, .inr ⟨rfl, rfl⟩, .inr rfl⟩, (nodeP3 rfl).2 rfl⟩
 · exact ⟨⟨.inr rfl, .inr rfl, .inr ⟨rfl, rfl⟩, .inr rfl⟩, (nodeP4 rfl).2 ⟨1, rfl⟩⟩
theorem cns_L (b : List Nat) : LvN (cns b) := ⟨by show 7 ≤ 4096; decide, cns_cases (by simp [hangs]) (by simp [hangs]) (by simp [hangs]) (by simp [hangs]) (by simp [hangs]) (by simp [hangs]) (by simp [hangs])⟩
theorem cns_M {b : List Nat} (hb : isV b) (hl : b.length = 8) : MayP (cns b) cts ((cts.length : Nat) : Int) := by
 have g := cns_g hb hl
 refine ⟨by show 7 ≤ 4096; decide, rfl, fun x hx => ⟨g.wide x hx, g.ins x hx⟩, by show ∀ k ∈ ([0, 1, 4] : List Int), 0 ≤ k ∧ k < ((7 : Nat) : Int); simp, fun i x hx => ⟨g.ok x (List.mem_of_getElem? hx), ?_⟩⟩
 revert i x hx
 refine cns_cases ?_ ?_ ?_ ?_ ?_ ?_ ?_ <;> simp [cts]
theorem cns_long (b : List Nat) (hb : isV b) : ∀ x ∈ cns b, x.ins.length < 60000 ∧ (∀ c ∈ x.value, c < 256) ∧ x.value.length ≤ 9223372036854775807 := by
 refine cns_all (cns_cases ?_ ?_ ?_ ?_ ?_ ?_ ?_)
 · simp
 · simp
 · exact ⟨by simp, fun c hc => by have := bitC_iff.1 (hb.2.2 c hc); omega, by have := hb.2.1; show b.length ≤ _; omega⟩
 · exact ⟨by simp, fun c hc => by have := bitC_iff.1 (one8_V.2.2 c hc); omega, by decide⟩
 · simp
 · simp
 · simp
theorem cns_8 (b : List Nat) : ∀ x ∈ cns b, x.kind ≠ 8 := cns_all (cns_cases (by dsimp only; decide) (by dsimp only; decide) (by dsimp only; decide) (by dsimp only; decide) (by dsimp only; decide) (by dsimp only; decide) (by dsimp only; decide))
theorem cns_below (b : List Nat) : ∀ (i : Nat) (x : Nd), (cns b)[i]? = some x → isGate x → ∀ k ∈ x.ins, 0 ≤ k ∧ k < (i : Int) := by
 refine cns_cases ?_ ?_ ?_ ?_ ?_ ?_ ?_ <;> intro hg <;> simp
 exact absurd rfl hg.2.1
theorem cns_fol {b : List Nat} {gs : List Int} (hp : gs.Perm (gl (cns b) (cns b).length)) (ho : Ord (cns b) gs) {c s x2 x3 q x5 x6 : List Nat} : followL (cns b) gs [c, s, x2, x3, q, x5, x6] = stC b c s q := by
 obtain ⟨h1, h2, -⟩ := gl_OK hp
 refine FixV.uniq (cns_below b) (ho.fix h1 h2 rfl) ⟨rfl, fun i hi => ?_, ?_⟩
 · match i with
   | 0 => rfl
   | 1 => rfl
   | 2 => exact absurd ⟨by dsimp only; decide, by dsimp only; decide, by dsimp only; decide⟩ (hi _ rfl)
   | 3 => exact absurd ⟨by dsimp only; decide, by dsimp only; decide, by dsimp only; decide⟩ (hi _ rfl)
   | 4 => rfl
   | 5 => exact absurd ⟨by dsimp only; decide, by dsimp only; decide, by dsimp only; decide⟩ (hi _ rfl)
   | 6 => exact absurd ⟨by dsimp only; decide, by dsimp only; decide, by dsimp only; decide⟩ (hi _ rfl)
   | n + 7 => rfl
 · refine cns_cases ?_ ?_ ?_ ?_ ?_ ?_ ?_ <;> intro hg
   · exact absurd rfl hg.1
   · exact absurd rfl hg.1
   · rfl
   · rfl
   · exact absurd rfl hg.2.1
   · rfl
   · rfl
theorem cns_fl (b : List Nat) : flp (cns b) (cns b).length = [4] := rfl
def wsC (c : List Nat) : List (List Nat) := [[], [], [], [], c, [], []]
theorem cns_flips {b c s q w : List Nat} : flipsL (cns b) (stC b c s q) [4] (wsC w) = (wsC c, if riseL w c = true then [4] else []) := by
 show ((wsC c, if riseL w c = true then [] ++ [4] else []) : List (List Nat) × List Int) = _
 split <;> rfl
theorem cns_stay {b : List Nat} {gs : List Int} (hp : gs.Perm (gl (cns b) (cns b).length)) (ho : Ord (cns b) gs) {c s x2 x3 q x5 x6 w : List Nat} (hr : riseL w c = false) : Settle (cns b) gs [4] 0 [c, s, x2, x3, q, x5, x6] (wsC w) (stC b c s q) (wsC c) := by
 have e := cns_fol hp ho (c := c) (s := s) (x2 := x2) (x3 := x3) (q := q) (x5 := x5) (x6 := x6)
 rw [← e]
 refine .stop ?_
 rw [e, cns_flips, hr]; rfl
theorem cns_rise {b : List Nat} {gs : List Int} (hp : gs.Perm (gl (cns b) (cns b).length)) (ho : Ord (cns b) gs) {c s x2 x3 q x5 x6 w : List Nat} (hr : riseL w c = true) : Settle (cns b) gs [4] 1 [c, s, x2, x3, q, x5, x6] (wsC w) (stC b c s (if truthL s = 49 then b else inc q)) (wsC c) := by
 have e := cns_fol hp ho (c := c) (s := s) (x2 := x2) (x3 := x3) (q := q) (x5 := x5) (x6 := x6)
 refine .rise (w := wsC c) (k := 4) ?_ ?_
 · rw [e, cns_flips, hr]; rfl
 · rw [e]
   show Settle (cns b) gs [4] 0 [c, s, b, one8, (if truthL s = 49 then b else inc q), inc q, (if truthL s = 49 then b else inc q)] (wsC c) _ _
   exact cns_stay hp ho (rise_same c)
def sB : List Chg := [⟨0, 0, [48]⟩, ⟨0, 1, [49]⟩, ⟨1, 0, [49]⟩, ⟨2, 0, [48]⟩, ⟨2, 1, [48]⟩]
def sF : Nat → Nat → List Chg
 | _, 0 => []
 | i, k + 1 => ⟨((3 + 2 * i : Nat) : Int), 0, [49]⟩ :: ⟨((4 + 2 * i : Nat) : Int), 0, [48]⟩ :: sF (i + 1) k
theorem sF_snoc : ∀ (k i : Nat), sF i (k + 1) = sF i k ++ [⟨((3 + 2 * (i + k) : Nat) : Int), 0, [49]⟩, ⟨((4 + 2 * (i + k) : Nat) : Int), 0, [48]⟩]
 | 0, i => rfl
 | k + 1, i => by
   show _ :: _ :: sF (i + 1) (k + 1) = _ :: _ :: (sF (i + 1) k ++ _)
   rw [sF_snoc k (i + 1), show i + 1 + k = i + (k + 1) by omega]
theorem sF_len : ∀ (k i : Nat), (sF i k).length = 2 * k
 | 0, _ => rfl
 | k + 1, i => by show (sF (i + 1) k).length + 1 + 1 = _; rw [sF_len k]; omega
def Rising : List Chg → Prop
 | a :: c :: l => chgLt a c ∧ Rising (c :: l)
 | _ => True
theorem Rising.at_ : ∀ {l : List Chg}, Rising l → ∀ (i : Nat) (a c : Chg), l[i]? = some a → l[i + 1]? = some c → chgLt a c
 | [], _, i, a, c, h, _ => by simp at h
 | [x], _, i, a, c, _, h => by simp at h
 | x :: y :: l, h, 0, a, c, h1, h2 => by cases h1; cases h2; exact h.1
 | x :: y :: l, h, i + 1, a, c, h1, h2 => Rising.at_ (l := y :: l) h.2 i a c h1 h2
theorem sF_rise : ∀ (k i : Nat) (a : Chg), a.at_ < ((3 + 2 * i : Nat) : Int) → Rising (a :: sF i k)
 | 0, i, a, h => trivial
 | k + 1, i, a, h => ⟨.inl h, .inl (by show ((3 + 2 * i : Nat) : Int) < ((4 + 2 * i : Nat) : Int); omega), sF_rise k (i + 1) _ (by show ((4 + 2 * i : Nat) : Int) < ((3 + 2 * (i + 1) : Nat) : Int); omega)⟩
theorem sF_mem : ∀ (k i : Nat) (c : Chg), c ∈ sF i k → c.net = 0 ∧ (c.val = [48] ∨ c.val = [49]) ∧ 0 ≤ c.at_ ∧ c.at_ ≤ ((4 + 2 * (i + k) : Nat) : Int)
 | 0, _, c, h => by cases h
 | k + 1, i, c, h => by
   rcases List.mem_cons.1 h with rfl | h
   · exact ⟨rfl, .inr rfl, by dsimp only; omega, by dsimp only; omega⟩
   rcases List.mem_cons.1 h with rfl | h
   · exact ⟨rfl, .inl rfl, by dsimp only; omega, by dsimp only; omega⟩
   · have := sF_mem k (i + 1) c h
     exact ⟨this.1, this.2.1, this.2.2.1, by omega⟩
theorem V48 : isV [48] := ⟨by decide, by decide, B4.one bitC48⟩
theorem V49 : isV [49] := ⟨by decide, by decide, B4.one bitC49⟩
theorem sC_P {b : List Nat} {n : Nat} (hn : n ≤ 100) : StimP (cns b) cts (sB ++ sF 0 n) 1000 := by
 refine ⟨by decide, fun c hc => ?_, Rising.at_ ?_⟩
 · have h : (c.net = 0 ∨ c.net = 1) ∧ (c.val = [48] ∨ c.val = [49]) ∧ 0 ≤ c.at_ ∧ c.at_ ≤ 1000 := by
     rcases List.mem_append.1 hc with hc | hc
     · simp only [sB, List.mem_cons, List.not_mem_nil, or_false] at hc
       rcases hc with rfl | rfl | rfl | rfl | rfl <;> simp
     · have := sF_mem n 0 c hc
       exact ⟨.inl this.1, this.2.1, this.2.2.1, by omega⟩
   obtain ⟨h1, h2, h3, h4⟩ := h
   have hv : isV c.val ∧ c.val.length = 1 := by rcases h2 with e | e <;> rw [e]; exact ⟨V48, rfl⟩; exact ⟨V49, rfl⟩
   refine ⟨⟨h3, by omega⟩, ⟨by omega, by show c.net < ((3 : Nat) : Int); omega⟩, hv.1, ?_⟩
   rcases h1 with e | e <;> rw [e]
   · exact ⟨0, _, rfl, rfl, rfl, by rw [hv.2]; rfl⟩
   · exact ⟨1, _, rfl, rfl, rfl, by rw [hv.2]; rfl⟩
 · exact ⟨.inr ⟨rfl, by decide⟩, .inl (by decide), .inl (by decide), .inr ⟨rfl, by decide⟩, sF_rise n 0 _ (by decide)⟩
def fB (f : Nat) : List Chg := [⟨0, 0, [48]⟩, ⟨0, 1, [49]⟩, ⟨1, 0, [49]⟩, ⟨1, 2, bitsL f⟩, ⟨2, 0, [48]⟩, ⟨2, 1, [48]⟩]
def fF (f : Nat) : Nat → Nat → List Chg
 | _, 0 => []
 | i, k + 1 => ⟨((3 + 2 * i : Nat) : Int), 0, [49]⟩ :: ⟨((3 + 2 * i : Nat) : Int), 2, bitsL ((f + i + 1) % 256)⟩ :: ⟨((4 + 2 * i : Nat) : Int), 0, [48]⟩ :: fF f (i + 1) k
theorem fF_len (f : Nat) : ∀ (k i : Nat), (fF f i k).length = 3 * k
 | 0, _ => rfl
 | k + 1, i => by show (fF f (i + 1) k).length + 1 + 1 + 1 = _; rw [fF_len f k]; omega
theorem absL_y {ts : List Int} {now m : Int} {s : List Nat} {v : List (List Nat)} {cs : List Chg} : absL ts now (⟨now, m, s⟩ :: cs) v = absL ts now cs (v.set (netK ts ⟨now, m, s⟩) s) := absL_yes rfl
theorem diffs3 (now : Int) (a b c a' b' c' : List Nat) : diffs now [a, b, c] [a', b', c'] 3 = (if a' = a then [] else [⟨now, 0, a'⟩]) ++ ((if b' = b then [] else [⟨now, 1, b'⟩]) ++ ((if c' = c then [] else [⟨now, 2, c'⟩]) ++ [])) := rfl
theorem absL_sF {now : Int} {v : List (List Nat)} : ∀ (k i : Nat), now < ((3 + 2 * i : Nat) : Int) → absL cts now (sF i k) v = (v, sF i k)
 | 0, _, _ => rfl
 | k + 1, i, h => absL_no (by show ¬ ((3 + 2 * i : Nat) : Int) = now; omega)
theorem nextT_sF : ∀ (k i : Nat), 4 + 2 * (i + k) ≤ 1000 → nextT 1000 (sF i (k + 1)) = ((3 + 2 * i : Nat) : Int)
 | k, i, h => by show min (1000 + 1) ((3 + 2 * i : Nat) : Int) = _; omega
theorem cns_run {b : List Nat} {gs : List Int} {f : Nat} (hp : gs.Perm (gl (cns b) (cns b).length)) (ho : Ord (cns b) gs) : ∀ (k i : Nat) (l : List Chg), 4 + 2 * (i + k) ≤ 1000 →
   RunL (cns b) cts gs [4] 1000 (2 * k) (nextT 1000 (sF i k)) (sF i k) (stC b [48] [48] (bitsL ((f + i) % 256))) (wsC [48]) [[48], [48], bitsL ((f + i) % 256)] l (l ++ fF f i k)
 | 0, i, l, h => by rw [show fF f i 0 = [] from rfl, List.append_nil]; exact .done (by show (1000 : Int) < 1000 + 1; decide)
 | k + 1, i, l, h => by
   have hi := inc_all ((f + i) % 256) (Nat.mod_lt _ (by decide))
   have hq : ((f + i) % 256 + 1) % 256 = (f + (i + 1)) % 256 := by omega
   rw [hq] at hi
   have hne : bitsL ((f + (i + 1)) % 256) ≠ bitsL ((f + i) % 256) := by rw [← hq]; exact inc_ne _ (Nat.mod_lt _ (by decide))
   have ih := cns_run (f := f) hp ho k (i + 1) (l ++ [⟨((3 + 2 * i : Nat) : Int), 0, [49]⟩, ⟨((3 + 2 * i : Nat) : Int), 2, bitsL ((f + i + 1) % 256)⟩, ⟨((4 + 2 * i : Nat) : Int), 0, [48]⟩]) (by omega)
   rw [List.append_assoc] at ih
   rw [show 2 * (k + 1) = 2 * k + 1 + 1 by omega]
   refine .step (v1 := [[49], [48], b, one8, bitsL ((f + i) % 256), inc (bitsL ((f + i) % 256)), if truthL [48] = 49 then b else inc (bitsL ((f + i) % 256))]) (cs' := ⟨((4 + 2 * i : Nat) : Int), 0, [48]⟩ :: sF (i + 1) k) (by rw [nextT_sF k i (by omega)]; omega) ?_ (cns_rise hp ho rfl) ?_
   · rw [nextT_sF k i (by omega)]
     rw [show sF i (k + 1) = ⟨((3 + 2 * i : Nat) : Int), 0, [49]⟩ :: ⟨((4 + 2 * i : Nat) : Int), 0, [48]⟩ :: sF (i + 1) k from rfl, absL_y, absL_no (by show ¬ ((4 + 2 * i : Nat) : Int) = ((3 + 2 * i : Nat) : Int); omega)]
     rfl
   · rw [if_neg (by decide), show inc (bitsL ((f + i) % 256)) = bitsL ((f + (i + 1)) % 256) from hi, nextT_sF k i (by omega)]
     rw [show nextT 1000 (⟨((4 + 2 * i : Nat) : Int), 0, [48]⟩ :: sF (i + 1) k) = ((4 + 2 * i : Nat) : Int) from (by show min (1000 + 1) ((4 + 2 * i : Nat) : Int) = _; omega)]
     rw [show insV (stC b [49] [48] (bitsL ((f + (i + 1)) % 256))) cts = [[49], [48], bitsL ((f + (i + 1)) % 256)] from rfl, show cts.length = 3 from rfl, diffs3, if_neg (by decide), if_pos rfl, if_neg hne]
     refine .step (v1 := [[48], [48], b, one8, bitsL ((f + (i + 1)) % 256), inc (bitsL ((f + (i + 1)) % 256)), if truthL [48] = 49 then b else inc (bitsL ((f + (i + 1)) % 256))]) (cs' := sF (i + 1) k) (by omega) ?_ (cns_stay hp ho rfl) ?_
     · rw [absL_y, absL_sF k (i + 1) (by omega)]; rfl
     · rw [show insV (stC b [48] [48] (bitsL ((f + (i + 1)) % 256))) cts = [[48], [48], bitsL ((f + (i + 1)) % 256)] from rfl, show cts.length = 3 from rfl, diffs3, if_neg (by decide), if_pos rfl, if_pos rfl]
       rw [List.append_assoc]
       exact ih
theorem cns_full {f n : Nat} (hf : f < 256) (hn : n ≤ 100) {gs : List Int} (hp : gs.Perm (gl (cns (bitsL f)) (cns (bitsL f)).length)) (ho : Ord (cns (bitsL f)) gs) :
   RunL (cns (bitsL f)) cts gs (flp (cns (bitsL f)) (cns (bitsL f)).length) 1000 (2 * n + 1 + 1 + 1) 0 (sB ++ sF 0 n) (followL (cns (bitsL f)) gs (x0 (cns (bitsL f)))) (wasL (cns (bitsL f)) (followL (cns (bitsL f)) gs (x0 (cns (bitsL f)))) (flp (cns (bitsL f)) (cns (bitsL f)).length)) (insV (followL (cns (bitsL f)) gs (x0 (cns (bitsL f)))) cts) [] (fB f ++ fF f 0 n) := by
 have e0 : followL (cns (bitsL f)) gs (x0 (cns (bitsL f))) = stC (bitsL f) [120] [120] x8 := by
   rw [show x0 (cns (bitsL f)) = [[120], [120], x8, x8, x8, x8, x8] from rfl]; exact cns_fol hp ho
 rw [e0, cns_fl]
 rw [show wasL (cns (bitsL f)) (stC (bitsL f) [120] [120] x8) [4] = wsC [120] from rfl, show insV (stC (bitsL f) [120] [120] x8) cts = [[120], [120], x8] from rfl]
 have r := cns_run (f := f) hp ho n 0 (fB f) (by omega)
 rw [show (f + 0) % 256 = f by omega] at r
 refine .step (v1 := [[48], [49], bitsL f, one8, x8, inc x8, if truthL [120] = 49 then bitsL f else inc x8]) (cs' := ⟨1, 0, [49]⟩ :: ⟨2, 0, [48]⟩ :: ⟨2, 1, [48]⟩ :: sF 0 n) (by decide) (by show absL cts 0 (⟨0, 0, [48]⟩ :: ⟨0, 1, [49]⟩ :: ⟨1, 0, [49]⟩ :: ⟨2, 0, [48]⟩ :: ⟨2, 1, [48]⟩ :: sF 0 n) _ = _; rw [absL_y, absL_y, absL_no (by decide)]; rfl) (cns_stay hp ho rfl) ?_
 rw [show insV (stC (bitsL f) [48] [49] x8) cts = [[48], [49], x8] from rfl, show cts.length = 3 from rfl, diffs3, if_neg (by decide), if_neg (by decide), if_pos rfl]
 rw [show nextT 1000 (⟨1, 0, [49]⟩ :: ⟨2, 0, [48]⟩ :: ⟨2, 1, [48]⟩ :: sF 0 n) = 1 from rfl]
 refine .step (v1 := [[49], [49], bitsL f, one8, x8, inc x8, bitsL f]) (cs' := ⟨2, 0, [48]⟩ :: ⟨2, 1, [48]⟩ :: sF 0 n) (by decide) (by rw [absL_y, absL_no (by decide)]; rfl) (cns_rise hp ho rfl) ?_
 rw [if_pos (by decide)]
 rw [show insV (stC (bitsL f) [49] [49] (bitsL f)) cts = [[49], [49], bitsL f] from rfl, show cts.length = 3 from rfl, diffs3, if_neg (by decide), if_pos rfl, if_neg (bits_x f)]
 rw [show nextT 1000 (⟨2, 0, [48]⟩ :: ⟨2, 1, [48]⟩ :: sF 0 n) = 2 from rfl]
 refine .step (v1 := [[48], [48], bitsL f, one8, bitsL f, inc (bitsL f), bitsL f]) (cs' := sF 0 n) (by decide) (by rw [absL_y, absL_y, absL_sF n 0 (by omega)]; rfl) (cns_stay hp ho rfl) ?_
 rw [show insV (stC (bitsL f) [48] [48] (bitsL f)) cts = [[48], [48], bitsL f] from rfl, show cts.length = 3 from rfl, diffs3, if_neg (by decide), if_neg (by decide), if_pos rfl]
 exact r
/-- Which change of the register's net a change is. -/
def cnt2 (l : List Chg) : Nat := (l.filter (fun c => decide (c.net = 2))).length
theorem fin_at {f n : Nat} (hf : f < 256) : ∀ (j : Nat) (c : Chg), (fB f ++ fF f 0 n)[j]? = some c → c.net = 2 → c.at_ = ((1 + 2 * cnt2 ((fB f ++ fF f 0 n).take j) : Nat) : Int) ∧ c.val = bitsL ((f + cnt2 ((fB f ++ fF f 0 n).take j)) % 256) := by
 have hF : ∀ (k i : Nat) (pre : List Chg), cnt2 pre = i + 1 → ∀ (j : Nat) (c : Chg), (fF f i k)[j]? = some c → c.net = 2 → c.at_ = ((1 + 2 * cnt2 (pre ++ (fF f i k).take j) : Nat) : Int) ∧ c.val = bitsL ((f + cnt2 (pre ++ (fF f i k).take j)) % 256) := by
   intro k
   induction k with
   | zero => intro i pre hpre j c h; simp [fF] at h
   | succ k ih =>
     intro i pre hpre j c h h2
     match j, h with
     | 0, h => cases h; cases h2
     | 1, h =>
       cases h
       rw [show (fF f i (k + 1)).take 1 = [⟨((3 + 2 * i : Nat) : Int), 0, [49]⟩] from rfl, show cnt2 (pre ++ [⟨((3 + 2 * i : Nat) : Int), 0, [49]⟩]) = cnt2 pre from by simp [cnt2], hpre]
       exact ⟨by dsimp only; omega, by dsimp only; rw [show f + (i + 1) = f + i + 1 by omega]⟩
     | 2, h => cases h; cases h2
     | j + 3, h =>
       have h3 := ih (i + 1) (pre ++ [⟨((3 + 2 * i : Nat) : Int), 0, [49]⟩, ⟨((3 + 2 * i : Nat) : Int), 2, bitsL ((f + i + 1) % 256)⟩, ⟨((4 + 2 * i : Nat) : Int), 0, [48]⟩]) (by unfold cnt2 at hpre ⊢; rw [List.filter_append, List.length_append, hpre]; rfl) j c h h2
       rw [List.append_assoc] at h3
       exact h3
 intro j c h h2
 by_cases hj : j < 6
 · rw [List.getElem?_append_left hj] at h
   rw [List.take_append_of_le_length (by show j ≤ 6; omega)]
   match j, hj, h with
   | 0, _, h => cases h; cases h2
   | 1, _, h => cases h; cases h2
   | 2, _, h => cases h; cases h2
   | 3, _, h => cases h; exact ⟨rfl, by dsimp only; rw [show cnt2 ((fB f).take 3) = 0 from rfl, show (f + 0) % 256 = f by omega]⟩
   | 4, _, h => cases h; cases h2
   | 5, _, h => cases h; cases h2
 · rw [List.getElem?_append_right (by show 6 ≤ j; omega)] at h
   have h3 := hF n 0 (fB f) rfl (j - 6) c h h2
   rw [List.take_append, List.take_of_length_le (show (fB f).length ≤ j by show 6 ≤ j; omega)]
   exact h3
theorem fin_cnt (f : Nat) : ∀ (k i : Nat), cnt2 (fF f i k) = k
 | 0, _ => rfl
 | k + 1, i => by
   show (List.filter (fun c => decide (c.net = 2)) (fF f (i + 1) k)).length + 1 = _
   have := fin_cnt f k (i + 1)
   unfold cnt2 at this
   rw [this]
theorem fin_all (f n : Nat) : cnt2 (fB f ++ fF f 0 n) = n + 1 := by
 have := fin_cnt f n 0
 unfold cnt2 at this ⊢
 rw [List.filter_append, List.length_append, this]
 show 1 + n = _; omega
theorem cnt_take {l : List Chg} {j : Nat} {c : Chg} (h : l[j]? = some c) : cnt2 (l.take (j + 1)) = cnt2 (l.take j) + (if c.net = 2 then 1 else 0) := by
 unfold cnt2
 rw [List.take_succ, h, List.filter_append, List.length_append]
 congr 1
 by_cases e : c.net = 2 <;> simp [e]
def BU (r : Nat) (s : List Nat) (i : Nat) : Prop := ∀ j, 8 ≤ j + i → j < 8 → s[j]? = (bitsL r)[j]?
theorem BU.set {r i z : Nat} {s : List Nat} (h : BU r s i) (hz : z = r / 2 ^ i) (hi : i < 8) (hl : s.length = 8) : BU r (s.set (7 - i) (48 + z % 2)) (i + 1) := by
 intro j hj h8
 by_cases e : 7 - i = j
 · subst e
   rw [List.getElem?_set_self (by omega), bitsL_at (by omega), show 7 - (7 - i) = i by omega, hz]
 · rw [List.getElem?_set_ne e]; exact h j (by omega) h8
theorem BU.all {r i : Nat} {s : List Nat} (h : BU r s i) (hi : 8 ≤ i) (hl : s.length = 8) : s = bitsL r := by
 apply List.ext_getElem?
 intro j
 by_cases hj : j < 8
 · exact h j (by omega) hj
 · rw [List.getElem?_eq_none (by omega), List.getElem?_eq_none (by rw [bitsL_len]; omega)]
/-- A list of changes that is full, in the block d. -/
structure OG (t : TB) (nx d : Nat) (v : AV) (l : List Chg) : Prop where
 lt : d < nx
 v : ∃ ex, v = .slice d 0 l.length l.length 3 ex
 row : hv t d = some (.row (flatC3 l) true)
theorem OG.keep {t t' : TB} {nx nx' d m : Nat} {v : AV} {l : List Chg} {W : Nat → Prop} (h : OG t nx d v l) (hk : Keep t t' m W) (hm : nx ≤ m) (hw : ¬ W d) (hn : nx ≤ nx') : OG t' nx' d v l :=
 ⟨Nat.lt_of_lt_of_le h.lt hn, h.v, (hk d (Nat.lt_of_lt_of_le h.lt hm) hw).trans h.row⟩
theorem OG.app2 {t : TB} {nx d e : Nat} {v : AV} {l : List Chg} {a b : Chg} {ex : Bool} (h : OG t nx d v l) (he : hv t e = some (.row (ccells a ++ ccells b) true)) (hs : (l.length + 2) * 3 ≤ 65536) :
   ∃ t', appendA 3 v (.slice e 0 2 2 3 ex) t nx = .ok (.slice nx 0 (l.length + 2) (l.length + 2) 3 false) t' (nx + 1) ∧ (OG t' (nx + 1) nx (.slice nx 0 (l.length + 2) (l.length + 2) 3 false) (l ++ [a, b]) ∧ Keep t t' nx (fun b => b = d)) := by
 obtain ⟨h1, ⟨ex0, rfl⟩, h3⟩ := h
 have hcc : allCell (ccells a ++ ccells b) = true := by rw [allCell_iff]; intro z hz; simp only [ccells, List.cons_append, List.nil_append, List.mem_cons, List.not_mem_nil, or_false] at hz; rcases hz with rfl | rfl | rfl | rfl | rfl | rfl <;> rfl
 have hsrc : srcCells (.slice e 0 2 2 3 ex) 2 3 t = some (ccells a ++ ccells b) := by
   rw [src_row (k := 2) he (by simp [ccells])]; rfl
 have hl := flatC3_len l
 obtain ⟨t', h5, t1, h6, h7⟩ := app_any (t := t) (nx := nx) (sz := 3) (k := 2) (b := d) (o := 0) (n := l.length) (ex := ex0) (y := .slice e 0 2 2 3 ex) rfl hsrc hcc h3 (by omega) (by decide) hs
 refine ⟨t', h5, ⟨Nat.lt_succ_self _, ⟨_, by rw [List.length_append]; rfl⟩, ?_⟩, Keep.upd (Keep.ne kR h6 (.inr rfl)) h7 (.inl (Nat.le_refl _))⟩
 rw [lS h7, show l ++ [a, b] = (l ++ [a]) ++ [b] by simp, flatC3_snoc, flatC3_snoc, show (flatC3 l).drop 0 = flatC3 l from rfl, List.take_of_length_le (by omega), List.append_assoc]
theorem OG.rowC {t : TB} {nx bd d : Nat} {v : AV} {l : List Chg} (h : OG t nx d v l) (hb : nx ≤ bd) : RowC t bd v l := by
 obtain ⟨h1, ⟨ex, rfl⟩, h3⟩ := h
 have hl := flatC3_len l
 exact .inr ⟨d, 0, l.length, ex, true, flatC3 l, rfl, by omega, h3, by omega, by rw [List.drop_zero]; exact List.take_of_length_le (by omega)⟩
theorem sF_snoc0 (i : Nat) : sB ++ sF 0 (i + 1) = (sB ++ sF 0 i) ++ [⟨((3 + 2 * i : Nat) : Int), 0, [49]⟩, ⟨((4 + 2 * i : Nat) : Int), 0, [48]⟩] := by rw [sF_snoc, List.append_assoc, Nat.zero_add]
theorem cns_row {t : TB} {bd d e1 e2 e3 : Nat} {b : List Nat} (hd : d < bd) (h : hv t d = some (.row (flatN (cns b) [.nslice, .nslice, .nslice, .nslice, .slice e1 0 2 2 1 true, .slice e2 0 2 2 1 true, .slice e3 0 3 3 1 true]) true)) (h1 : e1 < bd ∧ hv t e1 = some (.row [.int .i64 0, .int .i64 6] true)) (h2 : e2 < bd ∧ hv t e2 = some (.row [.int .i64 4, .int .i64 3] true)) (h3 : e3 < bd ∧ hv t e3 = some (.row [.int .i64 1, .int .i64 2, .int .i64 5] true)) : RowN t bd (.slice d 0 7 7 8 true) (cns b) := by
 refine .inr ⟨d, 0, 7, true, true, _, [.nslice, .nslice, .nslice, .nslice, .slice e1 0 2 2 1 true, .slice e2 0 2 2 1 true, .slice e3 0 3 3 1 true], rfl, hd, h, by show 0 + 7 * 8 ≤ 56; decide, rfl, rfl, ?_⟩
 intro i x iv hx hiv
 match i, hx, hiv with
 | 0, hx, hiv => cases hx; cases hiv; exact .inl ⟨rfl, rfl⟩
 | 1, hx, hiv => cases hx; cases hiv; exact .inl ⟨rfl, rfl⟩
 | 2, hx, hiv => cases hx; cases hiv; exact .inl ⟨rfl, rfl⟩
 | 3, hx, hiv => cases hx; cases hiv; exact .inl ⟨rfl, rfl⟩
 | 4, hx, hiv => cases hx; cases hiv; exact .inr ⟨e1, 0, 2, true, true, _, rfl, h1.1, h1.2, ⟨by decide, by decide⟩, rfl⟩
 | 5, hx, hiv => cases hx; cases hiv; exact .inr ⟨e2, 0, 2, true, true, _, rfl, h2.1, h2.2, ⟨by decide, by decide⟩, rfl⟩
 | 6, hx, hiv => cases hx; cases hiv; exact .inr ⟨e3, 0, 3, true, true, _, rfl, h3.1, h3.2, ⟨by decide, by decide⟩, rfl⟩
 | n + 7, hx, _ => simp [cns] at hx
theorem cts_row {t : TB} {bd d : Nat} (hd : d < bd) (h : hv t d = some (.row [.int .i64 0, .int .i64 1, .int .i64 4] true)) : RowI t bd (.slice d 0 3 3 1 true) cts := .inr ⟨d, 0, 3, true, true, _, rfl, hd, h, ⟨by decide, by decide⟩, rfl⟩
theorem chg_all {cs : List Chg} {j : Nat} {c : Chg} (h : cs[j]? = some c) : ((flatC3 cs).drop (0 + j * 3)).take 3 = ccells c := rowC_all (r := flatC3 cs) (o := 0) (by rw [List.drop_zero]; exact List.take_of_length_le (by rw [flatC3_len]; exact Nat.le_refl _)) h
def bits_r0 : LI := [.o 2 (.mov (.c (.str [])))]
def bits_r1 : LI := [.o 5 (.mkslice 1 [(.int .u8 0)] (kI 8) (kI 8)),
 .mv 3 5]
def bits_r2 : LI := [.o 4 (.mov (kI 0))]
def bits_r3 : LI := [.mv 6 4,
 .o 7 (.bin .lss (.t 6) (kI 8))]
def bits_r4 : LI := [.mv 10 3,
 .mv 11 4,
 .o 12 (.bin .sub (kI 7) (.t 11)),
 .mv 13 0,
 .mv 14 4,
 .o 15 (.bin .shr (.t 13) (.t 14)),
 .o 16 (.bin .and (.t 15) (kI 1)),
 .o 17 (.bin .add (kI 48) (.t 16)),
 .o 18 (.conv .u8 (.t 17)),
 .o 19 (.iaddr 1 (.t 10) (.t 12)),
 .x (.store 1 (.t 19) (.t 18))]
def bits_r5 : LI := [.mv 8 4,
 .o 9 (.bin .add (.t 8) (kI 1)),
 .mv 4 9]
def bits_r6 : LI := [.mv 20 3,
 .o 21 (.b2s (.t 20)),
 .mv 2 21]
def bits_c : IC := (.seq (.reg bits_r0) (.seq (.reg bits_r1) (.seq (.seq (.reg bits_r2) (.block 0 (.loop (.seq (.seq (.reg bits_r3) (.cond (.t 7) .skip (.exit 0))) (.seq (.block 1 (.reg bits_r4)) (.reg bits_r5)))))) (.seq (.reg bits_r6) .ret))))
theorem bits_tab : tb 20 = some (.code 1 22 bits_c [.tmp 2]) := by kernel_rfl
theorem bits_ok {t : TB} {nx r : Nat} (hr : r ≤ 255) : WF tb 20 [.int .i64 ((r : Nat) : Int)] t nx (fun v t' nx' => v = .str (bitsL r) ∧ nx ≤ nx' ∧ Keep t t' nx (fun _ => False)) := by
 refine k_fun bits_tab rfl ?_
 unfold bits_c
 change WC _ _ (Bt.put (some _) Bt.e 0) _ _ _
 refine k_seq (k_reg (rO (o_mov ev_c) (r_nil (k_seq (k_reg (r_heap (o_mkslice_u8 (w := 8) ev_c ev_c (by decide)) rfl (fun t1 (hh2 : hv t1 = upd (hv t) nx (some (.row (u8s (List.replicate 8 0)) true))) => m1 ds (r_nil (k_seq (k_seq (k_reg (rO (o_mov ev_c) (r_nil (k_block ?_))))))))))))))
 refine k_loop (fun mm Tv tv nv => ∃ (i : Nat) (s : List Nat), i ≤ 8 ∧ s.length = 8 ∧ (∀ c ∈ s, c ≤ 255) ∧ BU r s i ∧ hv tv nx = some (.row (u8s s) true) ∧ (Tv.get 0 = some (.int .i64 ((r : Nat) : Int)) ∧ Tv.get 3 = some (.slice nx 0 8 8 1 true) ∧ Tv.get 4 = some (.int .i64 ((i : Nat) : Int))) ∧ nx < nv ∧ Keep t tv nx (fun _ => False) ∧ mm + i = 8) (fun mm Tv tv nv hI => ?_) (8) ⟨0, List.replicate 8 0, by omega, rfl, (by intro c hc; rw [List.mem_replicate] at hc; omega), fun j h1 h2 => absurd h1 (by omega), (lS hh2), ⟨(z4 get_same), (z1 ds), ds⟩, by omega, kU kR hh2, rfl⟩
 obtain ⟨i, s, hi, hsl, h255, hbu, hrs, ⟨q0, q3, q4⟩, hnv, hkv, hmm⟩ := hI
 refine k_seq (k_seq (k_reg (m1 q4 (rO (o_lss eZ ev_c) (r_nil ?_)))))
 refine k_if eZ (fun hc3 => ?_) (fun hc3 => ?_)
 · refine k_skip (k_seq (k_block ?_))
   obtain ⟨z, hz⟩ : ∃ z, z = r / 2 ^ i := ⟨_, rfl⟩
   have hzr : z ≤ 255 := by rw [hz]; exact Nat.le_trans (Nat.div_le_self _ _) hr
   refine k_reg (m1 (z2 q3) (m1 (z1 (z2 q4)) (rO (o_subN (a := 7) (b := i) ev_c eZ (by omega) (by omega)) (m1 (z1 (z4 q0)) (m1 (z2 (z4 q4)) ?_)))))
   refine rO ((by rw [hz]; exact o_shrN (eV (z1 ds)) eZ (by omega) : (IOp.bin .shr (.t 13) (.t 14)).run _ _ _ = .ok (.int .i64 ((z : Nat) : Int)) _ _)) ?_
   refine rO (o_and_eq (m := 1) (r := z % 2) eZ ev_c (land_mod 1 rfl (by omega) (by decide))) (rO (o_addN (a := 48) (b := (z % 2)) ev_c eZ (by omega)) (rO (o_conv_u8 (a := 48 + z % 2) eZ (by omega)) (rO (o_iaddr (i := (7 - i)) (eV (z8 ds)) (eV (z2 (z4 ds))) (by omega)) (r_heap (o_store_u8 (i := (7 - i)) (c := (48 + z % 2)) eZ (eV (z1 ds)) hrs (by omega) (by omega)) rfl (fun t4 (hh5 : hv t4 = upd (hv tv) nx (some (.row (u8s (s.set (7 - i) ((48 + z % 2)))) true))) => r_nil (k_reg (m1 (z1 (z4 (z8 q4))) (rO (o_addN (a := i) (b := 1) eZ ev_c (by omega)) (m1 ds (r_nil ?_))))))))))
   exact ⟨8 - (i + 1), by omega, i + 1, _, by omega, by rw [List.length_set]; exact hsl, set_all h255 (by omega), hbu.set hz (by omega) hsl, (lS hh5), ⟨(z16 q0), (z16 q3), ds⟩, by omega, kU (hkv) hh5, by omega⟩
 refine k_exit (exK_same (k_seq (k_reg (m1 (z2 q3) (rO (o_b2s (s := s) eZ hrs hsl h255) (m1 ds (r_nil (k_ret ?_))))))))
 exact ⟨_, ans_tmp ds, by rw [hbu.all (by omega) hsl], by omega, hkv⟩
def cnt_r0 : LI := [.o 4 (.mov (.c (.bool false)))]
def cnt_r1 : LI := [.mv 14 0,
 .o 15 (.bin .and (.t 14) (kI 127)),
 .o 16 (.bin .rem (.t 15) (kI 100)),
 .mv 5 16]
def cnt_r2 : LI := [.o 17 (.build [(.int .i64 0), (.int .i64 0), (.int .i64 0), .nslice, (.str []), (.int .i64 0), (.int .i64 0), (.int .i64 0)] [(0, 1, (kI 2)), (2, 1, (kI 1))]),
 .o 18 (.build [(.int .i64 0), (.int .i64 0), (.int .i64 0), .nslice, (.str []), (.int .i64 0), (.int .i64 0), (.int .i64 0)] [(0, 1, (kI 2)), (2, 1, (kI 1))]),
 .mv 19 1,
 .o 20 (.bin .and (.t 19) (kI 255)),
 .f 21 20 [(.t 20)],
 .o 22 (.build [(.int .i64 0), (.int .i64 0), (.int .i64 0), .nslice, (.str []), (.int .i64 0), (.int .i64 0), (.int .i64 0)] [(0, 1, (kI 1)), (2, 1, (kI 8)), (4, 1, (.t 21))]),
 .o 23 (.build [(.int .i64 0), (.int .i64 0), (.int .i64 0), .nslice, (.str []), (.int .i64 0), (.int .i64 0), (.int .i64 0)] [(0, 1, (kI 1)), (2, 1, (kI 8)), (4, 1, (.c (.str [48, 48, 48, 48, 48, 48, 48, 49])))]),
 .o 24 (.bslice 1 2 [(.int .i64 0)] [(0, 1, (kI 0)), (1, 1, (kI 6))]),
 .o 25 (.build [(.int .i64 0), (.int .i64 0), (.int .i64 0), .nslice, (.str []), (.int .i64 0), (.int .i64 0), (.int .i64 0)] [(0, 1, (kI 7)), (2, 1, (kI 8)), (3, 1, (.t 24))]),
 .o 26 (.bslice 1 2 [(.int .i64 0)] [(0, 1, (kI 4)), (1, 1, (kI 3))]),
 .o 27 (.build [(.int .i64 0), (.int .i64 0), (.int .i64 0), .nslice, (.str []), (.int .i64 0), (.int .i64 0), (.int .i64 0)] [(0, 1, (kI 3)), (1, 1, (kI 13)), (2, 1, (kI 8)), (3, 1, (.t 26))]),
 .o 28 (.bslice 1 3 [(.int .i64 0)] [(0, 1, (kI 1)), (1, 1, (kI 2)), (2, 1, (kI 5))]),
 .o 29 (.build [(.int .i64 0), (.int .i64 0), (.int .i64 0), .nslice, (.str []), (.int .i64 0), (.int .i64 0), (.int .i64 0)] [(0, 1, (kI 4)), (2, 1, (kI 8)), (3, 1, (.t 28))]),
 .o 30 (.bslice 8 7 [(.int .i64 0), (.int .i64 0), (.int .i64 0), .nslice, (.str []), (.int .i64 0), (.int .i64 0), (.int .i64 0)] [(0, 8, (.t 17)), (8, 8, (.t 18)), (16, 8, (.t 22)), (24, 8, (.t 23)), (32, 8, (.t 25)), (40, 8, (.t 27)), (48, 8, (.t 29))]),
 .o 31 (.bslice 1 3 [(.int .i64 0)] [(0, 1, (kI 0)), (1, 1, (kI 1)), (2, 1, (kI 4))]),
 .o 32 (.build [.nslice, .nslice, (.int .i64 0)] [(0, 1, (.t 30)), (1, 1, (.t 31)), (2, 1, (kI 3))]),
 .o 6 (.alloc [.nslice, .nslice, (.int .i64 0)]),
 .x (.store 3 (.t 6) (.t 32))]
def cnt_r3 : LI := [.o 33 (.build [(.int .i64 0), (.int .i64 0), (.str [])] [(1, 1, (kI 0)), (2, 1, (.c (.str [48])))]),
 .o 34 (.build [(.int .i64 0), (.int .i64 0), (.str [])] [(1, 1, (kI 1)), (2, 1, (.c (.str [49])))]),
 .o 35 (.build [(.int .i64 0), (.int .i64 0), (.str [])] [(0, 1, (kI 1)), (1, 1, (kI 0)), (2, 1, (.c (.str [49])))]),
 .o 36 (.build [(.int .i64 0), (.int .i64 0), (.str [])] [(0, 1, (kI 2)), (1, 1, (kI 0)), (2, 1, (.c (.str [48])))]),
 .o 37 (.build [(.int .i64 0), (.int .i64 0), (.str [])] [(0, 1, (kI 2)), (1, 1, (kI 1)), (2, 1, (.c (.str [48])))]),
 .o 38 (.bslice 3 5 [(.int .i64 0), (.int .i64 0), (.str [])] [(0, 3, (.t 33)), (3, 3, (.t 34)), (6, 3, (.t 35)), (9, 3, (.t 36)), (12, 3, (.t 37))]),
 .mv 7 38]
def cnt_r4 : LI := [.o 8 (.mov (kI 0))]
def cnt_r5 : LI := [.mv 39 8,
 .mv 40 5,
 .o 41 (.bin .lss (.t 39) (.t 40))]
def cnt_r6 : LI := [.mv 44 7,
 .mv 45 8,
 .o 46 (.bin .mul (kI 2) (.t 45)),
 .o 47 (.bin .add (kI 3) (.t 46)),
 .o 48 (.build [(.int .i64 0), (.int .i64 0), (.str [])] [(0, 1, (.t 47)), (1, 1, (kI 0)), (2, 1, (.c (.str [49])))]),
 .mv 49 8,
 .o 50 (.bin .mul (kI 2) (.t 49)),
 .o 51 (.bin .add (kI 4) (.t 50)),
 .o 52 (.build [(.int .i64 0), (.int .i64 0), (.str [])] [(0, 1, (.t 51)), (1, 1, (kI 0)), (2, 1, (.c (.str [48])))]),
 .o 53 (.bslice 3 2 [(.int .i64 0), (.int .i64 0), (.str [])] [(0, 3, (.t 48)), (3, 3, (.t 52))]),
 .o 54 (.app 3 (.t 44) (.t 53)),
 .mv 7 54]
def cnt_r7 : LI := [.mv 42 8,
 .o 43 (.bin .add (.t 42) (kI 1)),
 .mv 8 43]
def cnt_r8 : LI := [.o 56 (.loadA 3 (.t 6)),
 .mv 57 7,
 .f 58 16 [(.t 56), (.t 57), (kI 1000)],
 .mv 55 58,
 .o 59 (.extr (.t 55) 0),
 .o 60 (.extr (.t 55) 1),
 .o 9 (.alloc [.nslice, .nslice, .nslice, .nslice]),
 .x (.store 4 (.t 9) (.t 59)),
 .mv 10 60]
def cnt_r9 : LI := [.mv 61 10,
 .o 62 (.bin .neq (.t 61) (kI 0))]
def cnt_r10 : LI := [.o 4 (.mov (.c (.bool false)))]
def cnt_r11 : LI := [.o 11 (.mov (kI 0))]
def cnt_r12 : LI := [.o 12 (.mov (kI 0))]
def cnt_r13 : LI := [.mv 63 12,
 .o 64 (.faddr (.t 9) 3),
 .o 65 (.load (.t 64)),
 .o 66 (.len .slc (.t 65)),
 .o 67 (.bin .lss (.t 63) (.t 66))]
def cnt_r14 : LI := [.o 70 (.faddr (.t 9) 3),
 .o 71 (.load (.t 70)),
 .mv 72 12,
 .o 73 (.iaddr 3 (.t 71) (.t 72)),
 .o 74 (.loadA 3 (.t 73)),
 .o 13 (.alloc [(.int .i64 0), (.int .i64 0), (.str [])]),
 .x (.store 3 (.t 13) (.t 74))]
def cnt_r15 : LI := [.o 75 (.faddr (.t 13) 1),
 .o 76 (.load (.t 75)),
 .o 77 (.bin .eql (.t 76) (kI 2))]
def cnt_r16 : List DIns := [⟨0, [], .o 78 (.faddr (.t 13) 2)⟩,
 ⟨1, [0], .o 79 (.load (.t 78))⟩,
 ⟨2, [], .mv 80 1⟩,
 ⟨3, [2], .o 81 (.bin .and (.t 80) (kI 255))⟩,
 ⟨4, [], .mv 82 11⟩,
 ⟨5, [3, 4], .o 83 (.bin .add (.t 81) (.t 82))⟩,
 ⟨6, [5], .o 84 (.bin .and (.t 83) (kI 255))⟩,
 ⟨7, [6], .f 85 20 [(.t 84)]⟩,
 ⟨8, [1, 7], .o 86 (.bin .neq (.t 79) (.t 85))⟩,
 ⟨9, [8, 7], .mv 87 86⟩,
 ⟨10, [9], .g 88 87 false (.faddr (.t 13) 0)⟩,
 ⟨11, [10, 9], .g 89 87 false (.load (.t 88))⟩,
 ⟨12, [9], .g 90 87 false (.mov (.t 11))⟩,
 ⟨13, [12, 9], .g 91 87 false (.bin .mul (kI 2) (.t 90))⟩,
 ⟨14, [13, 9], .g 92 87 false (.bin .add (kI 1) (.t 91))⟩,
 ⟨15, [11, 14, 9], .g 93 87 false (.bin .neq (.t 89) (.t 92))⟩,
 ⟨16, [9, 15], .o 94 (.pick (.t 87) (.c (.bool true)) (.t 93))⟩]
def cnt_r17 : LI := [.o 4 (.mov (.c (.bool false)))]
def cnt_r18 : LI := [.mv 95 11,
 .o 96 (.bin .add (.t 95) (kI 1)),
 .mv 11 96]
def cnt_r19 : LI := [.mv 68 12,
 .o 69 (.bin .add (.t 68) (kI 1)),
 .mv 12 69]
def cnt_r20 : LI := [.mv 97 11,
 .mv 98 5,
 .o 99 (.bin .add (.t 98) (kI 1)),
 .o 100 (.bin .eql (.t 97) (.t 99)),
 .mv 101 100,
 ⟨(some 102), (some (101, true)), (.callF 17 [])⟩,
 .o 103 (.pick (.t 101) (.t 102) (.c (.bool false))),
 .mv 4 103]
def cnt_c : IC := (.seq (.reg cnt_r0) (.seq (.reg cnt_r1) (.seq (.reg cnt_r2) (.seq (.reg cnt_r3) (.seq (.seq (.reg cnt_r4) (.block 0 (.loop (.seq (.seq (.reg cnt_r5) (.cond (.t 41) .skip (.exit 0))) (.seq (.block 1 (.reg cnt_r6)) (.reg cnt_r7)))))) (.seq (.reg cnt_r8) (.seq (.seq (.reg cnt_r9) (.cond (.t 62) (.seq (.reg cnt_r10) .ret) .skip)) (.seq (.reg cnt_r11) (.seq (.seq (.reg cnt_r12) (.block 2 (.loop (.seq (.seq (.reg cnt_r13) (.cond (.t 67) .skip (.exit 2))) (.seq (.block 3 (.seq (.reg cnt_r14) (.seq (.reg cnt_r15) (.cond (.t 77) (.seq (.seq (.draw cnt_r16) (.cond (.t 94) (.seq (.reg cnt_r17) .ret) .skip)) (.reg cnt_r18)) .skip)))) (.reg cnt_r19)))))) (.seq (.reg cnt_r20) .ret))))))))))
theorem cnt_tab : tb 6 = some (.code 2 104 cnt_c [.tmp 4]) := by kernel_rfl
set_option maxHeartbeats 8000000 in
theorem law_ok {t : TB} {nx : Nat} {a b : Int} : WF tb 6 [.int .i64 a, .int .i64 b] t nx (fun v t' nx' => v = .bool true) := by
 obtain ⟨r1, hr1, hb1⟩ := land_F a 127 (by decide)
 obtain ⟨F, hF, hb2⟩ := land_F b 255 (by decide)
 refine k_fun cnt_tab rfl ?_
 unfold cnt_c
 change WC _ _ (Bt.put (some _) (Bt.put (some _) Bt.e 0) 1) _ _ _
 refine k_seq (k_reg (rO (o_mov ev_c) (r_nil (k_seq (k_reg (m1 (z1 (get_other rfl get_same)) (rO (o_and_eq (m := 127) eZ ev_c hb1) (rO (o_rem (a := r1) (n := 100) eZ ev_c (by omega)) (m1 ds (r_nil (k_seq ?_)))))))))))
 have hn : (r1 % 100) ≤ 99 := by omega
 generalize (r1 % 100) = n at *
 refine k_reg (rO (o_build (fill_cons ev_c rfl rfl (fill_cons ev_c rfl rfl fill_nil))) (rO (o_build (fill_cons ev_c rfl rfl (fill_cons ev_c rfl rfl fill_nil))) (m1 (z1 (z2 (z4 get_same))) (rO (o_and_eq (m := 255) eZ ev_c hb2) (r_call (w_callF (evs_cons eZ evs_nil)) rfl (WF.mono (bits_ok (r := F) (by omega)) ?_))))))
 rintro _ t2 n3 ⟨rfl, hnb1, hkb1⟩
 refine rO (o_build (fill_cons ev_c rfl rfl (fill_cons ev_c rfl rfl (fill_cons eZ rfl rfl fill_nil)))) (rO (o_build (fill_cons ev_c rfl rfl (fill_cons ev_c rfl rfl (fill_cons ev_c rfl rfl fill_nil)))) (r_heap (o_bslice (fill_cons ev_c rfl rfl (fill_cons ev_c rfl rfl fill_nil))) rfl (fun t4 (hh5 : hv t4 = upd (hv t2) n3 (some (.row [(.int .i64 0), (.int .i64 6)] true))) => rO (o_build (fill_cons ev_c rfl rfl (fill_cons ev_c rfl rfl (fill_cons eZ rfl rfl fill_nil)))) (r_heap (o_bslice (fill_cons ev_c rfl rfl (fill_cons ev_c rfl rfl fill_nil))) rfl (fun t6 (hh7 : hv t6 = upd (hv t4) (n3 + 1) (some (.row [(.int .i64 4), (.int .i64 3)] true))) => rO (o_build (fill_cons ev_c rfl rfl (fill_cons ev_c rfl rfl (fill_cons ev_c rfl rfl (fill_cons eZ rfl rfl fill_nil))))) (r_heap (o_bslice (fill_cons ev_c rfl rfl (fill_cons ev_c rfl rfl (fill_cons ev_c rfl rfl fill_nil)))) rfl (fun t8 (hh9 : hv t8 = upd (hv t6) ((n3 + 1) + 1) (some (.row [(.int .i64 1), (.int .i64 2), (.int .i64 5)] true))) => rO (o_build (fill_cons ev_c rfl rfl (fill_cons ev_c rfl rfl (fill_cons eZ rfl rfl fill_nil)))) (r_heap (o_bslice (fill_cons (eV (z4 (z8 ds))) rfl rfl (fill_cons (eV (z1 (z2 (z8 ds)))) rfl rfl (fill_cons (eV (z1 (z2 (z4 ds)))) rfl rfl (fill_cons (eV (z2 (z4 ds))) rfl rfl (fill_cons (eV (z4 ds)) rfl rfl (fill_cons (eV (z2 ds)) rfl rfl (fill_cons eZ rfl rfl fill_nil)))))))) rfl (fun t10 (hh11 : hv t10 = upd (hv t8) (((n3 + 1) + 1) + 1) (some (.row [(.int .i64 2), (.int .i64 0), (.int .i64 1), .nslice, (.str []), (.int .i64 0), (.int .i64 0), (.int .i64 0), (.int .i64 2), (.int .i64 0), (.int .i64 1), .nslice, (.str []), (.int .i64 0), (.int .i64 0), (.int .i64 0), (.int .i64 1), (.int .i64 0), (.int .i64 8), .nslice, (.str (bitsL F)), (.int .i64 0), (.int .i64 0), (.int .i64 0), (.int .i64 1), (.int .i64 0), (.int .i64 8), .nslice, (.str [48, 48, 48, 48, 48, 48, 48, 49]), (.int .i64 0), (.int .i64 0), (.int .i64 0), (.int .i64 7), (.int .i64 0), (.int .i64 8), (.slice n3 0 2 2 1 true), (.str []), (.int .i64 0), (.int .i64 0), (.int .i64 0), (.int .i64 3), (.int .i64 13), (.int .i64 8), (.slice (n3 + 1) 0 2 2 1 true), (.str []), (.int .i64 0), (.int .i64 0), (.int .i64 0), (.int .i64 4), (.int .i64 0), (.int .i64 8), (.slice ((n3 + 1) + 1) 0 3 3 1 true), (.str []), (.int .i64 0), (.int .i64 0), (.int .i64 0)] true))) => ?_)))))))))
 refine r_heap (o_bslice (fill_cons ev_c rfl rfl (fill_cons ev_c rfl rfl (fill_cons ev_c rfl rfl fill_nil)))) rfl (fun t12 (hh13 : hv t12 = upd (hv t10) ((((n3 + 1) + 1) + 1) + 1) (some (.row [(.int .i64 0), (.int .i64 1), (.int .i64 4)] true))) => rO (o_build (fill_cons (eV (z1 ds)) rfl rfl (fill_cons eZ rfl rfl (fill_cons ev_c rfl rfl fill_nil)))) (r_heap (o_alloc) rfl (fun t14 (hh15 : hv t14 = upd (hv t12) (((((n3 + 1) + 1) + 1) + 1) + 1) (some (.row [.nslice, .nslice, (.int .i64 0)] true))) => r_heap (o_store (n := 3) eZ (eV (z1 ds)) (lS hh15) rfl rfl (leb rfl)) rfl (fun t16 (hh17 : hv t16 = upd (hv t14) (((((n3 + 1) + 1) + 1) + 1) + 1) (some (.row [(.slice (((n3 + 1) + 1) + 1) 0 7 7 8 true), (.slice ((((n3 + 1) + 1) + 1) + 1) 0 3 3 1 true), (.int .i64 3)] true))) => r_nil (k_seq (k_reg (rO (o_build (fill_cons ev_c rfl rfl (fill_cons ev_c rfl rfl fill_nil))) (rO (o_build (fill_cons ev_c rfl rfl (fill_cons ev_c rfl rfl fill_nil))) (rO (o_build (fill_cons ev_c rfl rfl (fill_cons ev_c rfl rfl (fill_cons ev_c rfl rfl fill_nil)))) (rO (o_build (fill_cons ev_c rfl rfl (fill_cons ev_c rfl rfl (fill_cons ev_c rfl rfl fill_nil)))) (rO (o_build (fill_cons ev_c rfl rfl (fill_cons ev_c rfl rfl (fill_cons ev_c rfl rfl fill_nil)))) (r_heap (o_bslice (fill_cons (eV (z4 ds)) rfl rfl (fill_cons (eV (z1 (z2 ds))) rfl rfl (fill_cons (eV (z2 ds)) rfl rfl (fill_cons (eV (z1 ds)) rfl rfl (fill_cons eZ rfl rfl fill_nil)))))) rfl (fun t18 (hh19 : hv t18 = upd (hv t16) ((((((n3 + 1) + 1) + 1) + 1) + 1) + 1) (some (.row [(.int .i64 0), (.int .i64 0), (.str [48]), (.int .i64 0), (.int .i64 1), (.str [49]), (.int .i64 1), (.int .i64 0), (.str [49]), (.int .i64 2), (.int .i64 0), (.str [48]), (.int .i64 2), (.int .i64 1), (.str [48])] true))) => ?_)))))))))))))
 refine m1 ds (r_nil (k_seq (k_seq (k_reg (rO (o_mov ev_c) (r_nil (k_block (k_loop (fun mm Tv tv nv => ∃ (i CL : Nat) (sv : AV), i ≤ n ∧ (Tv.get 1 = some (.int .i64 b) ∧ Tv.get 5 = some (.int .i64 ((n : Nat) : Int)) ∧ Tv.get 6 = some (.ptr (((((n3 + 1) + 1) + 1) + 1) + 1) 0) ∧ Tv.get 7 = some sv ∧ Tv.get 8 = some (.int .i64 ((i : Nat) : Int))) ∧ OG tv nv CL sv (sB ++ sF 0 i) ∧ ((((((n3 + 1) + 1) + 1) + 1) + 1) + 1) ≤ CL ∧ ((((((n3 + 1) + 1) + 1) + 1) + 1) + 1) < nv ∧ Keep t18 tv ((((((n3 + 1) + 1) + 1) + 1) + 1) + 1) (fun _ => False) ∧ mm + i = n) (fun mm Tv tv nv hI => ?_) (n) ⟨0, ((((((n3 + 1) + 1) + 1) + 1) + 1) + 1), _, by omega, ⟨(z1 (z2 (z4 (z8 (z16 get_same))))), (z2 (z8 (z16 ds))), (z1 (z8 ds)), (z1 ds), ds⟩, ⟨by omega, ⟨true, rfl⟩, (lS hh19)⟩, Nat.le_refl _, by omega, kR, by omega⟩))))))))
 obtain ⟨i, CL, sv, hi, ⟨q1, q5, q6, q7, q8⟩, hO, hCL, hnv, hkB, hmm⟩ := hI
 have hol := hO.lt
 refine k_seq (k_seq (k_reg (m1 q8 (m1 (z1 q5) (rO (o_lss (eV (z1 ds)) eZ) (r_nil ?_))))))
 refine k_if eZ (fun hc20 => ?_) (fun hc20 => ?_)
 · refine k_skip (k_seq (k_block ?_))
   have hll : (sB ++ sF 0 i).length = 5 + 2 * i := by rw [List.length_append, sF_len]; rfl
   refine k_reg (m1 (z1 (z2 q7)) (m1 (z4 q8) (rO (o_mulN (a := 2) (b := i) ev_c eZ (by omega)) (rO (o_addN (a := 3) (b := (2 * i)) ev_c eZ (by omega)) (rO (o_build (fill_cons eZ rfl rfl (fill_cons ev_c rfl rfl (fill_cons ev_c rfl rfl fill_nil)))) (m1 (z8 q8) (rO (o_mulN (a := 2) (b := i) ev_c eZ (by omega)) (rO (o_addN (a := 4) (b := (2 * i)) ev_c eZ (by omega)) (rO (o_build (fill_cons eZ rfl rfl (fill_cons ev_c rfl rfl (fill_cons ev_c rfl rfl fill_nil)))) (r_heap (o_bslice (fill_cons (eV (z4 ds)) rfl rfl (fill_cons eZ rfl rfl fill_nil))) rfl (fun t21 (hh22 : hv t21 = upd (hv tv) nv (some (.row [(.int .i64 ((3 + (2 * i) : Nat) : Int)), (.int .i64 0), (.str [49]), (.int .i64 ((4 + (2 * i) : Nat) : Int)), (.int .i64 0), (.str [48])] true))) => ?_)))))))))))
   refine r_heap (o_appE (eV (z1 (z8 ds))) eZ ((hO.keep (nx' := (nv + 1)) (show Keep tv t21 nv (fun b => False) from Keep.upd (Keep.refl tv nv _) hh22 (by first | exact .inl (by omega) | (right; first | exact rfl | (show _ ∨ _; omega) | omega))) (Nat.le_refl _) (fun h => h) (by omega)).app2 (a := ⟨((3 + 2 * i : Nat) : Int), 0, [49]⟩) (b := ⟨((4 + 2 * i : Nat) : Int), 0, [48]⟩) (lS hh22) (by omega))) rfl (fun ta ⟨hO2, hka⟩ => ?_)
   refine m1 ds (r_nil (k_reg (m1 (z1 (z2 (z4 (z8 q8)))) (rO (o_addN (a := i) (b := 1) eZ ev_c (by omega)) (m1 ds (r_nil ?_))))))
   exact ⟨n - (i + 1), by omega, i + 1, _, _, by omega, ⟨(z2 (z16 q1)), (z2 (z16 q5)), (z2 (z16 q6)), (z1 (z2 ds)), ds⟩, by rw [sF_snoc0]; exact hO2, by omega, by omega, Keep.trans hkB (show Keep tv ta nv (fun b => b = CL) from (show Keep tv ta nv (fun b => b = CL) from Keep.trans (Keep.upd (Keep.refl tv nv _) hh22 (by first | exact .inl (by omega) | (right; first | exact rfl | (show _ ∨ _; omega) | omega))) hka (by omega) ((fun _ _ h => h)))) (by omega) (fun b hb h_ => by have e_ : b = CL := h_; omega), by omega⟩
 refine k_exit (exK_same (k_seq ?_))
 obtain rfl : i = n := by omega
 have hb6 := hkB.look (by omega) id (lN hh19 (lS hh17))
 have hNb := hkB.look (by omega) id (lN hh19 (lN hh17 (lN hh15 (lN hh13 (lS hh11)))))
 have hTb := hkB.look (by omega) id (lN hh19 (lN hh17 (lN hh15 (lS hh13))))
 have hi1 := hkB.look (by omega) id (lN hh19 (lN hh17 (lN hh15 (lN hh13 (lN hh11 (lN hh9 (lN hh7 (lS hh5))))))))
 have hi2 := hkB.look (by omega) id (lN hh19 (lN hh17 (lN hh15 (lN hh13 (lN hh11 (lN hh9 (lS hh7)))))))
 have hi3 := hkB.look (by omega) id (lN hh19 (lN hh17 (lN hh15 (lN hh13 (lN hh11 (lS hh9))))))
 have hbV := bitsL_V F; have hbl := bitsL_len F
 refine k_reg (rO (o_loadA (n := 3) (eV (z1 (z2 q6))) hb6 (leb rfl) rfl) (m1 (z4 q7) ?_))
 have hfl : (fB F ++ fF F 0 i).length = 6 + 3 * i := by rw [List.length_append, fF_len]; rfl
 have hsl : (sB ++ sF 0 i).length = 5 + 2 * i := by rw [List.length_append, sF_len]; rfl
 have hNR : NR tv nv (.slice (((n3 + 1) + 1) + 1) 0 7 7 8 true) (.slice ((((n3 + 1) + 1) + 1) + 1) 0 3 3 1 true) (cns (bitsL F)) cts := ⟨cns_row (by omega) hNb ⟨by omega, hi1⟩ ⟨by omega, hi2⟩ ⟨by omega, hi3⟩, cts_row (by omega) hTb, cns_g hbV hbl, by show 7 ≤ 4096; decide, by show 3 ≤ 90; decide, (cns_M hbV hbl).nets, fun x hx => (cns_long _ hbV x hx).1⟩
 refine r_call (w_callF (evs_cons (eV (z1 ds)) (evs_cons eZ (evs_cons ev_c evs_nil)))) rfl (WF.mono (run_ok (ns := cns (bitsL F)) (ts := cts) (cs := sB ++ sF 0 i) (h := 1000) (Φ := fun _ fin => fin = fB F ++ fF F 0 i) hNR (Nat.le_refl _) (cns_L _) (cns_M hbV hbl) (cns_long _ hbV) (cns_8 _) (by show 0 < 7; decide) (by show 7 < 20; decide) (by show 0 < 3; decide) ((hO.keep (nx' := nv) (show Keep tv tv nv (fun b => False) from Keep.refl tv nv _) (Nat.le_refl _) (fun h => h) (by omega)).rowC (by omega)) (by omega) (sC_P (by omega)) (fun gs hp ho => ⟨_, _, (by omega : 2 * i + 1 + 1 + 1 ≤ 16383), by omega, cns_full (by omega) (by omega) hp ho, rfl⟩)) ?_)
 rintro _ t23 n24 ⟨a1, a2, lv, P, LB, lo, gs, fin_, rfl, hpm, hord, hPhi, hPr, hOY, hP1, hP2, hlo, hc1, hc2, hn_r, hk_r⟩
 subst hPhi
 rcases hOY.v with ⟨-, hnil, -⟩ | ⟨hlve, hlr, -⟩
 · rw [hnil] at hfl; simp at hfl; omega
 subst hlve
 have hLBn := hOY.lt
 obtain ⟨fin, hfin⟩ : ∃ z, z = fB F ++ fF F 0 i := ⟨_, rfl⟩
 rw [← hfin] at hlr hfl
 have hfa := fin_at (n := i) (show F < 256 by omega)
 have hfc := fin_all F i
 rw [← hfin] at hfa hfc
 rw [← hfin]
 refine m1 ds (rO (o_extr eZ rfl) (rO (o_extr (eV (z1 ds)) rfl) (r_heap (o_alloc) rfl (fun t25 (hh26 : hv t25 = upd (hv t23) n24 (some (.row [.nslice, .nslice, .nslice, .nslice] true))) => r_heap (o_store (n := 4) eZ (eV (z2 ds)) (lS hh26) rfl (cell4 hc1 hc2 rfl rfl) (leb rfl)) rfl (fun t27 (hh28 : hv t27 = upd (hv t25) n24 (some (.row [a1, a2, (.slice P 0 3 3 1 false), (.slice LB 0 fin.length fin.length 3 false)] true))) => m1 (z2 ds) (r_nil (k_seq (k_seq (k_reg (m1 ds (rO (ndec_f (o_neq eZ ev_c) (by simp)) (r_nil (k_cond_f eZ (k_skip (k_seq (k_reg (rO (o_mov ev_c) (r_nil (k_seq (k_seq (k_reg (rO (o_mov ev_c) (r_nil (k_block ?_))))))))))))))))))))))))
 have hB9 := (lS hh28)
 have hLB := (lN hh28 (lN hh26 hlr))
 refine k_loop (fun mm Tz tz nz => ∃ (j k : Nat), j ≤ fin.length ∧ k = cnt2 (fin.take j) ∧ (Tz.get 1 = some (.int .i64 b) ∧ Tz.get 5 = some (.int .i64 ((i : Nat) : Int)) ∧ Tz.get 9 = some (.ptr n24 0) ∧ Tz.get 11 = some (.int .i64 ((k : Nat) : Int)) ∧ Tz.get 12 = some (.int .i64 ((j : Nat) : Int))) ∧ hv tz n24 = some (.row [a1, a2, (.slice P 0 3 3 1 false), (.slice LB 0 fin.length fin.length 3 false)] true) ∧ hv tz LB = some (.row (flatC3 fin) true) ∧ (n24 + 1) ≤ nz ∧ mm + j = fin.length) (fun mm Tz tz nz hI => ?_) (fin.length) ⟨0, 0, by omega, rfl, ⟨(z16 q1), (z16 q5), (z2 (z4 ds)), (z1 ds), ds⟩, hB9, hLB, Nat.le_refl _, by omega⟩
 obtain ⟨j, k, hj, hkj, ⟨qz1, qz5, qz9, qz11, qz12⟩, hB9z, hLBz, hnz, hmz⟩ := hI
 refine k_seq (k_seq (k_reg (m1 qz12 (rO (o_faddr (off := 3) (eV (z1 qz9))) (rO (o_load eZ hB9z rfl) (rO (o_len_slice eZ) (rO (o_lss (eV (z1 (z2 ds))) eZ) (r_nil ?_))))))))
 refine k_if eZ (fun hc29 => ?_) (fun hc29 => ?_)
 · refine k_skip (k_seq (k_block (k_seq ?_)))
   obtain ⟨c, hc_⟩ := some_at (l := fin) (i := j) (by omega)
   have hk1 : cnt2 (fin.take j) ≤ j := Nat.le_trans (List.length_filter_le _ _) (by rw [List.length_take]; omega)
   refine k_reg (rO (o_faddr (off := 3) (eV (z1 (z4 qz9)))) (rO (o_load eZ hB9z rfl) (m1 (z1 (z2 (z4 qz12))) (rO (o_iaddr (i := j) (eV (z1 ds)) eZ (by omega)) ?_))))
   refine rO (o_loadA (n := 3) eZ hLBz (by rw [flatC3_len]; omega) (chg_all hc_)) ?_
   refine r_heap (o_alloc) rfl (fun t30 (hh31 : hv t30 = upd (hv tz) nz (some (.row [(.int .i64 0), (.int .i64 0), (.str [])] true))) => r_heap (o_store (n := 3) eZ (eV (z1 ds)) (lS hh31) rfl rfl (leb rfl)) rfl (fun t32 (hh33 : hv t32 = upd (hv t30) nz (some (.row [(.int .i64 c.at_), (.int .i64 c.net), (.str c.val)] true))) => r_nil (k_seq (k_reg (rO (o_faddr (off := 1) (eV (z1 ds))) (rO (o_load eZ (lS hh33) rfl) (rO (o_eql eZ ev_c) (r_nil ?_))))))))
   refine k_if eZ (fun hc34 => ?_) (fun hc34 => ?_)
   · refine k_seq (k_seq ?_)
     have hcn : c.net = 2 := by omega
     have hfa_ := hfa j c hc_ hcn
     rw [← hkj] at hfa_
     refine k_draw (eO 0 rfl (o_faddr (off := 2) (eV (z4 ds))) (eO 1 rfl (o_load eZ (lS hh33) rfl) (eO 2 rfl (o_mov (eV (z1 (z16 qz1)))) (eO 3 rfl (o_and_eq (m := 255) eZ ev_c hb2) (eO 4 rfl (o_mov (eV (z1 (z2 (z16 qz11))))) (eO 5 rfl (o_addN (a := F) (b := k) (eV (z1 ds)) eZ (by omega)) (eO 6 rfl (o_and_eq (m := 255) (r := (F + k) % 256) eZ ev_c (land_mod 8 rfl (by omega) (by decide))) (d_call (ix := 7) (pr := [6]) (d := (some 85)) (g := none) (F' := [(⟨1, [0], .o 79 (.load (.t 78))⟩, (.str c.val)), (⟨0, [], .o 78 (.faddr (.t 13) 2)⟩, (.ptr nz 2))]) (w_callF (evs_cons eZ evs_nil)) rfl (by kernel_rfl) (by kernel_rfl) (by kernel_rfl) (by kernel_rfl) (WF.mono (bits_ok (r := ((F + k) % 256)) (by omega)) ?_)))))))))
     rintro _ t36 n37 ⟨rfl, hnb35, hkb35⟩
     refine ⟨?_, ?_⟩
     · exact (all_cons_ (still_op rfl rfl (o_load (eV (z1 (z2 (z4 ds)))) (Keep.look hkb35 (by omega) id (lS hh33)) rfl) (aeq_flat rfl)) (all_cons_ (still_op rfl rfl (o_faddr (off := 2) (eV (z4 (z8 ds)))) (aeq_flat rfl)) all_nil_))
     refine eO 8 rfl (ndec_f (o_str_neq (eV (z2 (z4 ds))) eZ) hfa_.2) (eO 9 rfl (o_mov eZ) (e_op 10 rfl (o_faddr (off := 0) (eV (z2 (z4 (z8 ds))))) (want_on ds) (e_op 11 rfl (o_load eZ (Keep.look hkb35 (by omega) id (lS hh33)) rfl) (want_on (z1 ds)) (e_op 12 rfl (o_mov (eV (z1 (z2 (z8 (z16 qz11)))))) (want_on (z2 ds)) (e_op 13 rfl (o_mulN (a := 2) (b := k) ev_c eZ (by omega)) (want_on (z1 (z2 ds))) (e_op 14 rfl (o_addN (a := 1) (b := (2 * k)) ev_c eZ (by omega)) (want_on (z4 ds)) ?_))))))
     refine e_op 15 rfl (ndec_f (o_neq (eV (z1 (z2 ds))) eZ) (by have h_ := hfa_.1; omega)) (want_on (z1 (z4 ds))) ?_
     refine eO 16 rfl (o_pick_f (eV (z2 (z4 ds))) eZ) (e_done (k_cond_f eZ (k_skip (k_reg (m1 (z16 (z16 qz11)) (rO (o_addN (a := k) (b := 1) eZ ev_c (by omega)) (m1 ds (r_nil (k_reg (m1 (z1 (z2 (z16 (z16 qz12)))) (rO (o_addN (a := j) (b := 1) eZ ev_c (by omega)) (m1 ds (r_nil ?_)))))))))))))
     have hct := cnt_take hc_
     exact ⟨fin.length - (j + 1), by omega, j + 1, k + 1, by omega, by rw [hct, if_pos (by omega), hkj], ⟨(z2 (z4 (z16 (z16 qz1)))), (z2 (z4 (z16 (z16 qz5)))), (z2 (z4 (z16 (z16 qz9)))), (z1 (z2 ds)), ds⟩, (Keep.look hkb35 (by omega) id (lN hh33 (lN hh31 hB9z))), (Keep.look hkb35 (by omega) id (lN hh33 (lN hh31 hLBz))), by omega, by omega⟩
   refine k_skip (k_reg (m1 (z1 (z2 (z4 (z8 qz12)))) (rO (o_addN (a := j) (b := 1) eZ ev_c (by omega)) (m1 ds (r_nil ?_)))))
   have hct := cnt_take hc_
   exact ⟨fin.length - (j + 1), by omega, j + 1, k, by omega, by rw [hct, if_neg (by omega), Nat.add_zero, hkj], ⟨(z2 (z16 qz1)), (z2 (z16 qz5)), (z2 (z16 qz9)), (z2 (z16 qz11)), ds⟩, (lN hh33 (lN hh31 hB9z)), (lN hh33 (lN hh31 hLBz)), by omega, by omega⟩
 refine k_exit (exK_same (k_seq ?_))
 have hkn : k = i + 1 := by rw [hkj, List.take_of_length_le (by omega)]; exact hfc
 refine k_reg (m1 (z1 (z4 qz11)) (m1 (z2 (z4 qz5)) (rO (o_addN (a := i) (b := 1) eZ ev_c (by omega)) (rO (dec_t (o_eql (eV (z2 ds)) eZ) (by omega)) (m1 ds (r_call (w_callF evs_nil) (want_on ds) (WF.mono ((k_prim (Q := fun v t' nx' => v = .bool true) awake0_tab rfl rfl)) ?_)))))))
 rintro _ t38 n39 rfl
 refine rO (o_pick_t (eV (z1 ds)) eZ) (m1 ds (r_nil (k_ret ?_)))
 exact ⟨_, ans_tmp ds, rfl⟩
end
end Go.Proofs.YtpjohgnhmjceiaaGreatDoor.WX
