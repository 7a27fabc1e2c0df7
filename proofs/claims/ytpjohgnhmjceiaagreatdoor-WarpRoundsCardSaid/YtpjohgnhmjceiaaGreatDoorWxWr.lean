/- The program's functions in the evaluator's terms: warp.Rounds and Round, and the law: what each of them answers, whatever comes in.
   Conditions: those of each theorem. -/
import Derived.Test.YtpjohgnhmjceiaaGreatDoorWx4
set_option linter.all false
set_option linter.unusedVariables false
set_option linter.unusedSectionVars false
set_option maxRecDepth 100000
open Go Go.Proofs.YtpjohgnhmjceiaaGreatDoor.AX Go.Proofs
namespace Go.Proofs.YtpjohgnhmjceiaaGreatDoor.WX
variable [Env]
theorem rowM_get {r ivs : List AV} {o n i : Nat} {iv : AV} (h : (r.drop o).take n = ivs) (hi : ivs[i]? = some iv) : r[o + i]? = some iv := by
 rw [← h, List.getElem?_take] at hi
 split at hi
 · rw [List.getElem?_drop] at hi; exact hi
 · cases hi
theorem RowM.cell {t : TB} {bd : Nat} {v : AV} {A : List (List Int)} (h : RowM t bd v A) : isCell v = true := by
 rcases h with ⟨rfl, -⟩ | ⟨d, o, c, ex, wr, r, ivs, rfl, -⟩ <;> rfl
/-- Picks of a kind, numbered. -/
def pks (k : Int) (n : Nat) : List (Int × Int) := (List.range n).map (fun (i : Nat) => (k, (i : Int)))
theorem pks_len (k : Int) (n : Nat) : (pks k n).length = n := by simp [pks]
theorem pks_snoc (k : Int) (n : Nat) : pks k n ++ [(k, (n : Int))] = pks k (n + 1) := by simp [pks, List.range_succ]
theorem pks_at {k : Int} {n i : Nat} (h : i < n) : (pks k n)[i]? = some (k, (i : Int)) := by simp [pks, h]
theorem tot_few {A : List (List Int)} (h : A.length ≤ 64) (hr : ∀ l ∈ A, l.length ≤ 64) (i : Nat) : tot (A.take i) ≤ 4096 :=
 Nat.le_trans (tot_le (w := 64) (fun l hl => hr l (List.mem_of_mem_take hl))) (by rw [List.length_take]; omega)
theorem pos_few {l : List Int} (h : l.length ≤ 64) (j : Nat) : pos (l.take j) ≤ 64 := Nat.le_trans (pos_le _) (by rw [List.length_take]; omega)
theorem tot_all {A : List (List Int)} {i : Nat} (h : A.length ≤ i) : tot (A.take i) = tot A := by rw [List.take_of_length_le h]
theorem pos_all {l : List Int} {i : Nat} (h : l.length ≤ i) : pos (l.take i) = pos l := by rw [List.take_of_length_le h]
theorem RowQ.mono_ {t : TB} {lo lo' bd bd' : Nat} {v : AV} {ps : List (Int × Int)} (h : RowQ t lo bd v ps) (h1 : lo' ≤ lo) (h2 : bd ≤ bd') : RowQ t lo' bd' v ps := by
 rcases h with h | ⟨d, a, b, c, e⟩
 · exact .inl h
 · exact .inr ⟨d, a, by omega, by omega, e⟩

def wrounds_r0 : List Ins := [.o 2 (.box (.t 0)),
 .o 4 (.mov (kI 0)),
 .o 5 (.mov (kI 0))]
def wrounds_r1 : List Ins := [.o 6 (.faddr (.t 2) 1),
 .o 7 (.load (.t 6)),
 .o 8 (.bin .lss (.t 7) (kI 1)),
 .mv 9 8,
 .g 10 9 false (.mov (.t 1)),
 .g 11 9 false (.bin .lss (.t 10) (kI 0)),
 .o 12 (.pick (.t 9) (.c (.bool true)) (.t 11)),
 .mv 13 12,
 .g 14 13 false (.mov (.t 1)),
 .g 15 13 false (.bin .gtr (.t 14) (kI 1048576)),
 .o 16 (.pick (.t 13) (.c (.bool true)) (.t 15))]
def wrounds_r2 : List Ins := [.o 4 (.mov (kI 0)),
 .o 5 (.mov (kI 1))]
def wrounds_r3 : List Ins := [.mv 17 1,
 .o 18 (.bin .add (.t 17) (kI 2)),
 .mv 4 18,
 .o 5 (.mov (kI 0))]
def wrounds_c : IC := (.seq (.reg wrounds_r0) (.seq (.seq (.reg wrounds_r1) (.cond (.t 16) (.seq (.reg wrounds_r2) .ret) .skip)) (.seq (.reg wrounds_r3) .ret)))
theorem wrounds_tab : tb 40 = some (.code 2 19 wrounds_c [.tmp 4, .tmp 5]) := by kernel_rfl
theorem wrounds_ok {t : TB} {nx : Nat} (ov av_ : AV) (N h : Int) : WF tb 40 [.agg [ov, .int .i64 N, av_], .int .i64 h] t nx (fun v t' nx' => ∃ a e : Int, v = .tup [.int .i64 a, .int .i64 e] ∧ (1 ≤ N ∧ 0 ≤ h ∧ h ≤ 1048576 → a = h + 2 ∧ e = 0) ∧ (N < 1 ∨ h < 0 ∨ 1048576 < h → a = 0 ∧ e = 1) ∧ nx ≤ nx' ∧ Keep t t' nx (fun _ => False)) := by
 refine k_fun wrounds_tab rfl ?_
 unfold wrounds_c
 change WC _ _ (TA.put (some _) (TA.put (some _) TA.e 0) 1) _ _ _
 refine k_seq (k_reg (r_heap (o_box (eV (get_other rfl get_same))) rfl (fun t1 (hh2 : hv t1 = upd (hv t) nx (some (.row [ov, (.int .i64 N), av_] true))) => rO (o_mov ev_c) (rO (o_mov ev_c) (r_nil (k_seq (k_seq (k_reg (rO (o_faddr (off := 1) (eV (z2 ds))) (rO (o_load eZ (lS hh2) rfl) ?_))))))))))
 by_cases hs3 : (N < 1)
 · refine rO (dec_t (o_lss eZ ev_c) hs3) (m1 ds (r_off (wN ds) (r_off (wN (z1 ds)) (rO (o_pick_t (eV (z2 ds)) ev_c) (m1 ds (r_off (wN ds) (r_off (wN (z1 ds)) (rO (o_pick_t (eV (z2 ds)) ev_c) (r_nil (k_cond_t eZ (k_seq (k_reg (rO (o_mov ev_c) (rO (o_mov ev_c) (r_nil (k_ret ?_))))))))))))))))
   exact ⟨_, ans_two (res_tmp (z1 ds) (res_tmp ds res_nil)), _, _, rfl, (by omega), (by omega), by omega, kU kR hh2⟩
 refine rO (dec_f (o_lss eZ ev_c) hs3) (m1 ds (r_op (o_mov (eV (z1 (z2 (z4 get_same))))) (want_on ds) ?_))
 by_cases hs4 : (h < 0)
 · refine r_op (dec_t (o_lss eZ ev_c) hs4) (want_on (z1 ds)) (rO (o_pick_f (eV (z2 ds)) eZ) (m1 ds (r_off (wN ds) (r_off (wN (z1 ds)) (rO (o_pick_t (eV (z2 ds)) ev_c) (r_nil (k_cond_t eZ (k_seq (k_reg (rO (o_mov ev_c) (rO (o_mov ev_c) (r_nil (k_ret ?_)))))))))))))
   exact ⟨_, ans_two (res_tmp (z1 ds) (res_tmp ds res_nil)), _, _, rfl, (by omega), (by omega), by omega, kU kR hh2⟩
 refine r_op (dec_f (o_lss eZ ev_c) hs4) (want_on (z1 ds)) (rO (o_pick_f (eV (z2 ds)) eZ) (m1 ds (r_op (o_mov (eV (z1 (z2 (z8 get_same))))) (want_on ds) (r_op (o_gtr eZ ev_c) (want_on (z1 ds)) (rO (o_pick_f (eV (z2 ds)) eZ) (r_nil ?_))))))
 refine k_if eZ (fun hc5 => ?_) (fun hc5 => ?_)
 · refine k_seq (k_reg (rO (o_mov ev_c) (rO (o_mov ev_c) (r_nil (k_ret ?_)))))
   exact ⟨_, ans_two (res_tmp (z1 ds) (res_tmp ds res_nil)), _, _, rfl, (by omega), (by omega), by omega, kU kR hh2⟩
 refine k_skip (k_seq (k_reg (m1 (z2 (z4 (z8 get_same))) (rO (o_add eZ ev_c (by omega) (by omega)) (m1 ds (rO (o_mov ev_c) (r_nil (k_ret ?_))))))))
 exact ⟨_, ans_two (res_tmp (z1 ds) (res_tmp ds res_nil)), _, _, rfl, (by omega), (by omega), by omega, kU kR hh2⟩
def wround_r0 : List Ins := [.o 1 (.box (.t 0)),
 .o 2 (.mov (.c .nslice))]
def wround_r1 : List Ins := [.o 5 (.faddr (.t 1) 1),
 .o 6 (.load (.t 5)),
 .o 7 (.bin .lss (.t 6) (kI 1)),
 .mv 8 7,
 .g 9 8 false (.faddr (.t 1) 1),
 .g 10 8 false (.load (.t 9)),
 .g 11 8 false (.bin .gtr (.t 10) (kI 64)),
 .o 12 (.pick (.t 8) (.c (.bool true)) (.t 11))]
def wround_r2 : List Ins := [.o 2 (.mov (.c .nslice))]
def wround_r3 : List Ins := [.o 3 (.mov (.c .nslice))]
def wround_r4 : List Ins := [.o 13 (.faddr (.t 1) 1),
 .o 14 (.load (.t 13)),
 .o 15 (.mov (kI 0))]
def wround_r5 : List Ins := [.o 16 (.bin .lss (.t 15) (.t 14))]
def wround_r6 : List Ins := [.mv 17 15,
 .mv 4 17]
def wround_r7 : List Ins := [.mv 18 3,
 .mv 19 4,
 .o 20 (.build [(.int .i64 0), (.int .i64 0)] [(0, 1, (kI 1)), (1, 1, (.t 19))]),
 .o 21 (.bslice 2 1 [(.int .i64 0), (.int .i64 0)] [(0, 2, (.t 20))]),
 .o 22 (.app 2 (.t 18) (.t 21)),
 .mv 3 22]
def wround_r8 : List Ins := [.o 23 (.bin .add (.t 15) (kI 1)),
 .mv 15 23]
def wround_r9 : List Ins := [.mv 24 3,
 .o 25 (.build [(.int .i64 0), (.int .i64 0)] [(0, 1, (kI 3))]),
 .o 26 (.bslice 2 1 [(.int .i64 0), (.int .i64 0)] [(0, 2, (.t 25))]),
 .o 27 (.app 2 (.t 24) (.t 26)),
 .mv 2 27]
def wround_c : IC := (.seq (.reg wround_r0) (.seq (.seq (.reg wround_r1) (.cond (.t 12) (.seq (.reg wround_r2) .ret) .skip)) (.seq (.reg wround_r3) (.seq (.seq (.reg wround_r4) (.block 0 (.loop (.seq (.reg wround_r5) (.seq (.cond (.t 16) .skip (.exit 0)) (.seq (.block 1 (.seq (.reg wround_r6) (.reg wround_r7))) (.reg wround_r8))))))) (.seq (.reg wround_r9) .ret)))))
theorem wround_tab : tb 41 = some (.code 1 28 wround_c [.tmp 2]) := by kernel_rfl
theorem wround0_ok {t : TB} {nx : Nat} (ov av_ : AV) : WF tb 41 [.agg [ov, .int .i64 0, av_]] t nx (fun v t' nx' => v = .nslice ∧ nx ≤ nx' ∧ Keep t t' nx (fun _ => False)) := by
 refine k_fun wround_tab rfl ?_
 unfold wround_c
 change WC _ _ (TA.put (some _) TA.e 0) _ _ _
 refine k_seq (k_reg (r_heap (o_box (eV get_same)) rfl (fun t1 (hh2 : hv t1 = upd (hv t) nx (some (.row [ov, (.int .i64 0), av_] true))) => rO (o_mov ev_c) (r_nil (k_seq (k_seq (k_reg (rO (o_faddr (off := 1) (eV (z1 ds))) (rO (o_load eZ (lS hh2) rfl) (rO (dec_t (o_lss eZ ev_c) (by simp)) (m1 ds (r_off (wN ds) (r_off (wN (z1 ds)) (r_off (wN (z2 ds)) (rO (o_pick_t (eV (z1 (z2 ds))) ev_c) (r_nil (k_cond_t eZ (k_seq (k_reg (rO (o_mov ev_c) (r_nil (k_ret ?_))))))))))))))))))))))
 exact ⟨_, ans_tmp ds, rfl, by omega, kU kR hh2⟩
set_option maxHeartbeats 4000000 in
theorem wround_ok {t : TB} {nx N : Nat} (ov av_ : AV) (h1 : 1 ≤ N) (h2 : N ≤ 64) : WF tb 41 [.agg [ov, .int .i64 (N : Int), av_]] t nx (fun v t' nx' => RowQ t' nx nx' v (pks 1 N ++ [(3, 0)]) ∧ nx ≤ nx' ∧ Keep t t' nx (fun _ => False)) := by
 refine k_fun wround_tab rfl ?_
 unfold wround_c
 change WC _ _ (TA.put (some _) TA.e 0) _ _ _
 refine k_seq (k_reg (r_heap (o_box (eV get_same)) rfl (fun t1 (hh2 : hv t1 = upd (hv t) nx (some (.row [ov, (.int .i64 ((N : Nat) : Int)), av_] true))) => rO (o_mov ev_c) (r_nil (k_seq (k_seq (k_reg (rO (o_faddr (off := 1) (eV (z1 ds))) (rO (o_load eZ (lS hh2) rfl) ?_)))))))))
 by_cases hs3 : (((N : Nat) : Int) < 1)
 · refine rO (dec_t (o_lss eZ ev_c) hs3) (m1 ds (r_off (wN ds) (r_off (wN (z1 ds)) (r_off (wN (z2 ds)) (rO (o_pick_t (eV (z1 (z2 ds))) ev_c) (r_nil (k_cond_t eZ (k_seq (k_reg (rO (o_mov ev_c) (r_nil (k_ret ?_))))))))))))
   exfalso; omega
 refine rO (dec_f (o_lss eZ ev_c) hs3) (m1 ds (r_op (o_faddr (off := 1) (eV (z1 (z4 ds)))) (want_on ds) (r_op (o_load eZ (lS hh2) rfl) (want_on (z1 ds)) (r_op (o_gtr eZ ev_c) (want_on (z2 ds)) (rO (o_pick_f (eV (z1 (z2 ds))) eZ) (r_nil ?_))))))
 refine k_if eZ (fun hc4 => ?_) (fun hc4 => ?_)
 · refine k_seq (k_reg (rO (o_mov ev_c) (r_nil (k_ret ?_))))
   exfalso; omega
 refine k_skip (k_seq (k_reg (rO (o_mov ev_c) (r_nil (k_seq (k_seq (k_reg (rO (o_faddr (off := 1) (eV (z2 (z8 ds)))) (rO (o_load eZ (lS hh2) rfl) (rO (o_mov ev_c) (r_nil (k_block (k_loop (fun mm Ta ta na => ∃ (i : Nat) (q : AV), (i ≤ N) ∧ (nx + 1 ≤ na) ∧ (RowQ ta (nx + 1) na q (pks 1 i)) ∧ (hv ta nx = some (.row [ov, .int .i64 ((N : Nat) : Int), av_] true)) ∧ (Ta.get 1 = some (.ptr nx 0) ∧ Ta.get 3 = some q ∧ Ta.get 14 = some (.int .i64 ((N : Nat) : Int)) ∧ Ta.get 15 = some (.int .i64 ((i : Nat) : Int))) ∧ nx ≤ na ∧ Keep t ta nx (fun _ => False) ∧ mm + i = N) (fun mm Ta ta na hI => ?_) (N) ⟨0, .nslice, by omega, by omega, .inl ⟨rfl, rfl⟩, (lS hh2), ⟨(z1 (z4 (z8 ds))), (z1 (z2 ds)), (z1 ds), ds⟩, by omega, kU kR hh2, by omega⟩)))))))))))))
 obtain ⟨i, q, hi, hna2, hQ, hrB, ⟨qa1, qa3, qa14, qa15⟩, hna, hka, hmm⟩ := hI
 refine k_seq (k_reg (rO (o_lss (eV qa15) (eV qa14)) (r_nil (k_seq ?_))))
 refine k_if eZ (fun hc5 => ?_) (fun hc5 => ?_)
 · refine k_skip (k_seq (k_block (k_seq (k_reg (m1 (z1 qa15) (m1 ds (r_nil (k_reg (m1 (z1 (z2 qa3)) (m1 (z1 ds) (rO (o_build (fill_cons ev_c rfl rfl (fill_cons eZ rfl rfl fill_nil))) (r_heap (o_bslice (fill_cons eZ rfl rfl fill_nil)) rfl (fun t6 (hh7 : hv t6 = upd (hv ta) na (some (.row [(.int .i64 1), (.int .i64 ((i : Nat) : Int))] true))) => ?_)))))))))))))
   refine r_heap (o_appE (eV (z1 (z2 ds))) eZ (app_Q (lo := (nx + 1)) (p := (1, ((i : Nat) : Int))) (hQ.keep (fun d h1 h2 => ((congrFun hh7 d).trans (upd_ne _ _ _ _ (by omega)))) (Nat.le_refl _)) (by omega) (lS hh7) (by rw [pks_len]; omega))) rfl (fun tz_ ⟨hQ2, hkq⟩ => ?_)
   refine m1 ds (r_nil (k_reg (rO (o_addN (a := i) (b := 1) (eV (z1 (z8 qa15))) ev_c (by omega)) (m1 ds (r_nil ?_)))))
   exact ⟨N - (i + 1), by omega, i + 1, (.slice (na + 1) 0 ((pks 1 i).length + 1) ((pks 1 i).length + 1) 2 false), by omega, by omega, by rw [← pks_snoc]; exact hQ2, (Keep.look hkq (by omega) (fun h_ => absurd (show (nx + 1) ≤ nx from h_) (by omega)) (lN hh7 hrB)), ⟨(z1 (z2 (z8 qa1))), (z2 ds), (z1 (z2 (z8 qa14))), ds⟩, by omega, Keep.trans (kU (hka) hh7) hkq (by omega) ((fun b hb e => absurd (show (nx + 1) ≤ b from e) (by omega))), by omega⟩
 refine k_exit (exK_same (k_seq (k_reg (m1 (z1 qa3) (rO (o_build (fill_cons ev_c rfl rfl fill_nil)) (r_heap (o_bslice (fill_cons eZ rfl rfl fill_nil)) rfl (fun t8 (hh9 : hv t8 = upd (hv ta) na (some (.row [(.int .i64 3), (.int .i64 0)] true))) => ?_)))))))
 refine r_heap (o_appE (eV (z2 ds)) eZ (app_Q (lo := (nx + 1)) (p := (3, 0)) (hQ.keep (fun d h1 h2 => ((congrFun hh9 d).trans (upd_ne _ _ _ _ (by omega)))) (Nat.le_refl _)) (by omega) (lS hh9) (by rw [pks_len]; omega))) rfl (fun tz_ ⟨hQ2, hkq⟩ => ?_)
 refine m1 ds (r_nil (k_ret ?_))
 have hiN : i = N := by omega
 subst hiN
 exact ⟨_, ans_tmp ds, hQ2.mono_ (by omega) (by omega), by omega, Keep.trans (kU (hka) hh9) hkq (by omega) ((fun b hb e => absurd (show (nx + 1) ≤ b from e) (by omega)))⟩
theorem o_same2 {T : TA} {t : TB} {nx : Nat} {x y : Opd} {a b : Int} (hx : x.ev T = some (.agg [.int .i64 a, .int .i64 b])) (hy : y.ev T = some (.agg [.int .i64 a, .int .i64 b])) : (IOp.eqv true (.agg [(0, .int), (1, .int)]) x y).run T t nx = .ok (.bool false) t nx := by
 have c : ∀ z : Int, cellEq .int (.int .i64 z) (.int .i64 z) = some true := fun z => by
   show (match Nat.beq (kN .i64) (kN .i64) with | true => some (iEq z z) | false => none) = _
   rw [iEq_eq]; simp
 have e : eqA (.agg [(0, .int), (1, .int)]) (.agg [.int .i64 a, .int .i64 b]) (.agg [.int .i64 a, .int .i64 b]) = some true := by
   show (match cellEq .int (.int .i64 a) (.int .i64 a) with | some true => (match cellEq .int (.int .i64 b) (.int .i64 b) with | some true => some true | some false => some false | none => none) | some false => some false | none => none) = some true
   rw [c, c]
 simp only [IOp.run, hx, hy, e]
 rfl
theorem cell3 {a b : AV} {n : Int} (ha : isCell a = true) (hb : isCell b = true) : allCell [a, b, .int .i64 n] = true := by
 rw [allCell_iff]
 intro z hz
 simp only [List.mem_cons, List.not_mem_nil, or_false] at hz
 rcases hz with rfl | rfl | rfl
 · exact ha
 · exact hb
 · rfl
theorem cell3' {a b : AV} {n : Int} (ha : isCell a = true) (hb : isCell b = true) : allCell [a, .int .i64 n, b] = true := by
 rw [allCell_iff]
 intro z hz
 simp only [List.mem_cons, List.not_mem_nil, or_false] at hz
 rcases hz with rfl | rfl | rfl
 · exact ha
 · rfl
 · exact hb
theorem RowI.cell_ {t : TB} {bd : Nat} {v : AV} {l : List Int} (h : RowI t bd v l) : isCell v = true := h.cell
theorem WF.exv {f : FuncId} {vs : List AV} {t : TB} {nx : Nat} {Q : AV → TB → Nat → Prop} (h : WF tb f vs t nx Q) : WF tb f vs t nx (fun v t' nx' => ∃ q, q = v ∧ Q q t' nx') := h.mono (fun v _ _ h => ⟨v, rfl, h⟩)

end Go.Proofs.YtpjohgnhmjceiaaGreatDoor.WX

set_option linter.all false
set_option linter.unusedVariables false
set_option linter.unusedSectionVars false
set_option maxRecDepth 100000
open Go Go.Proofs.YtpjohgnhmjceiaaGreatDoor.AX Go.Proofs
namespace Go.Proofs.YtpjohgnhmjceiaaGreatDoor.WX
variable [Env]
def wlawr_r0 : List Ins := [.o 6 (.mov (.c (.bool false)))]
def wlawr_r1 : List Ins := [.mv 16 0,
 .f 17 13 [(.t 16)],
 .o 7 (.alloc [.nslice, .nslice, (.int .i64 0)]),
 .x (.store 3 (.t 7) (.t 17))]
def wlawr_r2 : List Ins := [.o 19 (.loadA 3 (.t 7)),
 .mv 20 1,
 .o 21 (.bin .and (.t 20) (kI 63)),
 .o 22 (.bin .add (kI 1) (.t 21)),
 .f 23 32 [(.t 19), (.t 22)],
 .mv 18 23,
 .o 24 (.extr (.t 18) 0),
 .o 25 (.extr (.t 18) 1),
 .o 8 (.alloc [.nslice, (.int .i64 0), .nslice]),
 .x (.store 3 (.t 8) (.t 24)),
 .mv 9 25]
def wlawr_r3 : List Ins := [.mv 26 9,
 .o 27 (.bin .neq (.t 26) (kI 0))]
def wlawr_r4 : List Ins := [.o 6 (.mov (.c (.bool false)))]
def wlawr_r5 : List Ins := [.o 29 (.loadA 3 (.t 8)),
 .mv 30 2,
 .f 31 40 [(.t 29), (.t 30)],
 .mv 28 31,
 .o 32 (.extr (.t 28) 0),
 .o 33 (.extr (.t 28) 1),
 .mv 10 32,
 .mv 11 33]
def wlawr_r6 : List Ins := [.mv 34 2,
 .o 35 (.bin .lss (.t 34) (kI 0)),
 .mv 36 35,
 .g 37 36 false (.mov (.t 2)),
 .g 38 36 false (.bin .gtr (.t 37) (kI 1048576)),
 .o 39 (.pick (.t 36) (.c (.bool true)) (.t 38))]
def wlawr_r7 : List Ins := [.mv 40 10,
 .o 41 (.bin .neq (.t 40) (kI 0)),
 .mv 42 41,
 .g 43 42 false (.mov (.t 11)),
 .g 44 42 false (.bin .neq (.t 43) (kI 1)),
 .o 45 (.pick (.t 42) (.c (.bool true)) (.t 44))]
def wlawr_r8 : List Ins := [.o 6 (.mov (.c (.bool false)))]
def wlawr_r9 : List Ins := [.mv 46 10,
 .mv 47 2,
 .o 48 (.bin .add (.t 47) (kI 2)),
 .o 49 (.bin .neq (.t 46) (.t 48)),
 .mv 50 49,
 .g 51 50 false (.mov (.t 11)),
 .g 52 50 false (.bin .neq (.t 51) (kI 0)),
 .o 53 (.pick (.t 50) (.c (.bool true)) (.t 52))]
def wlawr_r10 : List Ins := [.o 6 (.mov (.c (.bool false)))]
def wlawr_r11 : List Ins := [.o 54 (.loadA 3 (.t 8)),
 .f 55 41 [(.t 54)],
 .mv 12 55]
def wlawr_r12 : List Ins := [.mv 56 12,
 .o 57 (.len .slc (.t 56)),
 .o 58 (.faddr (.t 8) 1),
 .o 59 (.load (.t 58)),
 .o 60 (.bin .add (.t 59) (kI 1)),
 .o 61 (.bin .neq (.t 57) (.t 60)),
 .mv 62 61,
 .g 63 62 false (.mov (.t 12)),
 .g 64 62 false (.faddr (.t 8) 1),
 .g 65 62 false (.load (.t 64)),
 .g 66 62 false (.iaddr 2 (.t 63) (.t 65)),
 .g 67 62 false (.loadA 2 (.t 66)),
 .g 68 62 false (.build [(.int .i64 0), (.int .i64 0)] [(0, 1, (kI 3))]),
 .g 69 62 false (.eqv true (.agg [(0, .int), (1, .int)]) (.t 67) (.t 68)),
 .o 70 (.pick (.t 62) (.c (.bool true)) (.t 69))]
def wlawr_r13 : List Ins := [.o 6 (.mov (.c (.bool false)))]
def wlawr_r14 : List Ins := [.o 13 (.mov (kI 0))]
def wlawr_r15 : List Ins := [.mv 71 13,
 .o 72 (.faddr (.t 8) 1),
 .o 73 (.load (.t 72)),
 .o 74 (.bin .lss (.t 71) (.t 73))]
def wlawr_r16 : List Ins := [.mv 77 12,
 .mv 78 13,
 .o 79 (.iaddr 2 (.t 77) (.t 78)),
 .o 80 (.loadA 2 (.t 79)),
 .mv 81 13,
 .o 82 (.build [(.int .i64 0), (.int .i64 0)] [(0, 1, (kI 1)), (1, 1, (.t 81))]),
 .o 83 (.eqv true (.agg [(0, .int), (1, .int)]) (.t 80) (.t 82))]
def wlawr_r17 : List Ins := [.o 6 (.mov (.c (.bool false)))]
def wlawr_r18 : List Ins := [.mv 75 13,
 .o 76 (.bin .add (.t 75) (kI 1)),
 .mv 13 76]
def wlawr_r19 : List Ins := [.o 85 (.build [.nslice, (.int .i64 0), .nslice] []),
 .f 86 40 [(.t 85), (kI 9)],
 .mv 84 86,
 .o 87 (.extr (.t 84) 0),
 .o 88 (.extr (.t 84) 1),
 .mv 14 87,
 .mv 15 88]
def wlawr_r20 : List Ins := [.mv 89 15,
 .o 90 (.bin .eql (.t 89) (kI 1)),
 .mv 91 90,
 .g 92 91 true (.build [.nslice, (.int .i64 0), .nslice] []),
 ⟨(some 93), (some (91, true)), (.callF 41 [(.t 92)])⟩,
 .g 94 91 true (.len .slc (.t 93)),
 .g 95 91 true (.bin .eql (.t 94) (kI 0)),
 .o 96 (.pick (.t 91) (.t 95) (.c (.bool false))),
 .mv 97 96,
 ⟨(some 98), (some (97, true)), (.callF 39 [])⟩,
 .o 99 (.pick (.t 97) (.t 98) (.c (.bool false))),
 .mv 6 99]
def wlawr_c : IC := (.seq (.reg wlawr_r0) (.seq (.reg wlawr_r1) (.seq (.reg wlawr_r2) (.seq (.seq (.reg wlawr_r3) (.cond (.t 27) (.seq (.reg wlawr_r4) .ret) .skip)) (.seq (.reg wlawr_r5) (.seq (.seq (.reg wlawr_r6) (.cond (.t 39) (.seq (.reg wlawr_r7) (.cond (.t 45) (.seq (.reg wlawr_r8) .ret) .skip)) (.seq (.reg wlawr_r9) (.cond (.t 53) (.seq (.reg wlawr_r10) .ret) .skip)))) (.seq (.reg wlawr_r11) (.seq (.seq (.reg wlawr_r12) (.cond (.t 70) (.seq (.reg wlawr_r13) .ret) .skip)) (.seq (.seq (.reg wlawr_r14) (.block 0 (.loop (.seq (.seq (.reg wlawr_r15) (.cond (.t 74) .skip (.exit 0))) (.seq (.block 1 (.seq (.reg wlawr_r16) (.cond (.t 83) (.seq (.reg wlawr_r17) .ret) .skip))) (.reg wlawr_r18)))))) (.seq (.reg wlawr_r19) (.seq (.reg wlawr_r20) .ret)))))))))))
theorem wlawr_tab : tb 12 = some (.code 3 100 wlawr_c [.tmp 6]) := by kernel_rfl
set_option maxHeartbeats 8000000 in
theorem wlawr_ok {t : TB} {nx bd ng : Nat} {gv : AV} {b h : Int} (hgv : Rows5 t bd gv ng 5) (hb : bd ≤ nx) (hng : ng < 9223372036854775808) :
   WF tb 12 [gv, .int .i64 b, .int .i64 h] t nx (fun v t' nx' => v = .bool true ∧ nx ≤ nx' ∧ Keep t t' nx (fun _ => False)) := by
 refine k_fun wlawr_tab rfl ?_
 unfold wlawr_c
 change WC _ _ (TA.put (some _) (TA.put (some _) (TA.put (some _) TA.e 0) 1) 2) _ _ _
 refine k_seq (k_reg (rO (o_mov ev_c) (r_nil (k_seq (k_reg (m1 (z1 (get_other rfl (get_other rfl get_same))) (r_call (w_callF (evs_cons eZ evs_nil)) rfl (WF.mono (made_ok hgv hb hng) ?_))))))))
 rintro _ t1 n2 ⟨vn, vt, ns, ts, rfl, hn_m, hk_m, hNG, h2, h4000, hF2, hNM, hRN, hRT⟩
 obtain ⟨n_m, rfl⟩ : ∃ k, k = n2 := ⟨_, rfl⟩
 have hM := MayP.of hNG h4000 hF2 hNM h2
 have hcn := hRN.cell
 have hct := hRT.cell
 have hG : LvN ns := LvN.of hNG (by omega) (fun i x hx k hk => ((hNG i x hx).ins k (hangs_sub hk)).1)
 have hlong : ∀ x ∈ ns, x.ins.length < 60000 ∧ (∀ c ∈ x.value, c < 256) ∧ x.value.length ≤ 9223372036854775807 := fun x hx => by obtain ⟨j, hj, rfl⟩ := List.mem_iff_getElem.1 hx; have g := hNG j _ (List.getElem?_eq_getElem hj); have g2 := g.ok.len g.wide; exact ⟨by omega, g2.2.1, by omega⟩
 have htl : ts.length < 9223372036854775808 := by obtain ⟨us, hu1, hu2, -⟩ := hNM; rw [hu1]; simp; omega
 refine r_heap (o_alloc) rfl (fun t3 (hh4 : hv t3 = upd (hv t1) n_m (some (.row [.nslice, .nslice, (.int .i64 0)] true))) => r_heap (o_store (n := 3) eZ (eV (z1 ds)) (lS hh4) rfl (cell3 hcn hct) (leb rfl)) rfl (fun t5 (hh6 : hv t5 = upd (hv t3) n_m (some (.row [vn, vt, (.int .i64 ((ts.length : Nat) : Int))] true))) => r_nil (k_seq (k_reg (rO (o_loadA (n := 3) (eV (z1 ds)) (lS hh6) (leb rfl) rfl) (m1 (z2 (z4 (get_other rfl get_same))) (r_ex (o_and (m := 63) eZ ev_c (by decide)) rfl ?_)))))))
 rintro _ ⟨r7, rfl, hr8⟩
 refine rO (o_addN (a := 1) (b := r7) ev_c eZ (by omega)) (r_call (w_callF (evs_cons (eV (z1 (z2 ds))) (evs_cons eZ evs_nil))) rfl (WF.mono (prun_ok (m := (1 + r7)) (hRN.keep (show Keep t1 t5 n_m (fun _ => False) from kU (kU (Keep.refl t1 n_m _) hh4) hh6) (Nat.le_refl _)) (hRT.keep (show Keep t1 t5 n_m (fun _ => False) from kU (kU (Keep.refl t1 n_m _) hh4) hh6) (Nat.le_refl _)) (by omega) hG hM htl hlong (by omega) (by omega) (by omega)) ?_))
 rintro _ t9 n10 ⟨ov, av_, os, N, rfl, hN1, hN2, hol, hor, hRO, hRM, hn_p, hk_p⟩
 obtain ⟨n_p, rfl⟩ : ∃ k, k = n10 := ⟨_, rfl⟩
 have hAl := matL_len N (ahM ns os ns.length)
 have hAr : ∀ l ∈ matL N (ahM ns os ns.length), l.length = N := matL_row
 obtain ⟨A, hA_⟩ : ∃ A, A = matL N (ahM ns os ns.length) := ⟨_, rfl⟩
 rw [← hA_] at hAl hAr hRM
 refine m1 ds (rO (o_extr eZ rfl) (rO (o_extr (eV (z1 ds)) rfl) (r_heap (o_alloc) rfl (fun t11 (hh12 : hv t11 = upd (hv t9) n_p (some (.row [.nslice, (.int .i64 0), .nslice] true))) => r_heap (o_store (n := 3) eZ (eV (z2 ds)) (lS hh12) rfl (cell3' hRO.cell hRM.cell) (leb rfl)) rfl (fun t13 (hh14 : hv t13 = upd (hv t11) n_p (some (.row [ov, (.int .i64 ((N : Nat) : Int)), av_] true))) => m1 (z2 ds) (r_nil (k_seq (k_seq (k_reg (m1 ds (rO (ndec_f (o_neq eZ ev_c) (by simp)) (r_nil (k_cond_f eZ (k_skip (k_seq (k_reg (rO (o_loadA (n := 3) (eV (z4 ds)) (lS hh14) (leb rfl) rfl) (m1 (z1 (z2 (z8 (z8 get_same)))) (r_call (w_callF (evs_cons (eV (z1 ds)) (evs_cons eZ evs_nil))) rfl (WF.mono (wrounds_ok ov av_ ((N : Nat) : Int) h) ?_))))))))))))))))))))
 rintro _ t15 n16 ⟨a1, e1, rfl, ha1, ha2, hn_c, hk_c⟩
 refine m1 ds (rO (o_extr eZ rfl) (rO (o_extr (eV (z1 ds)) rfl) (m1 (z1 ds) (m1 (z1 ds) (r_nil (k_seq (k_seq (k_reg (m1 (z2 (z8 (z8 (z8 get_same)))) ?_)))))))))
 by_cases hs17 : (h < 0)
 · refine rO (dec_t (o_lss eZ ev_c) hs17) (m1 ds (r_off (wN ds) (r_off (wN (z1 ds)) (rO (o_pick_t (eV (z2 ds)) ev_c) (r_nil ?_)))))
   refine k_cut (fun T_ t_ n_ => t15 = t_ ∧ n16 = n_ ∧ T_.get 6 = some (.bool false) ∧ T_.get 8 = some (.ptr n_p 0)) ?_ ?_
   · refine k_cond_t eZ (k_seq (k_reg (m1 (z1 (z2 (z4 ds))) ?_)))
     by_cases hs21 : (a1 = 0)
     · refine rO (ndec_f (o_neq eZ ev_c) hs21) (m1 ds (r_op (o_mov (eV (z1 (z8 ds)))) (want_on ds) (r_op (o_neq eZ ev_c) (want_on (z1 ds)) (rO (o_pick_f (eV (z2 ds)) eZ) (r_nil ?_)))))
       refine k_in eZ (fun hc22 => ?_) (fun hc22 => ?_)
       · refine k_seq (k_reg (rO (o_mov ev_c) (r_nil (k_ret ?_))))
         exfalso; omega
       refine k_skip ?_
       exact ⟨rfl, rfl, (z1 (z4 (z8 (z8 (z8 (z8 ds)))))), (z8 (z8 (z8 ds)))⟩
     refine rO (ndec_t (o_neq eZ ev_c) hs21) (m1 ds (r_off (wN ds) (r_off (wN (z1 ds)) (rO (o_pick_t (eV (z2 ds)) ev_c) (r_nil (k_cond_t eZ (k_seq (k_reg (rO (o_mov ev_c) (r_nil (k_ret ?_)))))))))))
     exfalso; omega
   rintro T18 _ _ ⟨rfl, rfl, q19, q20⟩
   refine k_seq (k_reg (rO (o_loadA (n := 3) (eV q20) (Keep.look hk_c (by omega) id (lS hh14)) (leb rfl) rfl) (r_call (w_callF (evs_cons eZ evs_nil)) rfl (WF.mono (WF.exv (wround_ok ov av_ hN1 (by omega))) ?_))))
   rintro _ t23 n24 ⟨q, rfl, hq, hn_q, hk_q⟩
   obtain ⟨n_q, rfl⟩ : ∃ k, k = n24 := ⟨_, rfl⟩
   obtain ⟨ps, hps⟩ : ∃ ps, ps = pks 1 N ++ [(3, 0)] := ⟨_, rfl⟩
   rw [← hps] at hq
   have hpl : ps.length = N + 1 := by rw [hps]; simp [pks_len]
   refine m1 ds (r_nil (k_seq (k_seq ?_)))
   have hq_ := hq
   rcases hq_ with ⟨-, h0⟩ | ⟨dq, hqe, hdq0, hdq1, hqr⟩
   · have h_ := congrArg List.length h0; simp only [List.length_nil] at h_; omega
   have hp : ps[N]? = some (3, 0) := by rw [hps, List.getElem?_append_right (by rw [pks_len]; omega), pks_len]; simp
   have hqg : ((flatQ ps).drop (0 + N * 2)).take 2 = [.int .i64 3, .int .i64 0] := by rw [Nat.zero_add]; exact flatQ_get hp
   refine k_reg (m1 ds (rO (o_len_Q hq eZ) (rO (o_faddr (off := 1) (eV (z1 (z4 q20)))) (rO (o_load eZ (Keep.look hk_q (by omega) id (Keep.look hk_c (by omega) id (lS hh14))) rfl) (rO (o_addN (a := N) (b := 1) eZ ev_c (by omega)) ?_)))))
   by_cases hs25 : (((ps.length : Nat) : Int) = ((N + 1 : Nat) : Int))
   · refine rO (ndec_f (o_neq (eV (z1 (z2 ds))) eZ) hs25) (m1 ds (r_op (o_mov (eV (z1 (z2 (z4 ds))))) (want_on ds) (r_op (o_faddr (off := 1) (eV (z1 (z2 (z8 q20))))) (want_on (z1 ds)) (r_op (o_load eZ (Keep.look hk_q (by omega) id (Keep.look hk_c (by omega) id (lS hh14))) rfl) (want_on (z2 ds)) (r_op (o_iaddrE (i := N) (eV (z2 ds)) hqe eZ (by omega)) (want_on (z1 (z2 ds))) ?_)))))
     refine r_op (o_loadA (n := 2) eZ hqr (by rw [flatQ_len]; omega) hqg) (want_on (z4 ds)) ?_
     refine r_op (o_build (fill_cons ev_c rfl rfl fill_nil)) (want_on (z1 (z4 ds))) (r_op (o_same2 (eV (z1 ds)) eZ) (want_on (z2 (z4 ds))) (rO (o_pick_f (eV (z1 (z2 (z4 ds)))) eZ) (r_nil (k_cond_f eZ (k_skip (k_seq (k_seq (k_reg (rO (o_mov ev_c) (r_nil (k_block (k_loop (fun mm Tf tf nf => ∃ (i : Nat), (i ≤ N) ∧ (n_p + 1 ≤ nf) ∧ (hv tf dq = some (.row (flatQ ps) true)) ∧ (hv tf n_p = some (.row [ov, .int .i64 ((N : Nat) : Int), av_] true)) ∧ (Tf.get 8 = some (.ptr n_p 0) ∧ Tf.get 12 = some q ∧ Tf.get 13 = some (.int .i64 ((i : Nat) : Int))) ∧ nx ≤ nf ∧ Keep t tf nx (fun _ => False) ∧ mm + i = N) (fun mm Tf tf nf hI => ?_) (N) ⟨0, by omega, by omega, hqr, (Keep.look hk_q (by omega) id (Keep.look hk_c (by omega) id (lS hh14))), ⟨(z1 (z2 (z8 (z8 q20)))), (z8 (z8 ds)), ds⟩, by omega, Keep.trans (Keep.trans (kU (kU (Keep.trans (kU (kU (Keep.trans kR hk_m (by omega) (fun d _ h => h)) hh4) hh6) hk_p (by omega) (fun d _ h => h)) hh12) hh14) hk_c (by omega) (fun d _ h => h)) hk_q (by omega) (fun d _ h => h), by omega⟩))))))))))))
     obtain ⟨i, hi, hnf2, hqr, hr8, ⟨qf8, qf12, qf13⟩, hnf, hkf, hmm⟩ := hI
     refine k_seq (k_seq (k_reg (m1 qf13 (rO (o_faddr (off := 1) (eV (z1 qf8))) (rO (o_load eZ hr8 rfl) (rO (o_lss (eV (z2 ds)) eZ) (r_nil ?_)))))))
     refine k_if eZ (fun hc26 => ?_) (fun hc26 => ?_)
     · refine k_skip (k_seq (k_block (k_seq ?_)))
       have hp : ps[i]? = some (1, ((i : Nat) : Int)) := by rw [hps, List.getElem?_append_left (by rw [pks_len]; omega)]; exact pks_at (by omega)
       have hqg : ((flatQ ps).drop (0 + i * 2)).take 2 = [.int .i64 1, .int .i64 ((i : Nat) : Int)] := by rw [Nat.zero_add]; exact flatQ_get hp
       refine k_reg (m1 (z4 qf12) (m1 (z1 (z4 qf13)) (rO (o_iaddrE (i := i) (eV (z1 ds)) hqe eZ (by omega)) ?_)))
       refine rO (o_loadA (n := 2) eZ hqr (by rw [flatQ_len]; omega) hqg) ?_
       refine m1 (z8 qf13) (rO (o_build (fill_cons ev_c rfl rfl (fill_cons eZ rfl rfl fill_nil))) (rO (o_same2 (eV (z2 ds)) eZ) (r_nil (k_cond_f eZ (k_skip (k_reg (m1 (z1 (z2 (z8 qf13))) (rO (o_addN (a := i) (b := 1) eZ ev_c (by omega)) (m1 ds (r_nil ?_))))))))))
       exact ⟨N - (i + 1), by omega, i + 1, by omega, by omega, hqr, hr8, ⟨(z2 (z4 (z8 qf8))), (z2 (z4 (z8 qf12))), ds⟩, by omega, hkf, by omega⟩
     refine k_exit (exK_same (k_seq (k_reg (rO (o_build fill_nil) (r_call (w_callF (evs_cons eZ (evs_cons ev_c evs_nil))) rfl (WF.mono (wrounds_ok .nslice .nslice 0 9) ?_))))))
     rintro _ t27 n28 ⟨a9, e9, rfl, ha91, ha92, hn_9, hk_9⟩
     refine m1 ds (rO (o_extr eZ rfl) (rO (o_extr (eV (z1 ds)) rfl) (m1 (z1 ds) (m1 (z1 ds) (r_nil (k_seq (k_reg (m1 ds ?_))))))))
     by_cases hs29 : (e9 = 1)
     · refine rO (dec_t (o_eql eZ ev_c) hs29) (m1 ds (r_op (o_build fill_nil) (want_on ds) (r_call (w_callF (evs_cons eZ evs_nil)) (want_on (z1 ds)) (WF.mono (wround0_ok .nslice .nslice) ?_))))
       rintro _ t30 n31 ⟨rfl, hn_0, hk_0⟩
       refine r_op (o_len_nslice eZ) (want_on (z2 ds)) (r_op (dec_t (o_eql eZ ev_c) (by simp)) (want_on (z1 (z2 ds))) (rO (o_pick_t (eV (z4 ds)) eZ) (m1 ds (r_call (w_callF evs_nil) (want_on ds) (WF.mono ((k_prim (Q := fun v t' nx' => v = .bool true ∧ n31 ≤ nx' ∧ Keep t30 t' n31 (fun _ => False)) awake2_tab rfl ⟨rfl, Nat.le_refl _, kR⟩)) ?_)))))
       rintro _ t32 n33 ⟨rfl, hn_a, hk_a⟩
       refine rO (o_pick_t (eV (z1 ds)) eZ) (m1 ds (r_nil (k_ret ?_)))
       exact ⟨_, ans_tmp ds, rfl, by omega, Keep.trans (Keep.trans (Keep.trans (hkf) hk_9 (by omega) (fun d _ h => h)) hk_0 (by omega) (fun d _ h => h)) hk_a (by omega) (fun d _ h => h)⟩
     refine rO (dec_f (o_eql eZ ev_c) hs29) (m1 ds (r_off (wN ds) (r_off (wN (z1 ds)) (r_off (wN (z2 ds)) (r_off (wN (z1 (z2 ds))) (rO (o_pick_f (eV (z4 ds)) ev_c) (m1 ds (r_off (wN ds) (rO (o_pick_f (eV (z1 ds)) ev_c) (m1 ds (r_nil (k_ret ?_))))))))))))
     exfalso; omega
   refine rO (ndec_t (o_neq (eV (z1 (z2 ds))) eZ) hs25) (m1 ds (r_off (wN ds) (r_off (wN (z1 ds)) (r_off (wN (z2 ds)) (r_off (wN (z1 (z2 ds))) (r_off (wN (z4 ds)) (r_off (wN (z1 (z4 ds))) (r_off (wN (z2 (z4 ds))) (rO (o_pick_t (eV (z1 (z2 (z4 ds)))) ev_c) (r_nil (k_cond_t eZ (k_seq (k_reg (rO (o_mov ev_c) (r_nil (k_ret ?_))))))))))))))))
   exfalso; omega
 refine rO (dec_f (o_lss eZ ev_c) hs17) (m1 ds (r_op (o_mov (eV (z1 (z4 (z8 (z8 (z8 get_same))))))) (want_on ds) (r_op (o_gtr eZ ev_c) (want_on (z1 ds)) (rO (o_pick_f (eV (z2 ds)) eZ) (r_nil ?_)))))
 refine k_cut (fun T_ t_ n_ => t15 = t_ ∧ n16 = n_ ∧ T_.get 6 = some (.bool false) ∧ T_.get 8 = some (.ptr n_p 0)) ?_ ?_
 · refine k_if eZ (fun hc37 => ?_) (fun hc37 => ?_)
   · refine k_seq (k_reg (m1 (z1 (z2 (z4 ds))) ?_))
     by_cases hs38 : (a1 = 0)
     · refine rO (ndec_f (o_neq eZ ev_c) hs38) (m1 ds (r_op (o_mov (eV (z1 (z8 ds)))) (want_on ds) (r_op (o_neq eZ ev_c) (want_on (z1 ds)) (rO (o_pick_f (eV (z2 ds)) eZ) (r_nil ?_)))))
       refine k_in eZ (fun hc39 => ?_) (fun hc39 => ?_)
       · refine k_seq (k_reg (rO (o_mov ev_c) (r_nil (k_ret ?_))))
         exfalso; omega
       refine k_skip ?_
       exact ⟨rfl, rfl, (z1 (z4 (z8 (z8 (z8 (z8 ds)))))), (z8 (z8 (z8 ds)))⟩
     refine rO (ndec_t (o_neq eZ ev_c) hs38) (m1 ds (r_off (wN ds) (r_off (wN (z1 ds)) (rO (o_pick_t (eV (z2 ds)) ev_c) (r_nil (k_cond_t eZ (k_seq (k_reg (rO (o_mov ev_c) (r_nil (k_ret ?_)))))))))))
     exfalso; omega
   refine k_seq (k_reg (m1 (z1 (z2 (z4 ds))) (m1 (z1 (z8 (z8 (z8 (z8 get_same))))) (rO (o_add eZ ev_c (by omega) (by omega)) ?_))))
   by_cases hs40 : (a1 = (h + 2))
   · refine rO (ndec_f (o_neq (eV (z2 ds)) eZ) hs40) (m1 ds (r_op (o_mov (eV (z1 (z2 (z8 ds))))) (want_on ds) (r_op (o_neq eZ ev_c) (want_on (z1 ds)) (rO (o_pick_f (eV (z2 ds)) eZ) (r_nil ?_)))))
     refine k_in eZ (fun hc41 => ?_) (fun hc41 => ?_)
     · refine k_seq (k_reg (rO (o_mov ev_c) (r_nil (k_ret ?_))))
       exfalso; omega
     refine k_skip ?_
     exact ⟨rfl, rfl, (z1 (z2 (z4 (z8 (z8 (z8 (z8 ds))))))), (z2 (z8 (z8 (z8 ds))))⟩
   refine rO (ndec_t (o_neq (eV (z2 ds)) eZ) hs40) (m1 ds (r_off (wN ds) (r_off (wN (z1 ds)) (rO (o_pick_t (eV (z2 ds)) ev_c) (r_nil (k_cond_t eZ (k_seq (k_reg (rO (o_mov ev_c) (r_nil (k_ret ?_)))))))))))
   exfalso; omega
 rintro T34 _ _ ⟨rfl, rfl, q35, q36⟩
 refine k_seq (k_reg (rO (o_loadA (n := 3) (eV q36) (Keep.look hk_c (by omega) id (lS hh14)) (leb rfl) rfl) (r_call (w_callF (evs_cons eZ evs_nil)) rfl (WF.mono (WF.exv (wround_ok ov av_ hN1 (by omega))) ?_))))
 rintro _ t42 n43 ⟨q, rfl, hq, hn_q, hk_q⟩
 obtain ⟨n_q, rfl⟩ : ∃ k, k = n43 := ⟨_, rfl⟩
 obtain ⟨ps, hps⟩ : ∃ ps, ps = pks 1 N ++ [(3, 0)] := ⟨_, rfl⟩
 rw [← hps] at hq
 have hpl : ps.length = N + 1 := by rw [hps]; simp [pks_len]
 refine m1 ds (r_nil (k_seq (k_seq ?_)))
 have hq_ := hq
 rcases hq_ with ⟨-, h0⟩ | ⟨dq, hqe, hdq0, hdq1, hqr⟩
 · have h_ := congrArg List.length h0; simp only [List.length_nil] at h_; omega
 have hp : ps[N]? = some (3, 0) := by rw [hps, List.getElem?_append_right (by rw [pks_len]; omega), pks_len]; simp
 have hqg : ((flatQ ps).drop (0 + N * 2)).take 2 = [.int .i64 3, .int .i64 0] := by rw [Nat.zero_add]; exact flatQ_get hp
 refine k_reg (m1 ds (rO (o_len_Q hq eZ) (rO (o_faddr (off := 1) (eV (z1 (z4 q36)))) (rO (o_load eZ (Keep.look hk_q (by omega) id (Keep.look hk_c (by omega) id (lS hh14))) rfl) (rO (o_addN (a := N) (b := 1) eZ ev_c (by omega)) ?_)))))
 by_cases hs44 : (((ps.length : Nat) : Int) = ((N + 1 : Nat) : Int))
 · refine rO (ndec_f (o_neq (eV (z1 (z2 ds))) eZ) hs44) (m1 ds (r_op (o_mov (eV (z1 (z2 (z4 ds))))) (want_on ds) (r_op (o_faddr (off := 1) (eV (z1 (z2 (z8 q36))))) (want_on (z1 ds)) (r_op (o_load eZ (Keep.look hk_q (by omega) id (Keep.look hk_c (by omega) id (lS hh14))) rfl) (want_on (z2 ds)) (r_op (o_iaddrE (i := N) (eV (z2 ds)) hqe eZ (by omega)) (want_on (z1 (z2 ds))) ?_)))))
   refine r_op (o_loadA (n := 2) eZ hqr (by rw [flatQ_len]; omega) hqg) (want_on (z4 ds)) ?_
   refine r_op (o_build (fill_cons ev_c rfl rfl fill_nil)) (want_on (z1 (z4 ds))) (r_op (o_same2 (eV (z1 ds)) eZ) (want_on (z2 (z4 ds))) (rO (o_pick_f (eV (z1 (z2 (z4 ds)))) eZ) (r_nil (k_cond_f eZ (k_skip (k_seq (k_seq (k_reg (rO (o_mov ev_c) (r_nil (k_block (k_loop (fun mm Tf tf nf => ∃ (i : Nat), (i ≤ N) ∧ (n_p + 1 ≤ nf) ∧ (hv tf dq = some (.row (flatQ ps) true)) ∧ (hv tf n_p = some (.row [ov, .int .i64 ((N : Nat) : Int), av_] true)) ∧ (Tf.get 8 = some (.ptr n_p 0) ∧ Tf.get 12 = some q ∧ Tf.get 13 = some (.int .i64 ((i : Nat) : Int))) ∧ nx ≤ nf ∧ Keep t tf nx (fun _ => False) ∧ mm + i = N) (fun mm Tf tf nf hI => ?_) (N) ⟨0, by omega, by omega, hqr, (Keep.look hk_q (by omega) id (Keep.look hk_c (by omega) id (lS hh14))), ⟨(z1 (z2 (z8 (z8 q36)))), (z8 (z8 ds)), ds⟩, by omega, Keep.trans (Keep.trans (kU (kU (Keep.trans (kU (kU (Keep.trans kR hk_m (by omega) (fun d _ h => h)) hh4) hh6) hk_p (by omega) (fun d _ h => h)) hh12) hh14) hk_c (by omega) (fun d _ h => h)) hk_q (by omega) (fun d _ h => h), by omega⟩))))))))))))
   obtain ⟨i, hi, hnf2, hqr, hr8, ⟨qf8, qf12, qf13⟩, hnf, hkf, hmm⟩ := hI
   refine k_seq (k_seq (k_reg (m1 qf13 (rO (o_faddr (off := 1) (eV (z1 qf8))) (rO (o_load eZ hr8 rfl) (rO (o_lss (eV (z2 ds)) eZ) (r_nil ?_)))))))
   refine k_if eZ (fun hc45 => ?_) (fun hc45 => ?_)
   · refine k_skip (k_seq (k_block (k_seq ?_)))
     have hp : ps[i]? = some (1, ((i : Nat) : Int)) := by rw [hps, List.getElem?_append_left (by rw [pks_len]; omega)]; exact pks_at (by omega)
     have hqg : ((flatQ ps).drop (0 + i * 2)).take 2 = [.int .i64 1, .int .i64 ((i : Nat) : Int)] := by rw [Nat.zero_add]; exact flatQ_get hp
     refine k_reg (m1 (z4 qf12) (m1 (z1 (z4 qf13)) (rO (o_iaddrE (i := i) (eV (z1 ds)) hqe eZ (by omega)) ?_)))
     refine rO (o_loadA (n := 2) eZ hqr (by rw [flatQ_len]; omega) hqg) ?_
     refine m1 (z8 qf13) (rO (o_build (fill_cons ev_c rfl rfl (fill_cons eZ rfl rfl fill_nil))) (rO (o_same2 (eV (z2 ds)) eZ) (r_nil (k_cond_f eZ (k_skip (k_reg (m1 (z1 (z2 (z8 qf13))) (rO (o_addN (a := i) (b := 1) eZ ev_c (by omega)) (m1 ds (r_nil ?_))))))))))
     exact ⟨N - (i + 1), by omega, i + 1, by omega, by omega, hqr, hr8, ⟨(z2 (z4 (z8 qf8))), (z2 (z4 (z8 qf12))), ds⟩, by omega, hkf, by omega⟩
   refine k_exit (exK_same (k_seq (k_reg (rO (o_build fill_nil) (r_call (w_callF (evs_cons eZ (evs_cons ev_c evs_nil))) rfl (WF.mono (wrounds_ok .nslice .nslice 0 9) ?_))))))
   rintro _ t46 n47 ⟨a9, e9, rfl, ha91, ha92, hn_9, hk_9⟩
   refine m1 ds (rO (o_extr eZ rfl) (rO (o_extr (eV (z1 ds)) rfl) (m1 (z1 ds) (m1 (z1 ds) (r_nil (k_seq (k_reg (m1 ds ?_))))))))
   by_cases hs48 : (e9 = 1)
   · refine rO (dec_t (o_eql eZ ev_c) hs48) (m1 ds (r_op (o_build fill_nil) (want_on ds) (r_call (w_callF (evs_cons eZ evs_nil)) (want_on (z1 ds)) (WF.mono (wround0_ok .nslice .nslice) ?_))))
     rintro _ t49 n50 ⟨rfl, hn_0, hk_0⟩
     refine r_op (o_len_nslice eZ) (want_on (z2 ds)) (r_op (dec_t (o_eql eZ ev_c) (by simp)) (want_on (z1 (z2 ds))) (rO (o_pick_t (eV (z4 ds)) eZ) (m1 ds (r_call (w_callF evs_nil) (want_on ds) (WF.mono ((k_prim (Q := fun v t' nx' => v = .bool true ∧ n50 ≤ nx' ∧ Keep t49 t' n50 (fun _ => False)) awake2_tab rfl ⟨rfl, Nat.le_refl _, kR⟩)) ?_)))))
     rintro _ t51 n52 ⟨rfl, hn_a, hk_a⟩
     refine rO (o_pick_t (eV (z1 ds)) eZ) (m1 ds (r_nil (k_ret ?_)))
     exact ⟨_, ans_tmp ds, rfl, by omega, Keep.trans (Keep.trans (Keep.trans (hkf) hk_9 (by omega) (fun d _ h => h)) hk_0 (by omega) (fun d _ h => h)) hk_a (by omega) (fun d _ h => h)⟩
   refine rO (dec_f (o_eql eZ ev_c) hs48) (m1 ds (r_off (wN ds) (r_off (wN (z1 ds)) (r_off (wN (z2 ds)) (r_off (wN (z1 (z2 ds))) (rO (o_pick_f (eV (z4 ds)) ev_c) (m1 ds (r_off (wN ds) (rO (o_pick_f (eV (z1 ds)) ev_c) (m1 ds (r_nil (k_ret ?_))))))))))))
   exfalso; omega
 refine rO (ndec_t (o_neq (eV (z1 (z2 ds))) eZ) hs44) (m1 ds (r_off (wN ds) (r_off (wN (z1 ds)) (r_off (wN (z2 ds)) (r_off (wN (z1 (z2 ds))) (r_off (wN (z4 ds)) (r_off (wN (z1 (z4 ds))) (r_off (wN (z2 (z4 ds))) (rO (o_pick_t (eV (z1 (z2 (z4 ds)))) ev_c) (r_nil (k_cond_t eZ (k_seq (k_reg (rO (o_mov ev_c) (r_nil (k_ret ?_))))))))))))))))
 exfalso; omega
end Go.Proofs.YtpjohgnhmjceiaaGreatDoor.WX

