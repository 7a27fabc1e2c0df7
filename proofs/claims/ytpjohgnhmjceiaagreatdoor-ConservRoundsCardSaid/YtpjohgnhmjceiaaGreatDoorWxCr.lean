/- The program's functions in the evaluator's terms: conserv.Rounds and Round, and the law: what each of them answers, whatever comes in.
   Conditions: those of each theorem. -/
import Derived.Test.YtpjohgnhmjceiaaGreatDoorWx4
set_option linter.all false
set_option linter.unusedVariables false
set_option linter.unusedSectionVars false
set_option maxRecDepth 100000
open Go Go.Proofs.YtpjohgnhmjceiaaGreatDoor.AX Go.Proofs
namespace Go.Proofs.YtpjohgnhmjceiaaGreatDoor.WX
variable [Env]
theorem rowM_get {r ivs : List AV} {o n i : Nat} {iv : AV} (h : (r.drop o).take n = ivs) (hi : ivs[i]? = some iv) : r[o + i]? = some iv := by
 rw [← h, List.getElem?_take] at hi
 split at hi
 · rw [List.getElem?_drop] at hi; exact hi
 · cases hi
theorem RowM.cell {t : TB} {bd : Nat} {v : AV} {A : List (List Int)} (h : RowM t bd v A) : isCell v = true := by
 rcases h with ⟨rfl, -⟩ | ⟨d, o, c, ex, wr, r, ivs, rfl, -⟩ <;> rfl
/-- Picks of a kind, numbered. -/
def pks (k : Int) (n : Nat) : List (Int × Int) := (List.range n).map (fun (i : Nat) => (k, (i : Int)))
theorem pks_len (k : Int) (n : Nat) : (pks k n).length = n := by simp [pks]
theorem pks_snoc (k : Int) (n : Nat) : pks k n ++ [(k, (n : Int))] = pks k (n + 1) := by simp [pks, List.range_succ]
theorem pks_at {k : Int} {n i : Nat} (h : i < n) : (pks k n)[i]? = some (k, (i : Int)) := by simp [pks, h]
theorem tot_few {A : List (List Int)} (h : A.length ≤ 64) (hr : ∀ l ∈ A, l.length ≤ 64) (i : Nat) : tot (A.take i) ≤ 4096 :=
 Nat.le_trans (tot_le (w := 64) (fun l hl => hr l (List.mem_of_mem_take hl))) (by rw [List.length_take]; omega)
theorem pos_few {l : List Int} (h : l.length ≤ 64) (j : Nat) : pos (l.take j) ≤ 64 := Nat.le_trans (pos_le _) (by rw [List.length_take]; omega)
theorem tot_all {A : List (List Int)} {i : Nat} (h : A.length ≤ i) : tot (A.take i) = tot A := by rw [List.take_of_length_le h]
theorem pos_all {l : List Int} {i : Nat} (h : l.length ≤ i) : pos (l.take i) = pos l := by rw [List.take_of_length_le h]
theorem RowQ.mono_ {t : TB} {lo lo' bd bd' : Nat} {v : AV} {ps : List (Int × Int)} (h : RowQ t lo bd v ps) (h1 : lo' ≤ lo) (h2 : bd ≤ bd') : RowQ t lo' bd' v ps := by
 rcases h with h | ⟨d, a, b, c, e⟩
 · exact .inl h
 · exact .inr ⟨d, a, by omega, by omega, e⟩

def crounds_r0 : List Ins := [.o 2 (.box (.t 0)),
 .o 4 (.mov (kI 0)),
 .o 5 (.mov (kI 0))]
def crounds_r1 : List Ins := [.o 6 (.faddr (.t 2) 1),
 .o 7 (.load (.t 6)),
 .o 8 (.bin .lss (.t 7) (kI 1)),
 .mv 9 8,
 .g 10 9 false (.mov (.t 1)),
 .g 11 9 false (.bin .lss (.t 10) (kI 0)),
 .o 12 (.pick (.t 9) (.c (.bool true)) (.t 11)),
 .mv 13 12,
 .g 14 13 false (.mov (.t 1)),
 .g 15 13 false (.bin .gtr (.t 14) (kI 1048576)),
 .o 16 (.pick (.t 13) (.c (.bool true)) (.t 15))]
def crounds_r2 : List Ins := [.o 4 (.mov (kI 0)),
 .o 5 (.mov (kI 1))]
def crounds_r3 : List Ins := [.mv 17 1,
 .o 18 (.bin .mul (kI 2) (.t 17)),
 .o 19 (.bin .add (.t 18) (kI 6)),
 .mv 4 19,
 .o 5 (.mov (kI 0))]
def crounds_c : IC := (.seq (.reg crounds_r0) (.seq (.seq (.reg crounds_r1) (.cond (.t 16) (.seq (.reg crounds_r2) .ret) .skip)) (.seq (.reg crounds_r3) .ret)))
theorem crounds_tab : tb 33 = some (.code 2 20 crounds_c [.tmp 4, .tmp 5]) := by kernel_rfl
theorem crounds_ok {t : TB} {nx : Nat} (ov av_ : AV) (N h : Int) : WF tb 33 [.agg [ov, .int .i64 N, av_], .int .i64 h] t nx (fun v t' nx' => ∃ a e : Int, v = .tup [.int .i64 a, .int .i64 e] ∧ (1 ≤ N ∧ 0 ≤ h ∧ h ≤ 1048576 → a = 2 * h + 6 ∧ e = 0) ∧ (N < 1 ∨ h < 0 ∨ 1048576 < h → a = 0 ∧ e = 1) ∧ nx ≤ nx' ∧ Keep t t' nx (fun _ => False)) := by
 refine k_fun crounds_tab rfl ?_
 unfold crounds_c
 change WC _ _ (TA.put (some _) (TA.put (some _) TA.e 0) 1) _ _ _
 refine k_seq (k_reg (r_heap (o_box (eV (get_other rfl get_same))) rfl (fun t1 (hh2 : hv t1 = upd (hv t) nx (some (.row [ov, (.int .i64 N), av_] true))) => rO (o_mov ev_c) (rO (o_mov ev_c) (r_nil (k_seq (k_seq (k_reg (rO (o_faddr (off := 1) (eV (z2 ds))) (rO (o_load eZ (lS hh2) rfl) ?_))))))))))
 by_cases hs3 : (N < 1)
 · refine rO (dec_t (o_lss eZ ev_c) hs3) (m1 ds (r_off (wN ds) (r_off (wN (z1 ds)) (rO (o_pick_t (eV (z2 ds)) ev_c) (m1 ds (r_off (wN ds) (r_off (wN (z1 ds)) (rO (o_pick_t (eV (z2 ds)) ev_c) (r_nil (k_cond_t eZ (k_seq (k_reg (rO (o_mov ev_c) (rO (o_mov ev_c) (r_nil (k_ret ?_))))))))))))))))
   exact ⟨_, ans_two (res_tmp (z1 ds) (res_tmp ds res_nil)), _, _, rfl, (by omega), (by omega), by omega, kU kR hh2⟩
 refine rO (dec_f (o_lss eZ ev_c) hs3) (m1 ds (r_op (o_mov (eV (z1 (z2 (z4 get_same))))) (want_on ds) ?_))
 by_cases hs4 : (h < 0)
 · refine r_op (dec_t (o_lss eZ ev_c) hs4) (want_on (z1 ds)) (rO (o_pick_f (eV (z2 ds)) eZ) (m1 ds (r_off (wN ds) (r_off (wN (z1 ds)) (rO (o_pick_t (eV (z2 ds)) ev_c) (r_nil (k_cond_t eZ (k_seq (k_reg (rO (o_mov ev_c) (rO (o_mov ev_c) (r_nil (k_ret ?_)))))))))))))
   exact ⟨_, ans_two (res_tmp (z1 ds) (res_tmp ds res_nil)), _, _, rfl, (by omega), (by omega), by omega, kU kR hh2⟩
 refine r_op (dec_f (o_lss eZ ev_c) hs4) (want_on (z1 ds)) (rO (o_pick_f (eV (z2 ds)) eZ) (m1 ds (r_op (o_mov (eV (z1 (z2 (z8 get_same))))) (want_on ds) (r_op (o_gtr eZ ev_c) (want_on (z1 ds)) (rO (o_pick_f (eV (z2 ds)) eZ) (r_nil ?_))))))
 refine k_if eZ (fun hc5 => ?_) (fun hc5 => ?_)
 · refine k_seq (k_reg (rO (o_mov ev_c) (rO (o_mov ev_c) (r_nil (k_ret ?_)))))
   exact ⟨_, ans_two (res_tmp (z1 ds) (res_tmp ds res_nil)), _, _, rfl, (by omega), (by omega), by omega, kU kR hh2⟩
 refine k_skip (k_seq (k_reg (m1 (z2 (z4 (z8 get_same))) (rO (o_mul ev_c eZ (by omega) (by omega)) (rO (o_add eZ ev_c (by omega) (by omega)) (m1 ds (rO (o_mov ev_c) (r_nil (k_ret ?_)))))))))
 exact ⟨_, ans_two (res_tmp (z1 ds) (res_tmp ds res_nil)), _, _, rfl, (by omega), (by omega), by omega, kU kR hh2⟩
def cround_r0 : List Ins := [.o 1 (.box (.t 0)),
 .o 2 (.mov (.c .nslice))]
def cround_r1 : List Ins := [.o 10 (.faddr (.t 1) 1),
 .o 11 (.load (.t 10)),
 .o 12 (.bin .lss (.t 11) (kI 1)),
 .mv 13 12,
 .g 14 13 false (.faddr (.t 1) 1),
 .g 15 13 false (.load (.t 14)),
 .g 16 13 false (.bin .gtr (.t 15) (kI 64)),
 .o 17 (.pick (.t 13) (.c (.bool true)) (.t 16))]
def cround_r2 : List Ins := [.o 2 (.mov (.c .nslice))]
def cround_r3 : List Ins := [.o 3 (.mov (.c .nslice))]
def cround_r4 : List Ins := [.o 18 (.faddr (.t 1) 1),
 .o 19 (.load (.t 18)),
 .o 20 (.mov (kI 0))]
def cround_r5 : List Ins := [.o 21 (.bin .lss (.t 20) (.t 19))]
def cround_r6 : List Ins := [.mv 22 20,
 .mv 4 22]
def cround_r7 : List Ins := [.mv 23 3,
 .mv 24 4,
 .o 25 (.build [(.int .i64 0), (.int .i64 0)] [(0, 1, (kI 1)), (1, 1, (.t 24))]),
 .o 26 (.bslice 2 1 [(.int .i64 0), (.int .i64 0)] [(0, 2, (.t 25))]),
 .o 27 (.app 2 (.t 23) (.t 26)),
 .mv 3 27]
def cround_r8 : List Ins := [.o 28 (.bin .add (.t 20) (kI 1)),
 .mv 20 28]
def cround_r9 : List Ins := [.o 5 (.mov (kI 0))]
def cround_r10 : List Ins := [.o 29 (.faddr (.t 1) 2),
 .o 30 (.load (.t 29)),
 .o 31 (.len .slc (.t 30)),
 .o 32 (.mov (kI 0))]
def cround_r11 : List Ins := [.o 33 (.bin .lss (.t 32) (.t 31))]
def cround_r12 : List Ins := [.o 34 (.iaddr 1 (.t 30) (.t 32)),
 .o 35 (.load (.t 34)),
 .mv 7 35]
def cround_r13 : List Ins := [.mv 36 7,
 .o 37 (.len .slc (.t 36)),
 .o 38 (.mov (kI 0))]
def cround_r14 : List Ins := [.o 39 (.bin .lss (.t 38) (.t 37))]
def cround_r15 : List Ins := [.o 40 (.iaddr 1 (.t 36) (.t 38)),
 .o 41 (.load (.t 40)),
 .mv 9 41]
def cround_r16 : List Ins := [.mv 42 9,
 .o 43 (.bin .gtr (.t 42) (kI 0))]
def cround_r17 : List Ins := [.mv 44 3,
 .mv 45 5,
 .o 46 (.build [(.int .i64 0), (.int .i64 0)] [(0, 1, (kI 3)), (1, 1, (.t 45))]),
 .o 47 (.bslice 2 1 [(.int .i64 0), (.int .i64 0)] [(0, 2, (.t 46))]),
 .o 48 (.app 2 (.t 44) (.t 47)),
 .mv 3 48]
def cround_r18 : List Ins := [.mv 49 5,
 .o 50 (.bin .add (.t 49) (kI 1)),
 .mv 5 50]
def cround_r19 : List Ins := [.o 51 (.bin .add (.t 38) (kI 1)),
 .mv 38 51]
def cround_r20 : List Ins := [.o 52 (.bin .add (.t 32) (kI 1)),
 .mv 32 52]
def cround_r21 : List Ins := [.mv 53 3,
 .mv 2 53]
def cround_c : IC := (.seq (.reg cround_r0) (.seq (.seq (.reg cround_r1) (.cond (.t 17) (.seq (.reg cround_r2) .ret) .skip)) (.seq (.reg cround_r3) (.seq (.seq (.reg cround_r4) (.block 0 (.loop (.seq (.reg cround_r5) (.seq (.cond (.t 21) .skip (.exit 0)) (.seq (.block 1 (.seq (.reg cround_r6) (.reg cround_r7))) (.reg cround_r8))))))) (.seq (.reg cround_r9) (.seq (.seq (.reg cround_r10) (.block 2 (.loop (.seq (.reg cround_r11) (.seq (.cond (.t 33) .skip (.exit 2)) (.seq (.block 3 (.seq (.reg cround_r12) (.seq (.reg cround_r13) (.block 4 (.loop (.seq (.reg cround_r14) (.seq (.cond (.t 39) .skip (.exit 4)) (.seq (.block 5 (.seq (.reg cround_r15) (.seq (.reg cround_r16) (.cond (.t 43) (.seq (.reg cround_r17) (.reg cround_r18)) .skip)))) (.reg cround_r19))))))))) (.reg cround_r20))))))) (.seq (.reg cround_r21) .ret)))))))
theorem cround_tab : tb 34 = some (.code 1 54 cround_c [.tmp 2]) := by kernel_rfl
theorem cround0_ok {t : TB} {nx : Nat} (ov av_ : AV) : WF tb 34 [.agg [ov, .int .i64 0, av_]] t nx (fun v t' nx' => v = .nslice ∧ nx ≤ nx' ∧ Keep t t' nx (fun _ => False)) := by
 refine k_fun cround_tab rfl ?_
 unfold cround_c
 change WC _ _ (TA.put (some _) TA.e 0) _ _ _
 refine k_seq (k_reg (r_heap (o_box (eV get_same)) rfl (fun t1 (hh2 : hv t1 = upd (hv t) nx (some (.row [ov, (.int .i64 0), av_] true))) => rO (o_mov ev_c) (r_nil (k_seq (k_seq (k_reg (rO (o_faddr (off := 1) (eV (z1 ds))) (rO (o_load eZ (lS hh2) rfl) (rO (dec_t (o_lss eZ ev_c) (by simp)) (m1 ds (r_off (wN ds) (r_off (wN (z1 ds)) (r_off (wN (z2 ds)) (rO (o_pick_t (eV (z1 (z2 ds))) ev_c) (r_nil (k_cond_t eZ (k_seq (k_reg (rO (o_mov ev_c) (r_nil (k_ret ?_))))))))))))))))))))))
 exact ⟨_, ans_tmp ds, rfl, by omega, kU kR hh2⟩
set_option maxHeartbeats 4000000 in
theorem cround_ok {t : TB} {nx bd N : Nat} {av_ : AV} {A : List (List Int)} (ov : AV) (hA : RowM t bd av_ A) (hb : bd ≤ nx) (h1 : 1 ≤ N) (h2 : N ≤ 64) (hAl : A.length ≤ 64) (hAr : ∀ l ∈ A, l.length ≤ 64) : WF tb 34 [.agg [ov, .int .i64 (N : Int), av_]] t nx (fun v t' nx' => RowQ t' nx nx' v (pks 1 N ++ pks 3 (tot A)) ∧ nx ≤ nx' ∧ Keep t t' nx (fun _ => False)) := by
 refine k_fun cround_tab rfl ?_
 unfold cround_c
 change WC _ _ (TA.put (some _) TA.e 0) _ _ _
 refine k_seq (k_reg (r_heap (o_box (eV get_same)) rfl (fun t1 (hh2 : hv t1 = upd (hv t) nx (some (.row [ov, (.int .i64 ((N : Nat) : Int)), av_] true))) => rO (o_mov ev_c) (r_nil (k_seq (k_seq (k_reg (rO (o_faddr (off := 1) (eV (z1 ds))) (rO (o_load eZ (lS hh2) rfl) ?_)))))))))
 by_cases hs3 : (((N : Nat) : Int) < 1)
 · refine rO (dec_t (o_lss eZ ev_c) hs3) (m1 ds (r_off (wN ds) (r_off (wN (z1 ds)) (r_off (wN (z2 ds)) (rO (o_pick_t (eV (z1 (z2 ds))) ev_c) (r_nil (k_cond_t eZ (k_seq (k_reg (rO (o_mov ev_c) (r_nil (k_ret ?_))))))))))))
   exfalso; omega
 refine rO (dec_f (o_lss eZ ev_c) hs3) (m1 ds (r_op (o_faddr (off := 1) (eV (z1 (z4 ds)))) (want_on ds) (r_op (o_load eZ (lS hh2) rfl) (want_on (z1 ds)) (r_op (o_gtr eZ ev_c) (want_on (z2 ds)) (rO (o_pick_f (eV (z1 (z2 ds))) eZ) (r_nil ?_))))))
 refine k_if eZ (fun hc4 => ?_) (fun hc4 => ?_)
 · refine k_seq (k_reg (rO (o_mov ev_c) (r_nil (k_ret ?_))))
   exfalso; omega
 refine k_skip (k_seq (k_reg (rO (o_mov ev_c) (r_nil (k_seq (k_seq (k_reg (rO (o_faddr (off := 1) (eV (z2 (z8 ds)))) (rO (o_load eZ (lS hh2) rfl) (rO (o_mov ev_c) (r_nil (k_block (k_loop (fun mm Ta ta na => ∃ (i : Nat) (q : AV), (i ≤ N) ∧ (nx + 1 ≤ na) ∧ (RowQ ta (nx + 1) na q (pks 1 i)) ∧ (hv ta nx = some (.row [ov, .int .i64 ((N : Nat) : Int), av_] true)) ∧ (Ta.get 1 = some (.ptr nx 0) ∧ Ta.get 3 = some q ∧ Ta.get 19 = some (.int .i64 ((N : Nat) : Int)) ∧ Ta.get 20 = some (.int .i64 ((i : Nat) : Int))) ∧ nx ≤ na ∧ Keep t ta nx (fun _ => False) ∧ mm + i = N) (fun mm Ta ta na hI => ?_) (N) ⟨0, .nslice, by omega, by omega, .inl ⟨rfl, rfl⟩, (lS hh2), ⟨(z1 (z4 (z8 ds))), (z1 (z2 ds)), (z1 ds), ds⟩, by omega, kU kR hh2, by omega⟩)))))))))))))
 obtain ⟨i, q, hi, hna2, hQ, hrB, ⟨qa1, qa3, qa19, qa20⟩, hna, hka, hmm⟩ := hI
 refine k_seq (k_reg (rO (o_lss (eV qa20) (eV qa19)) (r_nil (k_seq ?_))))
 refine k_if eZ (fun hc5 => ?_) (fun hc5 => ?_)
 · refine k_skip (k_seq (k_block (k_seq (k_reg (m1 (z1 qa20) (m1 ds (r_nil (k_reg (m1 (z1 (z2 qa3)) (m1 (z1 ds) (rO (o_build (fill_cons ev_c rfl rfl (fill_cons eZ rfl rfl fill_nil))) (r_heap (o_bslice (fill_cons eZ rfl rfl fill_nil)) rfl (fun t6 (hh7 : hv t6 = upd (hv ta) na (some (.row [(.int .i64 1), (.int .i64 ((i : Nat) : Int))] true))) => ?_)))))))))))))
   refine r_heap (o_appE (eV (z1 (z2 ds))) eZ (app_Q (lo := (nx + 1)) (p := (1, ((i : Nat) : Int))) (hQ.keep (fun d h1 h2 => ((congrFun hh7 d).trans (upd_ne _ _ _ _ (by omega)))) (Nat.le_refl _)) (by omega) (lS hh7) (by rw [pks_len]; omega))) rfl (fun tz_ ⟨hQ2, hkq⟩ => ?_)
   refine m1 ds (r_nil (k_reg (rO (o_addN (a := i) (b := 1) (eV (z1 (z8 qa20))) ev_c (by omega)) (m1 ds (r_nil ?_)))))
   exact ⟨N - (i + 1), by omega, i + 1, (.slice (na + 1) 0 ((pks 1 i).length + 1) ((pks 1 i).length + 1) 2 false), by omega, by omega, by rw [← pks_snoc]; exact hQ2, (Keep.look hkq (by omega) (fun h_ => absurd (show (nx + 1) ≤ nx from h_) (by omega)) (lN hh7 hrB)), ⟨(z1 (z2 (z8 qa1))), (z2 ds), (z1 (z2 (z8 qa19))), ds⟩, by omega, Keep.trans (kU (hka) hh7) hkq (by omega) ((fun b hb e => absurd (show (nx + 1) ≤ b from e) (by omega))), by omega⟩
 refine k_exit (exK_same (k_seq (k_reg (rO (o_mov ev_c) (r_nil (k_seq (k_seq (k_reg (rO (o_faddr (off := 2) (eV (z2 qa1))) (rO (o_load eZ hrB rfl) (rO (o_len_M hA eZ) (rO (o_mov ev_c) (r_nil (k_block ?_))))))))))))))
 have hQ0 : RowQ ta (nx + 1) na q (pks 1 N ++ pks 3 0) := by rw [show i = N by omega] at hQ; simpa [pks] using hQ
 refine k_loop (fun mm Tb tb nb => ∃ (i k : Nat) (q : AV), (i ≤ A.length) ∧ (k = tot (A.take i)) ∧ (nx + 1 ≤ nb) ∧ (RowQ tb (nx + 1) nb q (pks 1 N ++ pks 3 k)) ∧ (hv tb nx = some (.row [ov, .int .i64 ((N : Nat) : Int), av_] true)) ∧ (Tb.get 3 = some q ∧ Tb.get 5 = some (.int .i64 ((k : Nat) : Int)) ∧ Tb.get 30 = some av_ ∧ Tb.get 31 = some (.int .i64 ((A.length : Nat) : Int)) ∧ Tb.get 32 = some (.int .i64 ((i : Nat) : Int))) ∧ nx ≤ nb ∧ Keep t tb nx (fun _ => False) ∧ mm + i = A.length) (fun mm Tb tb nb hI => ?_) (A.length) ⟨0, 0, q, by omega, rfl, by omega, hQ0, hrB, ⟨(z2 (z4 qa3)), (z4 ds), (z2 ds), (z1 ds), ds⟩, by omega, hka, by omega⟩
 obtain ⟨i, k, q, hi, hk, hnb2, hQ, hrB, ⟨qb3, qb5, qb30, qb31, qb32⟩, hnb, hkb, hmm⟩ := hI
 refine k_seq (k_reg (rO (o_lss (eV qb32) (eV qb31)) (r_nil (k_seq ?_))))
 refine k_if eZ (fun hc8 => ?_) (fun hc8 => ?_)
 · refine k_skip (k_seq (k_block (k_seq ?_)))
   have hA_ := hA
   rcases hA_ with ⟨-, h0⟩ | ⟨dM, oM, cM, exM, wrM, rM, ivs, hMe, hdM, hrM, hrlM, hsegM, hivl, hivr⟩
   · have h_ := congrArg List.length h0; simp only [List.length_nil] at h_; omega
   obtain ⟨l, hl⟩ := some_at (l := A) (i := i) (by omega)
   obtain ⟨iv, hiv⟩ := some_at (l := ivs) (i := i) (by omega)
   have hI := hivr i l iv hl hiv
   have hll := hAr l (List.mem_of_getElem? hl)
   have htf := tot_few hAl hAr i
   have hrM_ := hkb.look (by omega) id hrM
   refine k_reg (rO (o_iaddrE (i := i) (eV (z1 qb30)) hMe (eV (z1 qb32)) (by omega)) ?_)
   refine rO (o_load eZ hrM_ (by rw [Nat.mul_one]; exact rowM_get hsegM hiv)) ?_
   refine m1 ds (r_nil (k_seq (k_reg (m1 ds (rO (o_len_I hI eZ) (rO (o_mov ev_c) (r_nil (k_block ?_))))))))
   refine k_loop (fun mm Tc tc nc => ∃ (j k : Nat) (q : AV), (j ≤ l.length) ∧ (k = tot (A.take i) + pos (l.take j)) ∧ (nx + 1 ≤ nc) ∧ (RowQ tc (nx + 1) nc q (pks 1 N ++ pks 3 k)) ∧ (hv tc nx = some (.row [ov, .int .i64 ((N : Nat) : Int), av_] true)) ∧ (Tc.get 3 = some q ∧ Tc.get 5 = some (.int .i64 ((k : Nat) : Int)) ∧ Tc.get 30 = some av_ ∧ Tc.get 31 = some (.int .i64 ((A.length : Nat) : Int)) ∧ Tc.get 32 = some (.int .i64 ((i : Nat) : Int)) ∧ Tc.get 36 = some iv ∧ Tc.get 37 = some (.int .i64 ((l.length : Nat) : Int)) ∧ Tc.get 38 = some (.int .i64 ((j : Nat) : Int))) ∧ nx ≤ nc ∧ Keep t tc nx (fun _ => False) ∧ mm + j = l.length) (fun mm Tc tc nc hI => ?_) (l.length) ⟨0, k, q, by omega, by rw [List.take_zero]; simp [pos]; exact hk, by omega, hQ, hrB, ⟨(z1 (z2 (z4 qb3))), (z1 (z2 (z4 qb5))), (z1 (z2 (z4 qb30))), (z1 (z2 (z4 qb31))), (z1 (z2 (z4 qb32))), (z2 ds), (z1 ds), ds⟩, by omega, hkb, by omega⟩
   obtain ⟨j, k, q, hj, hk, hnc2, hQ, hrB, ⟨qc3, qc5, qc30, qc31, qc32, qc36, qc37, qc38⟩, hnc, hkc, hmm⟩ := hI
   refine k_seq (k_reg (rO (o_lss (eV qc38) (eV qc37)) (r_nil (k_seq ?_))))
   refine k_if eZ (fun hc9 => ?_) (fun hc9 => ?_)
   · refine k_skip (k_seq (k_block (k_seq ?_)))
     have hi_ := hI
     rcases hi_ with ⟨-, h0⟩ | ⟨dj, oj, cj, exj, wrj, rj, hej, hdj, hrj, hrlj, hsegj⟩
     · have h_ := congrArg List.length h0; simp only [List.length_nil] at h_; omega
     have hrj_ := hkc.look (by omega) id hrj
     obtain ⟨x, hx⟩ := some_at (l := l) (i := j) (by omega)
     have hpf := pos_few hll j
     refine k_reg (rO (o_iaddrE (i := j) (eV (z1 qc36)) hej (eV (z1 qc38)) (by omega)) ?_)
     refine rO (o_load eZ hrj_ (by rw [Nat.mul_one]; exact rowI_get (i := j) hsegj hx)) ?_
     refine m1 ds (r_nil (k_seq (k_reg (m1 ds (rO (o_gtr eZ ev_c) (r_nil ?_))))))
     refine k_if eZ (fun hc10 => ?_) (fun hc10 => ?_)
     · refine k_seq (k_reg (m1 (z2 (z4 qc3)) (m1 (z1 (z2 (z4 qc5))) (rO (o_build (fill_cons ev_c rfl rfl (fill_cons eZ rfl rfl fill_nil))) (r_heap (o_bslice (fill_cons eZ rfl rfl fill_nil)) rfl (fun t11 (hh12 : hv t11 = upd (hv tc) nc (some (.row [(.int .i64 3), (.int .i64 ((k : Nat) : Int))] true))) => ?_))))))
       refine r_heap (o_appE (eV (z1 (z2 ds))) eZ (app_Q (lo := (nx + 1)) (p := (3, ((k : Nat) : Int))) (hQ.keep (fun d h1 h2 => ((congrFun hh12 d).trans (upd_ne _ _ _ _ (by omega)))) (Nat.le_refl _)) (by omega) (lS hh12) (by rw [List.length_append, pks_len, pks_len]; omega))) rfl (fun tz_ ⟨hQ2, hkq⟩ => ?_)
       refine m1 ds (r_nil (k_reg (m1 (z4 (z8 qc5)) (rO (o_addN (a := k) (b := 1) eZ ev_c (by omega)) (m1 ds (r_nil (k_reg (rO (o_addN (a := j) (b := 1) (eV (z1 (z2 (z4 (z8 qc38))))) ev_c (by omega)) (m1 ds (r_nil ?_))))))))))
       exact ⟨l.length - (j + 1), by omega, j + 1, k + 1, (.slice (nc + 1) 0 ((pks 1 N ++ pks 3 k).length + 1) ((pks 1 N ++ pks 3 k).length + 1) 2 false), by omega, by rw [pos_take hx, if_pos (by omega)]; omega, by omega, (by rw [← pks_snoc, ← List.append_assoc]; exact hQ2), (Keep.look hkq (by omega) (fun h_ => absurd (show (nx + 1) ≤ nx from h_) (by omega)) (lN hh12 hrB)), ⟨(z1 (z4 ds)), (z2 ds), (z1 (z8 (z8 qc30))), (z1 (z8 (z8 qc31))), (z1 (z8 (z8 qc32))), (z1 (z8 (z8 qc36))), (z1 (z8 (z8 qc37))), ds⟩, by omega, Keep.trans (kU (hkc) hh12) hkq (by omega) ((fun b hb e => absurd (show (nx + 1) ≤ b from e) (by omega))), by omega⟩
     refine k_skip (k_reg (rO (o_addN (a := j) (b := 1) (eV (z2 (z4 qc38))) ev_c (by omega)) (m1 ds (r_nil ?_))))
     exact ⟨l.length - (j + 1), by omega, j + 1, k, q, by omega, by rw [pos_take hx, if_neg (by omega)]; omega, by omega, hQ, hrB, ⟨(z8 qc3), (z8 qc5), (z8 qc30), (z8 qc31), (z8 qc32), (z8 qc36), (z8 qc37), ds⟩, by omega, hkc, by omega⟩
   refine k_exit (exK_same (k_reg (rO (o_addN (a := i) (b := 1) (eV (z1 qc32)) ev_c (by omega)) (m1 ds (r_nil ?_)))))
   exact ⟨A.length - (i + 1), by omega, i + 1, k, q, by omega, by rw [tot_take hl]; rw [pos_all (show l.length ≤ j by omega)] at hk; exact hk, by omega, hQ, hrB, ⟨(z1 (z2 qc3)), (z1 (z2 qc5)), (z1 (z2 qc30)), (z1 (z2 qc31)), ds⟩, by omega, hkc, by omega⟩
 refine k_exit (exK_same (k_seq (k_reg (m1 (z1 qb3) (m1 ds (r_nil (k_ret ?_)))))))
 rw [tot_all (show A.length ≤ i by omega)] at hk
 subst hk
 exact ⟨_, ans_tmp ds, hQ.mono_ (by omega) (by omega), by omega, hkb⟩
theorem o_same2 {T : TA} {t : TB} {nx : Nat} {x y : Opd} {a b : Int} (hx : x.ev T = some (.agg [.int .i64 a, .int .i64 b])) (hy : y.ev T = some (.agg [.int .i64 a, .int .i64 b])) : (IOp.eqv true (.agg [(0, .int), (1, .int)]) x y).run T t nx = .ok (.bool false) t nx := by
 have c : ∀ z : Int, cellEq .int (.int .i64 z) (.int .i64 z) = some true := fun z => by
   show (match Nat.beq (kN .i64) (kN .i64) with | true => some (iEq z z) | false => none) = _
   rw [iEq_eq]; simp
 have e : eqA (.agg [(0, .int), (1, .int)]) (.agg [.int .i64 a, .int .i64 b]) (.agg [.int .i64 a, .int .i64 b]) = some true := by
   show (match cellEq .int (.int .i64 a) (.int .i64 a) with | some true => (match cellEq .int (.int .i64 b) (.int .i64 b) with | some true => some true | some false => some false | none => none) | some false => some false | none => none) = some true
   rw [c, c]
 simp only [IOp.run, hx, hy, e]
 rfl
theorem cell3 {a b : AV} {n : Int} (ha : isCell a = true) (hb : isCell b = true) : allCell [a, b, .int .i64 n] = true := by
 rw [allCell_iff]
 intro z hz
 simp only [List.mem_cons, List.not_mem_nil, or_false] at hz
 rcases hz with rfl | rfl | rfl
 · exact ha
 · exact hb
 · rfl
theorem cell3' {a b : AV} {n : Int} (ha : isCell a = true) (hb : isCell b = true) : allCell [a, .int .i64 n, b] = true := by
 rw [allCell_iff]
 intro z hz
 simp only [List.mem_cons, List.not_mem_nil, or_false] at hz
 rcases hz with rfl | rfl | rfl
 · exact ha
 · rfl
 · exact hb
theorem RowI.cell_ {t : TB} {bd : Nat} {v : AV} {l : List Int} (h : RowI t bd v l) : isCell v = true := h.cell
theorem WF.exv {f : FuncId} {vs : List AV} {t : TB} {nx : Nat} {Q : AV → TB → Nat → Prop} (h : WF tb f vs t nx Q) : WF tb f vs t nx (fun v t' nx' => ∃ q, q = v ∧ Q q t' nx') := h.mono (fun v _ _ h => ⟨v, rfl, h⟩)

end Go.Proofs.YtpjohgnhmjceiaaGreatDoor.WX

set_option linter.all false
set_option linter.unusedVariables false
set_option linter.unusedSectionVars false
set_option maxRecDepth 100000
open Go Go.Proofs.YtpjohgnhmjceiaaGreatDoor.AX Go.Proofs
namespace Go.Proofs.YtpjohgnhmjceiaaGreatDoor.WX
variable [Env]
def clawr_r0 : List Ins := [.o 6 (.mov (.c (.bool false)))]
def clawr_r1 : List Ins := [.mv 20 0,
 .f 21 13 [(.t 20)],
 .o 7 (.alloc [.nslice, .nslice, (.int .i64 0)]),
 .x (.store 3 (.t 7) (.t 21))]
def clawr_r2 : List Ins := [.o 23 (.loadA 3 (.t 7)),
 .mv 24 1,
 .o 25 (.bin .and (.t 24) (kI 63)),
 .o 26 (.bin .add (kI 1) (.t 25)),
 .f 27 32 [(.t 23), (.t 26)],
 .mv 22 27,
 .o 28 (.extr (.t 22) 0),
 .o 29 (.extr (.t 22) 1),
 .o 8 (.alloc [.nslice, (.int .i64 0), .nslice]),
 .x (.store 3 (.t 8) (.t 28)),
 .mv 9 29]
def clawr_r3 : List Ins := [.mv 30 9,
 .o 31 (.bin .neq (.t 30) (kI 0))]
def clawr_r4 : List Ins := [.o 6 (.mov (.c (.bool false)))]
def clawr_r5 : List Ins := [.o 33 (.loadA 3 (.t 8)),
 .mv 34 2,
 .f 35 33 [(.t 33), (.t 34)],
 .mv 32 35,
 .o 36 (.extr (.t 32) 0),
 .o 37 (.extr (.t 32) 1),
 .mv 10 36,
 .mv 11 37]
def clawr_r6 : List Ins := [.mv 38 2,
 .o 39 (.bin .lss (.t 38) (kI 0)),
 .mv 40 39,
 .g 41 40 false (.mov (.t 2)),
 .g 42 40 false (.bin .gtr (.t 41) (kI 1048576)),
 .o 43 (.pick (.t 40) (.c (.bool true)) (.t 42))]
def clawr_r7 : List Ins := [.mv 44 10,
 .o 45 (.bin .neq (.t 44) (kI 0)),
 .mv 46 45,
 .g 47 46 false (.mov (.t 11)),
 .g 48 46 false (.bin .neq (.t 47) (kI 1)),
 .o 49 (.pick (.t 46) (.c (.bool true)) (.t 48))]
def clawr_r8 : List Ins := [.o 6 (.mov (.c (.bool false)))]
def clawr_r9 : List Ins := [.mv 50 10,
 .mv 51 2,
 .o 52 (.bin .mul (kI 2) (.t 51)),
 .o 53 (.bin .add (.t 52) (kI 6)),
 .o 54 (.bin .neq (.t 50) (.t 53)),
 .mv 55 54,
 .g 56 55 false (.mov (.t 11)),
 .g 57 55 false (.bin .neq (.t 56) (kI 0)),
 .o 58 (.pick (.t 55) (.c (.bool true)) (.t 57))]
def clawr_r10 : List Ins := [.o 6 (.mov (.c (.bool false)))]
def clawr_r11 : List Ins := [.o 12 (.mov (kI 0))]
def clawr_r12 : List Ins := [.o 13 (.mov (kI 0))]
def clawr_r13 : List Ins := [.mv 59 13,
 .o 60 (.faddr (.t 8) 1),
 .o 61 (.load (.t 60)),
 .o 62 (.bin .lss (.t 59) (.t 61))]
def clawr_r14 : List Ins := [.o 14 (.mov (kI 0))]
def clawr_r15 : List Ins := [.mv 65 14,
 .o 66 (.faddr (.t 8) 1),
 .o 67 (.load (.t 66)),
 .o 68 (.bin .lss (.t 65) (.t 67))]
def clawr_r16 : List Ins := [.o 71 (.faddr (.t 8) 2),
 .o 72 (.load (.t 71)),
 .mv 73 13,
 .o 74 (.iaddr 1 (.t 72) (.t 73)),
 .o 75 (.load (.t 74)),
 .mv 76 14,
 .o 77 (.iaddr 1 (.t 75) (.t 76)),
 .o 78 (.load (.t 77)),
 .o 79 (.bin .gtr (.t 78) (kI 0))]
def clawr_r17 : List Ins := [.mv 80 12,
 .o 81 (.bin .add (.t 80) (kI 1)),
 .mv 12 81]
def clawr_r18 : List Ins := [.mv 69 14,
 .o 70 (.bin .add (.t 69) (kI 1)),
 .mv 14 70]
def clawr_r19 : List Ins := [.mv 63 13,
 .o 64 (.bin .add (.t 63) (kI 1)),
 .mv 13 64]
def clawr_r20 : List Ins := [.o 82 (.loadA 3 (.t 8)),
 .f 83 34 [(.t 82)],
 .mv 15 83]
def clawr_r21 : List Ins := [.mv 84 15,
 .o 85 (.len .slc (.t 84)),
 .o 86 (.faddr (.t 8) 1),
 .o 87 (.load (.t 86)),
 .mv 88 12,
 .o 89 (.bin .add (.t 87) (.t 88)),
 .o 90 (.bin .neq (.t 85) (.t 89))]
def clawr_r22 : List Ins := [.o 6 (.mov (.c (.bool false)))]
def clawr_r23 : List Ins := [.o 16 (.mov (kI 0))]
def clawr_r24 : List Ins := [.mv 91 16,
 .mv 92 15,
 .o 93 (.len .slc (.t 92)),
 .o 94 (.bin .lss (.t 91) (.t 93))]
def clawr_r25 : List Ins := [.mv 97 16,
 .o 98 (.build [(.int .i64 0), (.int .i64 0)] [(0, 1, (kI 1)), (1, 1, (.t 97))]),
 .o 17 (.alloc [(.int .i64 0), (.int .i64 0)]),
 .x (.store 2 (.t 17) (.t 98))]
def clawr_r26 : List Ins := [.mv 99 16,
 .o 100 (.faddr (.t 8) 1),
 .o 101 (.load (.t 100)),
 .o 102 (.bin .geq (.t 99) (.t 101))]
def clawr_r27 : List Ins := [.mv 103 16,
 .o 104 (.faddr (.t 8) 1),
 .o 105 (.load (.t 104)),
 .o 106 (.bin .sub (.t 103) (.t 105)),
 .o 107 (.build [(.int .i64 0), (.int .i64 0)] [(0, 1, (kI 3)), (1, 1, (.t 106))]),
 .x (.store 2 (.t 17) (.t 107))]
def clawr_r28 : List DIns := [⟨0, [], .mv 108 15⟩,
 ⟨1, [], .mv 109 16⟩,
 ⟨2, [0, 1], .o 110 (.iaddr 2 (.t 108) (.t 109))⟩,
 ⟨3, [2], .o 111 (.loadA 2 (.t 110))⟩,
 ⟨4, [], .o 112 (.loadA 2 (.t 17))⟩,
 ⟨5, [3, 4], .o 113 (.eqv true (.agg [(0, .int), (1, .int)]) (.t 111) (.t 112))⟩]
def clawr_r29 : List Ins := [.o 6 (.mov (.c (.bool false)))]
def clawr_r30 : List Ins := [.mv 95 16,
 .o 96 (.bin .add (.t 95) (kI 1)),
 .mv 16 96]
def clawr_r31 : List Ins := [.o 115 (.build [.nslice, (.int .i64 0), .nslice] []),
 .f 116 33 [(.t 115), (kI 9)],
 .mv 114 116,
 .o 117 (.extr (.t 114) 0),
 .o 118 (.extr (.t 114) 1),
 .mv 18 117,
 .mv 19 118]
def clawr_r32 : List Ins := [.mv 119 19,
 .o 120 (.bin .eql (.t 119) (kI 1)),
 .mv 121 120,
 .g 122 121 true (.build [.nslice, (.int .i64 0), .nslice] []),
 ⟨(some 123), (some (121, true)), (.callF 34 [(.t 122)])⟩,
 .g 124 121 true (.len .slc (.t 123)),
 .g 125 121 true (.bin .eql (.t 124) (kI 0)),
 .o 126 (.pick (.t 121) (.t 125) (.c (.bool false))),
 .mv 127 126,
 ⟨(some 128), (some (127, true)), (.callF 31 [])⟩,
 .o 129 (.pick (.t 127) (.t 128) (.c (.bool false))),
 .mv 6 129]
def clawr_c : IC := (.seq (.reg clawr_r0) (.seq (.reg clawr_r1) (.seq (.reg clawr_r2) (.seq (.seq (.reg clawr_r3) (.cond (.t 31) (.seq (.reg clawr_r4) .ret) .skip)) (.seq (.reg clawr_r5) (.seq (.seq (.reg clawr_r6) (.cond (.t 43) (.seq (.reg clawr_r7) (.cond (.t 49) (.seq (.reg clawr_r8) .ret) .skip)) (.seq (.reg clawr_r9) (.cond (.t 58) (.seq (.reg clawr_r10) .ret) .skip)))) (.seq (.reg clawr_r11) (.seq (.seq (.reg clawr_r12) (.block 0 (.loop (.seq (.seq (.reg clawr_r13) (.cond (.t 62) .skip (.exit 0))) (.seq (.block 1 (.seq (.reg clawr_r14) (.block 2 (.loop (.seq (.seq (.reg clawr_r15) (.cond (.t 68) .skip (.exit 2))) (.seq (.block 3 (.seq (.reg clawr_r16) (.cond (.t 79) (.reg clawr_r17) .skip))) (.reg clawr_r18))))))) (.reg clawr_r19)))))) (.seq (.reg clawr_r20) (.seq (.seq (.reg clawr_r21) (.cond (.t 90) (.seq (.reg clawr_r22) .ret) .skip)) (.seq (.seq (.reg clawr_r23) (.block 4 (.loop (.seq (.seq (.reg clawr_r24) (.cond (.t 94) .skip (.exit 4))) (.seq (.block 5 (.seq (.reg clawr_r25) (.seq (.seq (.reg clawr_r26) (.cond (.t 102) (.reg clawr_r27) .skip)) (.seq (.draw clawr_r28) (.cond (.t 113) (.seq (.reg clawr_r29) .ret) .skip))))) (.reg clawr_r30)))))) (.seq (.reg clawr_r31) (.seq (.reg clawr_r32) .ret)))))))))))))
theorem clawr_tab : tb 10 = some (.code 3 130 clawr_c [.tmp 6]) := by kernel_rfl
set_option maxHeartbeats 8000000 in
theorem clawr_ok {t : TB} {nx bd ng : Nat} {gv : AV} {b h : Int} (hgv : Rows5 t bd gv ng 5) (hb : bd ≤ nx) (hng : ng < 9223372036854775808) :
   WF tb 10 [gv, .int .i64 b, .int .i64 h] t nx (fun v t' nx' => v = .bool true ∧ nx ≤ nx' ∧ Keep t t' nx (fun _ => False)) := by
 refine k_fun clawr_tab rfl ?_
 unfold clawr_c
 change WC _ _ (TA.put (some _) (TA.put (some _) (TA.put (some _) TA.e 0) 1) 2) _ _ _
 refine k_seq (k_reg (rO (o_mov ev_c) (r_nil (k_seq (k_reg (m1 (z1 (get_other rfl (get_other rfl get_same))) (r_call (w_callF (evs_cons eZ evs_nil)) rfl (WF.mono (made_ok hgv hb hng) ?_))))))))
 rintro _ t1 n2 ⟨vn, vt, ns, ts, rfl, hn_m, hk_m, hNG, h2, h4000, hF2, hNM, hRN, hRT⟩
 obtain ⟨n_m, rfl⟩ : ∃ k, k = n2 := ⟨_, rfl⟩
 have hM := MayP.of hNG h4000 hF2 hNM h2
 have hcn := hRN.cell
 have hct := hRT.cell
 have hG : LvN ns := LvN.of hNG (by omega) (fun i x hx k hk => ((hNG i x hx).ins k (hangs_sub hk)).1)
 have hlong : ∀ x ∈ ns, x.ins.length < 60000 ∧ (∀ c ∈ x.value, c < 256) ∧ x.value.length ≤ 9223372036854775807 := fun x hx => by obtain ⟨j, hj, rfl⟩ := List.mem_iff_getElem.1 hx; have g := hNG j _ (List.getElem?_eq_getElem hj); have g2 := g.ok.len g.wide; exact ⟨by omega, g2.2.1, by omega⟩
 have htl : ts.length < 9223372036854775808 := by obtain ⟨us, hu1, hu2, -⟩ := hNM; rw [hu1]; simp; omega
 refine r_heap (o_alloc) rfl (fun t3 (hh4 : hv t3 = upd (hv t1) n_m (some (.row [.nslice, .nslice, (.int .i64 0)] true))) => r_heap (o_store (n := 3) eZ (eV (z1 ds)) (lS hh4) rfl (cell3 hcn hct) (leb rfl)) rfl (fun t5 (hh6 : hv t5 = upd (hv t3) n_m (some (.row [vn, vt, (.int .i64 ((ts.length : Nat) : Int))] true))) => r_nil (k_seq (k_reg (rO (o_loadA (n := 3) (eV (z1 ds)) (lS hh6) (leb rfl) rfl) (m1 (z2 (z4 (get_other rfl get_same))) (r_ex (o_and (m := 63) eZ ev_c (by decide)) rfl ?_)))))))
 rintro _ ⟨r7, rfl, hr8⟩
 refine rO (o_addN (a := 1) (b := r7) ev_c eZ (by omega)) (r_call (w_callF (evs_cons (eV (z1 (z2 ds))) (evs_cons eZ evs_nil))) rfl (WF.mono (prun_ok (m := (1 + r7)) (hRN.keep (show Keep t1 t5 n_m (fun _ => False) from kU (kU (Keep.refl t1 n_m _) hh4) hh6) (Nat.le_refl _)) (hRT.keep (show Keep t1 t5 n_m (fun _ => False) from kU (kU (Keep.refl t1 n_m _) hh4) hh6) (Nat.le_refl _)) (by omega) hG hM htl hlong (by omega) (by omega) (by omega)) ?_))
 rintro _ t9 n10 ⟨ov, av_, os, N, rfl, hN1, hN2, hol, hor, hRO, hRM, hn_p, hk_p⟩
 obtain ⟨n_p, rfl⟩ : ∃ k, k = n10 := ⟨_, rfl⟩
 have hAl := matL_len N (ahM ns os ns.length)
 have hAr : ∀ l ∈ matL N (ahM ns os ns.length), l.length = N := matL_row
 obtain ⟨A, hA_⟩ : ∃ A, A = matL N (ahM ns os ns.length) := ⟨_, rfl⟩
 rw [← hA_] at hAl hAr hRM
 refine m1 ds (rO (o_extr eZ rfl) (rO (o_extr (eV (z1 ds)) rfl) (r_heap (o_alloc) rfl (fun t11 (hh12 : hv t11 = upd (hv t9) n_p (some (.row [.nslice, (.int .i64 0), .nslice] true))) => r_heap (o_store (n := 3) eZ (eV (z2 ds)) (lS hh12) rfl (cell3' hRO.cell hRM.cell) (leb rfl)) rfl (fun t13 (hh14 : hv t13 = upd (hv t11) n_p (some (.row [ov, (.int .i64 ((N : Nat) : Int)), av_] true))) => m1 (z2 ds) (r_nil (k_seq (k_seq (k_reg (m1 ds (rO (ndec_f (o_neq eZ ev_c) (by simp)) (r_nil (k_cond_f eZ (k_skip (k_seq (k_reg (rO (o_loadA (n := 3) (eV (z4 ds)) (lS hh14) (leb rfl) rfl) (m1 (z1 (z2 (z8 (z8 get_same)))) (r_call (w_callF (evs_cons (eV (z1 ds)) (evs_cons eZ evs_nil))) rfl (WF.mono (crounds_ok ov av_ ((N : Nat) : Int) h) ?_))))))))))))))))))))
 rintro _ t15 n16 ⟨a1, e1, rfl, ha1, ha2, hn_c, hk_c⟩
 refine m1 ds (rO (o_extr eZ rfl) (rO (o_extr (eV (z1 ds)) rfl) (m1 (z1 ds) (m1 (z1 ds) (r_nil (k_seq (k_seq (k_reg (m1 (z2 (z8 (z8 (z8 get_same)))) ?_)))))))))
 by_cases hs17 : (h < 0)
 · refine rO (dec_t (o_lss eZ ev_c) hs17) (m1 ds (r_off (wN ds) (r_off (wN (z1 ds)) (rO (o_pick_t (eV (z2 ds)) ev_c) (r_nil ?_)))))
   refine k_cut (fun T_ t_ n_ => t15 = t_ ∧ n16 = n_ ∧ T_.get 6 = some (.bool false) ∧ T_.get 8 = some (.ptr n_p 0)) ?_ ?_
   · refine k_cond_t eZ (k_seq (k_reg (m1 (z1 (z2 (z4 ds))) ?_)))
     by_cases hs21 : (a1 = 0)
     · refine rO (ndec_f (o_neq eZ ev_c) hs21) (m1 ds (r_op (o_mov (eV (z1 (z8 ds)))) (want_on ds) (r_op (o_neq eZ ev_c) (want_on (z1 ds)) (rO (o_pick_f (eV (z2 ds)) eZ) (r_nil ?_)))))
       refine k_in eZ (fun hc22 => ?_) (fun hc22 => ?_)
       · refine k_seq (k_reg (rO (o_mov ev_c) (r_nil (k_ret ?_))))
         exfalso; omega
       refine k_skip ?_
       exact ⟨rfl, rfl, (z1 (z4 (z8 (z8 (z8 (z8 ds)))))), (z8 (z8 (z8 ds)))⟩
     refine rO (ndec_t (o_neq eZ ev_c) hs21) (m1 ds (r_off (wN ds) (r_off (wN (z1 ds)) (rO (o_pick_t (eV (z2 ds)) ev_c) (r_nil (k_cond_t eZ (k_seq (k_reg (rO (o_mov ev_c) (r_nil (k_ret ?_)))))))))))
     exfalso; omega
   rintro T18 _ _ ⟨rfl, rfl, q19, q20⟩
   refine k_seq ?_
   have hRa := hRM.keep (show Keep t9 t15 n_p (fun _ => False) from Keep.trans (kU (kU (Keep.refl t9 n_p _) hh12) hh14) hk_c (by omega) (fun d _ h => h)) (show n_p ≤ n16 by omega)
   refine k_reg (rO (o_mov ev_c) (r_nil (k_seq (k_seq (k_reg (rO (o_mov ev_c) (r_nil (k_block (k_loop (fun mm Ta ta na => ∃ (i k : Nat), (i ≤ N) ∧ (k = tot (A.take i)) ∧ (n_p + 1 ≤ na) ∧ (RowM ta na av_ A) ∧ (hv ta n_p = some (.row [ov, .int .i64 ((N : Nat) : Int), av_] true)) ∧ (Ta.get 8 = some (.ptr n_p 0) ∧ Ta.get 12 = some (.int .i64 ((k : Nat) : Int)) ∧ Ta.get 13 = some (.int .i64 ((i : Nat) : Int))) ∧ nx ≤ na ∧ Keep t ta nx (fun _ => False) ∧ mm + i = N) (fun mm Ta ta na hI => ?_) (N) ⟨0, 0, by omega, rfl, by omega, hRa, (Keep.look hk_c (by omega) id (lS hh14)), ⟨(z2 q20), (z1 ds), ds⟩, by omega, Keep.trans (kU (kU (Keep.trans (kU (kU (Keep.trans kR hk_m (by omega) (fun d _ h => h)) hh4) hh6) hk_p (by omega) (fun d _ h => h)) hh12) hh14) hk_c (by omega) (fun d _ h => h), by omega⟩)))))))))
   obtain ⟨i, k, hi, hk, hna2, hRa, hr8, ⟨qa8, qa12, qa13⟩, hna, hka, hmm⟩ := hI
   refine k_seq (k_seq (k_reg (m1 qa13 (rO (o_faddr (off := 1) (eV (z1 qa8))) (rO (o_load eZ hr8 rfl) (rO (o_lss (eV (z2 ds)) eZ) (r_nil ?_)))))))
   refine k_if eZ (fun hc23 => ?_) (fun hc23 => ?_)
   · refine k_skip (k_seq (k_block (k_seq ?_)))
     obtain ⟨l, hl⟩ := some_at (l := A) (i := i) (by omega)
     have hll := hAr l (List.mem_of_getElem? hl)
     refine k_reg (rO (o_mov ev_c) (r_nil (k_block ?_)))
     refine k_loop (fun mm Tb tb nb => ∃ (j k : Nat), (j ≤ N) ∧ (k = tot (A.take i) + pos (l.take j)) ∧ (n_p + 1 ≤ nb) ∧ (RowM tb nb av_ A) ∧ (hv tb n_p = some (.row [ov, .int .i64 ((N : Nat) : Int), av_] true)) ∧ (Tb.get 8 = some (.ptr n_p 0) ∧ Tb.get 12 = some (.int .i64 ((k : Nat) : Int)) ∧ Tb.get 13 = some (.int .i64 ((i : Nat) : Int)) ∧ Tb.get 14 = some (.int .i64 ((j : Nat) : Int))) ∧ nx ≤ nb ∧ Keep t tb nx (fun _ => False) ∧ mm + j = N) (fun mm Tb tb nb hI => ?_) (N) ⟨0, k, by omega, by rw [List.take_zero]; simp [pos]; exact hk, by omega, hRa, hr8, ⟨(z1 (z4 qa8)), (z1 (z4 qa12)), (z1 (z4 qa13)), ds⟩, by omega, hka, by omega⟩
     obtain ⟨j, k, hj, hk, hnb2, hRb, hr8, ⟨qb8, qb12, qb13, qb14⟩, hnb, hkb, hmm⟩ := hI
     refine k_seq (k_seq (k_reg (m1 qb14 (rO (o_faddr (off := 1) (eV (z1 qb8))) (rO (o_load eZ hr8 rfl) (rO (o_lss (eV (z2 ds)) eZ) (r_nil ?_)))))))
     refine k_if eZ (fun hc24 => ?_) (fun hc24 => ?_)
     · refine k_skip (k_seq (k_block (k_seq ?_)))
       have hRb_ := hRb
       rcases hRb_ with ⟨-, h0⟩ | ⟨dM, oM, cM, exM, wrM, rM, ivs, hMe, hdM, hrM, hrlM, hsegM, hivl, hivr⟩
       · have h_ := congrArg List.length h0; simp only [List.length_nil] at h_; omega
       obtain ⟨iv, hiv⟩ := some_at (l := ivs) (i := i) (by omega)
       have hI := hivr i l iv hl hiv
       rcases hI with ⟨-, h0⟩ | ⟨dj, oj, cj, exj, wrj, rj, hej, hdj, hrj, hrlj, hsegj⟩
       · have h_ := congrArg List.length h0; simp only [List.length_nil] at h_; omega
       obtain ⟨x, hx⟩ := some_at (l := l) (i := j) (by omega)
       have hpf := pos_few (show l.length ≤ 64 by omega) j
       have htf := tot_few (show A.length ≤ 64 by omega) (fun l hl => by have h_ := hAr l hl; omega) i
       refine k_reg (rO (o_faddr (off := 2) (eV (z4 qb8))) (rO (o_load eZ hr8 rfl) (m1 (z2 (z4 qb13)) (rO (o_iaddrE (i := i) (eV (z1 ds)) hMe eZ (by omega)) ?_))))
       refine rO (o_load eZ hrM (by rw [Nat.mul_one]; exact rowM_get hsegM hiv)) ?_
       refine m1 (z1 (z8 qb14)) (rO (o_iaddrE (i := j) (eV (z1 ds)) hej eZ (by omega)) ?_)
       refine rO (o_load eZ hrj (by rw [Nat.mul_one]; exact rowI_get (i := j) hsegj hx)) ?_
       refine rO (o_gtr eZ ev_c) (r_nil ?_)
       refine k_if eZ (fun hc25 => ?_) (fun hc25 => ?_)
       · refine k_reg (m1 (z1 (z4 (z8 qb12))) (rO (o_addN (a := k) (b := 1) eZ ev_c (by omega)) (m1 ds (r_nil (k_reg (m1 (z8 (z8 qb14)) (rO (o_addN (a := j) (b := 1) eZ ev_c (by omega)) (m1 ds (r_nil ?_)))))))))
         exact ⟨N - (j + 1), by omega, j + 1, k + 1, by omega, by rw [pos_take hx, if_pos (by omega)]; omega, by omega, hRb, hr8, ⟨(z1 (z2 (z8 (z8 qb8)))), (z1 (z2 ds)), (z1 (z2 (z8 (z8 qb13)))), ds⟩, by omega, hkb, by omega⟩
       refine k_skip (k_reg (m1 (z1 (z4 (z8 qb14))) (rO (o_addN (a := j) (b := 1) eZ ev_c (by omega)) (m1 ds (r_nil ?_)))))
       exact ⟨N - (j + 1), by omega, j + 1, k, by omega, by rw [pos_take hx, if_neg (by omega)]; omega, by omega, hRb, hr8, ⟨(z8 (z8 qb8)), (z8 (z8 qb12)), (z8 (z8 qb13)), ds⟩, by omega, hkb, by omega⟩
     refine k_exit (exK_same (k_reg (m1 (z4 qb13) (rO (o_addN (a := i) (b := 1) eZ ev_c (by omega)) (m1 ds (r_nil ?_))))))
     exact ⟨N - (i + 1), by omega, i + 1, k, by omega, by rw [tot_take hl, ← pos_all (show l.length ≤ j by omega)]; exact hk, by omega, hRb, hr8, ⟨(z1 (z2 (z4 qb8))), (z1 (z2 (z4 qb12))), ds⟩, by omega, hkb, by omega⟩
   refine k_exit (exK_same (k_seq ?_))
   rw [tot_all (show A.length ≤ i by omega)] at hk
   have htf := tot_few (show A.length ≤ 64 by omega) (fun l hl => by have h_ := hAr l hl; omega) A.length
   rw [tot_all (Nat.le_refl _)] at htf
   refine k_reg (rO (o_loadA (n := 3) (eV (z4 qa8)) hr8 (leb rfl) rfl) ?_)
   refine r_call (w_callF (evs_cons eZ evs_nil)) rfl (WF.mono (WF.exv (cround_ok ov hRa (Nat.le_refl _) hN1 (by omega) (by omega) (fun l hl => by have h_ := hAr l hl; omega))) ?_)
   rintro _ t26 n27 ⟨q, rfl, hq, hn_q, hk_q⟩
   obtain ⟨n_q, rfl⟩ : ∃ k, k = n27 := ⟨_, rfl⟩
   obtain ⟨ps, hps⟩ : ∃ ps, ps = pks 1 N ++ pks 3 (tot A) := ⟨_, rfl⟩
   rw [← hps] at hq
   have hpl : ps.length = N + tot A := by rw [hps]; simp [pks_len]
   refine m1 ds (r_nil (k_seq (k_seq (k_reg (m1 ds (rO (o_len_Q hq eZ) (rO (o_faddr (off := 1) (eV (z1 (z8 qa8)))) (rO (o_load eZ (Keep.look hk_q (by omega) id hr8) rfl) (m1 (z1 (z2 (z8 qa12))) (rO (o_addN (a := N) (b := k) (eV (z1 ds)) eZ (by omega)) (rO (o_neq (eV (z4 ds)) eZ) (r_nil ?_))))))))))))
   refine k_in eZ (fun hc28 => ?_) (fun hc28 => ?_)
   · refine k_seq (k_reg (rO (o_mov ev_c) (r_nil (k_ret ?_))))
     exfalso; omega
   refine k_skip (k_seq (k_seq (k_reg (rO (o_mov ev_c) (r_nil (k_block ?_))))))
   have hq1 := hq.mono_ (show n_p + 1 ≤ na by omega) (Nat.le_refl _)
   refine k_loop (fun mm Tf tf nf => ∃ (i : Nat), (i ≤ ps.length) ∧ (n_p + 1 ≤ nf) ∧ (RowQ tf (n_p + 1) nf q ps) ∧ (hv tf n_p = some (.row [ov, .int .i64 ((N : Nat) : Int), av_] true)) ∧ (Tf.get 8 = some (.ptr n_p 0) ∧ Tf.get 15 = some q ∧ Tf.get 16 = some (.int .i64 ((i : Nat) : Int))) ∧ nx ≤ nf ∧ Keep t tf nx (fun _ => False) ∧ mm + i = ps.length) (fun mm Tf tf nf hI => ?_) (ps.length) ⟨0, by omega, by omega, hq1, (Keep.look hk_q (by omega) id hr8), ⟨(z1 (z2 (z4 (z8 qa8)))), (z8 ds), ds⟩, by omega, Keep.trans (hka) hk_q (by omega) (fun d _ h => h), by omega⟩
   obtain ⟨i, hi, hnf2, hq, hr8, ⟨qf8, qf15, qf16⟩, hnf, hkf, hmm⟩ := hI
   refine k_seq (k_seq (k_reg (m1 qf16 (m1 (z1 qf15) (rO (o_len_Q hq eZ) (rO (o_lss (eV (z2 ds)) eZ) (r_nil ?_)))))))
   refine k_if eZ (fun hc29 => ?_) (fun hc29 => ?_)
   · refine k_skip (k_seq (k_block (k_seq (k_reg (m1 (z4 qf16) (rO (o_build (fill_cons ev_c rfl rfl (fill_cons eZ rfl rfl fill_nil))) (r_heap (o_alloc) rfl (fun t30 (hh31 : hv t30 = upd (hv tf) nf (some (.row [(.int .i64 0), (.int .i64 0)] true))) => r_heap (o_store (n := 2) eZ (eV (z1 ds)) (lS hh31) rfl rfl (leb rfl)) rfl (fun t32 (hh33 : hv t32 = upd (hv t30) nf (some (.row [(.int .i64 1), (.int .i64 ((i : Nat) : Int))] true))) => r_nil (k_seq (k_seq (k_reg (m1 (z8 qf16) (rO (o_faddr (off := 1) (eV (z1 (z8 qf8)))) (rO (o_load eZ (lN hh33 (lN hh31 hr8)) rfl) (rO (o_geq (eV (z2 ds)) eZ) (r_nil ?_)))))))))))))))))
     refine k_in eZ (fun hc34 => ?_) (fun hc34 => ?_)
     · refine k_reg (m1 (z4 (z8 qf16)) (rO (o_faddr (off := 1) (eV (z1 (z4 (z8 qf8))))) (rO (o_load eZ (lN hh33 (lN hh31 hr8)) rfl) (rO (o_subN (a := i) (b := N) (eV (z2 ds)) eZ (by omega) (by omega)) (rO (o_build (fill_cons ev_c rfl rfl (fill_cons eZ rfl rfl fill_nil))) (r_heap (o_store (n := 2) (eV (z2 (z8 ds))) eZ (lS hh33) rfl rfl (leb rfl)) rfl (fun t35 (hh36 : hv t35 = upd (hv t32) nf (some (.row [(.int .i64 3), (.int .i64 ((i - N : Nat) : Int))] true))) => r_nil (k_seq ?_))))))))
       have hp : ps[i]? = some (3, ((i - N : Nat) : Int)) := by rw [hps, List.getElem?_append_right (by rw [pks_len]; omega), pks_len]; exact pks_at (by omega)
       have hqg : ((flatQ ps).drop (0 + i * 2)).take 2 = [.int .i64 3, .int .i64 ((i - N : Nat) : Int)] := by rw [Nat.zero_add]; exact flatQ_get hp
       have hq_ := hq
       rcases hq_ with ⟨-, h0⟩ | ⟨dq, hqe, hdq0, hdq1, hqr⟩
       · have h_ := congrArg List.length h0; simp only [List.length_nil] at h_; omega
       have hqr0 := (show hv t35 dq = hv tf dq from ((((congrFun hh36 dq).trans (upd_ne _ _ _ _ (by omega))).trans ((congrFun hh33 dq).trans (upd_ne _ _ _ _ (by omega)))).trans ((congrFun hh31 dq).trans (upd_ne _ _ _ _ (by omega))))).trans hqr
       refine k_draw (eO 0 rfl (o_mov (eV (z2 (z8 (z8 qf15))))) (eO 1 rfl (o_mov (eV (z1 (z2 (z8 (z8 qf16)))))) (eO 2 rfl (o_iaddrE (i := i) (eV (z1 ds)) hqe eZ (by omega)) ?_)))
       refine eO 3 rfl (o_loadA (n := 2) eZ hqr0 (by rw [flatQ_len]; omega) hqg) ?_
       refine eO 4 rfl (o_loadA (n := 2) (eV (z1 (z2 (z4 (z8 ds))))) (lS hh36) (leb rfl) rfl) (eO 5 rfl (o_same2 (eV (z1 ds)) eZ) (e_done (k_cond_f eZ (k_skip (k_reg (m1 (z8 (z8 (z8 qf16))) (rO (o_addN (a := i) (b := 1) eZ ev_c (by omega)) (m1 ds (r_nil ?_)))))))))
       exact ⟨ps.length - (i + 1), by omega, i + 1, by omega, by omega, (hq.keep (fun d h1 h2 => ((((congrFun hh36 d).trans (upd_ne _ _ _ _ (by omega))).trans ((congrFun hh33 d).trans (upd_ne _ _ _ _ (by omega)))).trans ((congrFun hh31 d).trans (upd_ne _ _ _ _ (by omega))))) (by omega)), (lN hh36 (lN hh33 (lN hh31 hr8))), ⟨(z1 (z2 (z8 (z8 (z8 qf8))))), (z1 (z2 (z8 (z8 (z8 qf15))))), ds⟩, by omega, kU (kU (kU (hkf) hh31) hh33) hh36, by omega⟩
     refine k_skip (k_seq ?_)
     have hp : ps[i]? = some (1, ((i : Nat) : Int)) := by rw [hps, List.getElem?_append_left (by rw [pks_len]; omega)]; exact pks_at (by omega)
     have hqg : ((flatQ ps).drop (0 + i * 2)).take 2 = [.int .i64 1, .int .i64 ((i : Nat) : Int)] := by rw [Nat.zero_add]; exact flatQ_get hp
     have hq_ := hq
     rcases hq_ with ⟨-, h0⟩ | ⟨dq, hqe, hdq0, hdq1, hqr⟩
     · have h_ := congrArg List.length h0; simp only [List.length_nil] at h_; omega
     have hqr0 := (show hv t32 dq = hv tf dq from (((congrFun hh33 dq).trans (upd_ne _ _ _ _ (by omega))).trans ((congrFun hh31 dq).trans (upd_ne _ _ _ _ (by omega))))).trans hqr
     refine k_draw (eO 0 rfl (o_mov (eV (z4 (z8 qf15)))) (eO 1 rfl (o_mov (eV (z1 (z4 (z8 qf16))))) (eO 2 rfl (o_iaddrE (i := i) (eV (z1 ds)) hqe eZ (by omega)) ?_)))
     refine eO 3 rfl (o_loadA (n := 2) eZ hqr0 (by rw [flatQ_len]; omega) hqg) ?_
     refine eO 4 rfl (o_loadA (n := 2) (eV (z1 (z8 ds))) (lS hh33) (leb rfl) rfl) (eO 5 rfl (o_same2 (eV (z1 ds)) eZ) (e_done (k_cond_f eZ (k_skip (k_reg (m1 (z2 (z8 (z8 qf16))) (rO (o_addN (a := i) (b := 1) eZ ev_c (by omega)) (m1 ds (r_nil ?_)))))))))
     exact ⟨ps.length - (i + 1), by omega, i + 1, by omega, by omega, (hq.keep (fun d h1 h2 => (((congrFun hh33 d).trans (upd_ne _ _ _ _ (by omega))).trans ((congrFun hh31 d).trans (upd_ne _ _ _ _ (by omega))))) (by omega)), (lN hh33 (lN hh31 hr8)), ⟨(z1 (z4 (z8 (z8 qf8)))), (z1 (z4 (z8 (z8 qf15)))), ds⟩, by omega, kU (kU (hkf) hh31) hh33, by omega⟩
   refine k_exit (exK_same (k_seq (k_reg (rO (o_build fill_nil) (r_call (w_callF (evs_cons eZ (evs_cons ev_c evs_nil))) rfl (WF.mono (crounds_ok .nslice .nslice 0 9) ?_))))))
   rintro _ t37 n38 ⟨a9, e9, rfl, ha91, ha92, hn_9, hk_9⟩
   refine m1 ds (rO (o_extr eZ rfl) (rO (o_extr (eV (z1 ds)) rfl) (m1 (z1 ds) (m1 (z1 ds) (r_nil (k_seq (k_reg (m1 ds ?_))))))))
   by_cases hs39 : (e9 = 1)
   · refine rO (dec_t (o_eql eZ ev_c) hs39) (m1 ds (r_op (o_build fill_nil) (want_on ds) (r_call (w_callF (evs_cons eZ evs_nil)) (want_on (z1 ds)) (WF.mono (cround0_ok .nslice .nslice) ?_))))
     rintro _ t40 n41 ⟨rfl, hn_0, hk_0⟩
     refine r_op (o_len_nslice eZ) (want_on (z2 ds)) (r_op (dec_t (o_eql eZ ev_c) (by simp)) (want_on (z1 (z2 ds))) (rO (o_pick_t (eV (z4 ds)) eZ) (m1 ds (r_call (w_callF evs_nil) (want_on ds) (WF.mono ((k_prim (Q := fun v t' nx' => v = .bool true ∧ n41 ≤ nx' ∧ Keep t40 t' n41 (fun _ => False)) awake1_tab rfl ⟨rfl, Nat.le_refl _, kR⟩)) ?_)))))
     rintro _ t42 n43 ⟨rfl, hn_a, hk_a⟩
     refine rO (o_pick_t (eV (z1 ds)) eZ) (m1 ds (r_nil (k_ret ?_)))
     exact ⟨_, ans_tmp ds, rfl, by omega, Keep.trans (Keep.trans (Keep.trans (hkf) hk_9 (by omega) (fun d _ h => h)) hk_0 (by omega) (fun d _ h => h)) hk_a (by omega) (fun d _ h => h)⟩
   refine rO (dec_f (o_eql eZ ev_c) hs39) (m1 ds (r_off (wN ds) (r_off (wN (z1 ds)) (r_off (wN (z2 ds)) (r_off (wN (z1 (z2 ds))) (rO (o_pick_f (eV (z4 ds)) ev_c) (m1 ds (r_off (wN ds) (rO (o_pick_f (eV (z1 ds)) ev_c) (m1 ds (r_nil (k_ret ?_))))))))))))
   exfalso; omega
 refine rO (dec_f (o_lss eZ ev_c) hs17) (m1 ds (r_op (o_mov (eV (z1 (z4 (z8 (z8 (z8 get_same))))))) (want_on ds) (r_op (o_gtr eZ ev_c) (want_on (z1 ds)) (rO (o_pick_f (eV (z2 ds)) eZ) (r_nil ?_)))))
 refine k_cut (fun T_ t_ n_ => t15 = t_ ∧ n16 = n_ ∧ T_.get 6 = some (.bool false) ∧ T_.get 8 = some (.ptr n_p 0)) ?_ ?_
 · refine k_if eZ (fun hc47 => ?_) (fun hc47 => ?_)
   · refine k_seq (k_reg (m1 (z1 (z2 (z4 ds))) ?_))
     by_cases hs48 : (a1 = 0)
     · refine rO (ndec_f (o_neq eZ ev_c) hs48) (m1 ds (r_op (o_mov (eV (z1 (z8 ds)))) (want_on ds) (r_op (o_neq eZ ev_c) (want_on (z1 ds)) (rO (o_pick_f (eV (z2 ds)) eZ) (r_nil ?_)))))
       refine k_in eZ (fun hc49 => ?_) (fun hc49 => ?_)
       · refine k_seq (k_reg (rO (o_mov ev_c) (r_nil (k_ret ?_))))
         exfalso; omega
       refine k_skip ?_
       exact ⟨rfl, rfl, (z1 (z4 (z8 (z8 (z8 (z8 ds)))))), (z8 (z8 (z8 ds)))⟩
     refine rO (ndec_t (o_neq eZ ev_c) hs48) (m1 ds (r_off (wN ds) (r_off (wN (z1 ds)) (rO (o_pick_t (eV (z2 ds)) ev_c) (r_nil (k_cond_t eZ (k_seq (k_reg (rO (o_mov ev_c) (r_nil (k_ret ?_)))))))))))
     exfalso; omega
   refine k_seq (k_reg (m1 (z1 (z2 (z4 ds))) (m1 (z1 (z8 (z8 (z8 (z8 get_same))))) (rO (o_mul ev_c eZ (by omega) (by omega)) (rO (o_add eZ ev_c (by omega) (by omega)) ?_)))))
   by_cases hs50 : (a1 = ((2 * h) + 6))
   · refine rO (ndec_f (o_neq (eV (z1 (z2 ds))) eZ) hs50) (m1 ds (r_op (o_mov (eV (z4 (z8 ds)))) (want_on ds) (r_op (o_neq eZ ev_c) (want_on (z1 ds)) (rO (o_pick_f (eV (z2 ds)) eZ) (r_nil ?_)))))
     refine k_in eZ (fun hc51 => ?_) (fun hc51 => ?_)
     · refine k_seq (k_reg (rO (o_mov ev_c) (r_nil (k_ret ?_))))
       exfalso; omega
     refine k_skip ?_
     exact ⟨rfl, rfl, (z8 (z8 (z8 (z8 (z8 ds))))), (z1 (z2 (z8 (z8 (z8 ds)))))⟩
   refine rO (ndec_t (o_neq (eV (z1 (z2 ds))) eZ) hs50) (m1 ds (r_off (wN ds) (r_off (wN (z1 ds)) (rO (o_pick_t (eV (z2 ds)) ev_c) (r_nil (k_cond_t eZ (k_seq (k_reg (rO (o_mov ev_c) (r_nil (k_ret ?_)))))))))))
   exfalso; omega
 rintro T44 _ _ ⟨rfl, rfl, q45, q46⟩
 refine k_seq ?_
 have hRa := hRM.keep (show Keep t9 t15 n_p (fun _ => False) from Keep.trans (kU (kU (Keep.refl t9 n_p _) hh12) hh14) hk_c (by omega) (fun d _ h => h)) (show n_p ≤ n16 by omega)
 refine k_reg (rO (o_mov ev_c) (r_nil (k_seq (k_seq (k_reg (rO (o_mov ev_c) (r_nil (k_block (k_loop (fun mm Ta ta na => ∃ (i k : Nat), (i ≤ N) ∧ (k = tot (A.take i)) ∧ (n_p + 1 ≤ na) ∧ (RowM ta na av_ A) ∧ (hv ta n_p = some (.row [ov, .int .i64 ((N : Nat) : Int), av_] true)) ∧ (Ta.get 8 = some (.ptr n_p 0) ∧ Ta.get 12 = some (.int .i64 ((k : Nat) : Int)) ∧ Ta.get 13 = some (.int .i64 ((i : Nat) : Int))) ∧ nx ≤ na ∧ Keep t ta nx (fun _ => False) ∧ mm + i = N) (fun mm Ta ta na hI => ?_) (N) ⟨0, 0, by omega, rfl, by omega, hRa, (Keep.look hk_c (by omega) id (lS hh14)), ⟨(z2 q46), (z1 ds), ds⟩, by omega, Keep.trans (kU (kU (Keep.trans (kU (kU (Keep.trans kR hk_m (by omega) (fun d _ h => h)) hh4) hh6) hk_p (by omega) (fun d _ h => h)) hh12) hh14) hk_c (by omega) (fun d _ h => h), by omega⟩)))))))))
 obtain ⟨i, k, hi, hk, hna2, hRa, hr8, ⟨qa8, qa12, qa13⟩, hna, hka, hmm⟩ := hI
 refine k_seq (k_seq (k_reg (m1 qa13 (rO (o_faddr (off := 1) (eV (z1 qa8))) (rO (o_load eZ hr8 rfl) (rO (o_lss (eV (z2 ds)) eZ) (r_nil ?_)))))))
 refine k_if eZ (fun hc52 => ?_) (fun hc52 => ?_)
 · refine k_skip (k_seq (k_block (k_seq ?_)))
   obtain ⟨l, hl⟩ := some_at (l := A) (i := i) (by omega)
   have hll := hAr l (List.mem_of_getElem? hl)
   refine k_reg (rO (o_mov ev_c) (r_nil (k_block ?_)))
   refine k_loop (fun mm Tb tb nb => ∃ (j k : Nat), (j ≤ N) ∧ (k = tot (A.take i) + pos (l.take j)) ∧ (n_p + 1 ≤ nb) ∧ (RowM tb nb av_ A) ∧ (hv tb n_p = some (.row [ov, .int .i64 ((N : Nat) : Int), av_] true)) ∧ (Tb.get 8 = some (.ptr n_p 0) ∧ Tb.get 12 = some (.int .i64 ((k : Nat) : Int)) ∧ Tb.get 13 = some (.int .i64 ((i : Nat) : Int)) ∧ Tb.get 14 = some (.int .i64 ((j : Nat) : Int))) ∧ nx ≤ nb ∧ Keep t tb nx (fun _ => False) ∧ mm + j = N) (fun mm Tb tb nb hI => ?_) (N) ⟨0, k, by omega, by rw [List.take_zero]; simp [pos]; exact hk, by omega, hRa, hr8, ⟨(z1 (z4 qa8)), (z1 (z4 qa12)), (z1 (z4 qa13)), ds⟩, by omega, hka, by omega⟩
   obtain ⟨j, k, hj, hk, hnb2, hRb, hr8, ⟨qb8, qb12, qb13, qb14⟩, hnb, hkb, hmm⟩ := hI
   refine k_seq (k_seq (k_reg (m1 qb14 (rO (o_faddr (off := 1) (eV (z1 qb8))) (rO (o_load eZ hr8 rfl) (rO (o_lss (eV (z2 ds)) eZ) (r_nil ?_)))))))
   refine k_if eZ (fun hc53 => ?_) (fun hc53 => ?_)
   · refine k_skip (k_seq (k_block (k_seq ?_)))
     have hRb_ := hRb
     rcases hRb_ with ⟨-, h0⟩ | ⟨dM, oM, cM, exM, wrM, rM, ivs, hMe, hdM, hrM, hrlM, hsegM, hivl, hivr⟩
     · have h_ := congrArg List.length h0; simp only [List.length_nil] at h_; omega
     obtain ⟨iv, hiv⟩ := some_at (l := ivs) (i := i) (by omega)
     have hI := hivr i l iv hl hiv
     rcases hI with ⟨-, h0⟩ | ⟨dj, oj, cj, exj, wrj, rj, hej, hdj, hrj, hrlj, hsegj⟩
     · have h_ := congrArg List.length h0; simp only [List.length_nil] at h_; omega
     obtain ⟨x, hx⟩ := some_at (l := l) (i := j) (by omega)
     have hpf := pos_few (show l.length ≤ 64 by omega) j
     have htf := tot_few (show A.length ≤ 64 by omega) (fun l hl => by have h_ := hAr l hl; omega) i
     refine k_reg (rO (o_faddr (off := 2) (eV (z4 qb8))) (rO (o_load eZ hr8 rfl) (m1 (z2 (z4 qb13)) (rO (o_iaddrE (i := i) (eV (z1 ds)) hMe eZ (by omega)) ?_))))
     refine rO (o_load eZ hrM (by rw [Nat.mul_one]; exact rowM_get hsegM hiv)) ?_
     refine m1 (z1 (z8 qb14)) (rO (o_iaddrE (i := j) (eV (z1 ds)) hej eZ (by omega)) ?_)
     refine rO (o_load eZ hrj (by rw [Nat.mul_one]; exact rowI_get (i := j) hsegj hx)) ?_
     refine rO (o_gtr eZ ev_c) (r_nil ?_)
     refine k_if eZ (fun hc54 => ?_) (fun hc54 => ?_)
     · refine k_reg (m1 (z1 (z4 (z8 qb12))) (rO (o_addN (a := k) (b := 1) eZ ev_c (by omega)) (m1 ds (r_nil (k_reg (m1 (z8 (z8 qb14)) (rO (o_addN (a := j) (b := 1) eZ ev_c (by omega)) (m1 ds (r_nil ?_)))))))))
       exact ⟨N - (j + 1), by omega, j + 1, k + 1, by omega, by rw [pos_take hx, if_pos (by omega)]; omega, by omega, hRb, hr8, ⟨(z1 (z2 (z8 (z8 qb8)))), (z1 (z2 ds)), (z1 (z2 (z8 (z8 qb13)))), ds⟩, by omega, hkb, by omega⟩
     refine k_skip (k_reg (m1 (z1 (z4 (z8 qb14))) (rO (o_addN (a := j) (b := 1) eZ ev_c (by omega)) (m1 ds (r_nil ?_)))))
     exact ⟨N - (j + 1), by omega, j + 1, k, by omega, by rw [pos_take hx, if_neg (by omega)]; omega, by omega, hRb, hr8, ⟨(z8 (z8 qb8)), (z8 (z8 qb12)), (z8 (z8 qb13)), ds⟩, by omega, hkb, by omega⟩
   refine k_exit (exK_same (k_reg (m1 (z4 qb13) (rO (o_addN (a := i) (b := 1) eZ ev_c (by omega)) (m1 ds (r_nil ?_))))))
   exact ⟨N - (i + 1), by omega, i + 1, k, by omega, by rw [tot_take hl, ← pos_all (show l.length ≤ j by omega)]; exact hk, by omega, hRb, hr8, ⟨(z1 (z2 (z4 qb8))), (z1 (z2 (z4 qb12))), ds⟩, by omega, hkb, by omega⟩
 refine k_exit (exK_same (k_seq ?_))
 rw [tot_all (show A.length ≤ i by omega)] at hk
 have htf := tot_few (show A.length ≤ 64 by omega) (fun l hl => by have h_ := hAr l hl; omega) A.length
 rw [tot_all (Nat.le_refl _)] at htf
 refine k_reg (rO (o_loadA (n := 3) (eV (z4 qa8)) hr8 (leb rfl) rfl) ?_)
 refine r_call (w_callF (evs_cons eZ evs_nil)) rfl (WF.mono (WF.exv (cround_ok ov hRa (Nat.le_refl _) hN1 (by omega) (by omega) (fun l hl => by have h_ := hAr l hl; omega))) ?_)
 rintro _ t55 n56 ⟨q, rfl, hq, hn_q, hk_q⟩
 obtain ⟨n_q, rfl⟩ : ∃ k, k = n56 := ⟨_, rfl⟩
 obtain ⟨ps, hps⟩ : ∃ ps, ps = pks 1 N ++ pks 3 (tot A) := ⟨_, rfl⟩
 rw [← hps] at hq
 have hpl : ps.length = N + tot A := by rw [hps]; simp [pks_len]
 refine m1 ds (r_nil (k_seq (k_seq (k_reg (m1 ds (rO (o_len_Q hq eZ) (rO (o_faddr (off := 1) (eV (z1 (z8 qa8)))) (rO (o_load eZ (Keep.look hk_q (by omega) id hr8) rfl) (m1 (z1 (z2 (z8 qa12))) (rO (o_addN (a := N) (b := k) (eV (z1 ds)) eZ (by omega)) (rO (o_neq (eV (z4 ds)) eZ) (r_nil ?_))))))))))))
 refine k_in eZ (fun hc57 => ?_) (fun hc57 => ?_)
 · refine k_seq (k_reg (rO (o_mov ev_c) (r_nil (k_ret ?_))))
   exfalso; omega
 refine k_skip (k_seq (k_seq (k_reg (rO (o_mov ev_c) (r_nil (k_block ?_))))))
 have hq1 := hq.mono_ (show n_p + 1 ≤ na by omega) (Nat.le_refl _)
 refine k_loop (fun mm Tf tf nf => ∃ (i : Nat), (i ≤ ps.length) ∧ (n_p + 1 ≤ nf) ∧ (RowQ tf (n_p + 1) nf q ps) ∧ (hv tf n_p = some (.row [ov, .int .i64 ((N : Nat) : Int), av_] true)) ∧ (Tf.get 8 = some (.ptr n_p 0) ∧ Tf.get 15 = some q ∧ Tf.get 16 = some (.int .i64 ((i : Nat) : Int))) ∧ nx ≤ nf ∧ Keep t tf nx (fun _ => False) ∧ mm + i = ps.length) (fun mm Tf tf nf hI => ?_) (ps.length) ⟨0, by omega, by omega, hq1, (Keep.look hk_q (by omega) id hr8), ⟨(z1 (z2 (z4 (z8 qa8)))), (z8 ds), ds⟩, by omega, Keep.trans (hka) hk_q (by omega) (fun d _ h => h), by omega⟩
 obtain ⟨i, hi, hnf2, hq, hr8, ⟨qf8, qf15, qf16⟩, hnf, hkf, hmm⟩ := hI
 refine k_seq (k_seq (k_reg (m1 qf16 (m1 (z1 qf15) (rO (o_len_Q hq eZ) (rO (o_lss (eV (z2 ds)) eZ) (r_nil ?_)))))))
 refine k_if eZ (fun hc58 => ?_) (fun hc58 => ?_)
 · refine k_skip (k_seq (k_block (k_seq (k_reg (m1 (z4 qf16) (rO (o_build (fill_cons ev_c rfl rfl (fill_cons eZ rfl rfl fill_nil))) (r_heap (o_alloc) rfl (fun t59 (hh60 : hv t59 = upd (hv tf) nf (some (.row [(.int .i64 0), (.int .i64 0)] true))) => r_heap (o_store (n := 2) eZ (eV (z1 ds)) (lS hh60) rfl rfl (leb rfl)) rfl (fun t61 (hh62 : hv t61 = upd (hv t59) nf (some (.row [(.int .i64 1), (.int .i64 ((i : Nat) : Int))] true))) => r_nil (k_seq (k_seq (k_reg (m1 (z8 qf16) (rO (o_faddr (off := 1) (eV (z1 (z8 qf8)))) (rO (o_load eZ (lN hh62 (lN hh60 hr8)) rfl) (rO (o_geq (eV (z2 ds)) eZ) (r_nil ?_)))))))))))))))))
   refine k_in eZ (fun hc63 => ?_) (fun hc63 => ?_)
   · refine k_reg (m1 (z4 (z8 qf16)) (rO (o_faddr (off := 1) (eV (z1 (z4 (z8 qf8))))) (rO (o_load eZ (lN hh62 (lN hh60 hr8)) rfl) (rO (o_subN (a := i) (b := N) (eV (z2 ds)) eZ (by omega) (by omega)) (rO (o_build (fill_cons ev_c rfl rfl (fill_cons eZ rfl rfl fill_nil))) (r_heap (o_store (n := 2) (eV (z2 (z8 ds))) eZ (lS hh62) rfl rfl (leb rfl)) rfl (fun t64 (hh65 : hv t64 = upd (hv t61) nf (some (.row [(.int .i64 3), (.int .i64 ((i - N : Nat) : Int))] true))) => r_nil (k_seq ?_))))))))
     have hp : ps[i]? = some (3, ((i - N : Nat) : Int)) := by rw [hps, List.getElem?_append_right (by rw [pks_len]; omega), pks_len]; exact pks_at (by omega)
     have hqg : ((flatQ ps).drop (0 + i * 2)).take 2 = [.int .i64 3, .int .i64 ((i - N : Nat) : Int)] := by rw [Nat.zero_add]; exact flatQ_get hp
     have hq_ := hq
     rcases hq_ with ⟨-, h0⟩ | ⟨dq, hqe, hdq0, hdq1, hqr⟩
     · have h_ := congrArg List.length h0; simp only [List.length_nil] at h_; omega
     have hqr0 := (show hv t64 dq = hv tf dq from ((((congrFun hh65 dq).trans (upd_ne _ _ _ _ (by omega))).trans ((congrFun hh62 dq).trans (upd_ne _ _ _ _ (by omega)))).trans ((congrFun hh60 dq).trans (upd_ne _ _ _ _ (by omega))))).trans hqr
     refine k_draw (eO 0 rfl (o_mov (eV (z2 (z8 (z8 qf15))))) (eO 1 rfl (o_mov (eV (z1 (z2 (z8 (z8 qf16)))))) (eO 2 rfl (o_iaddrE (i := i) (eV (z1 ds)) hqe eZ (by omega)) ?_)))
     refine eO 3 rfl (o_loadA (n := 2) eZ hqr0 (by rw [flatQ_len]; omega) hqg) ?_
     refine eO 4 rfl (o_loadA (n := 2) (eV (z1 (z2 (z4 (z8 ds))))) (lS hh65) (leb rfl) rfl) (eO 5 rfl (o_same2 (eV (z1 ds)) eZ) (e_done (k_cond_f eZ (k_skip (k_reg (m1 (z8 (z8 (z8 qf16))) (rO (o_addN (a := i) (b := 1) eZ ev_c (by omega)) (m1 ds (r_nil ?_)))))))))
     exact ⟨ps.length - (i + 1), by omega, i + 1, by omega, by omega, (hq.keep (fun d h1 h2 => ((((congrFun hh65 d).trans (upd_ne _ _ _ _ (by omega))).trans ((congrFun hh62 d).trans (upd_ne _ _ _ _ (by omega)))).trans ((congrFun hh60 d).trans (upd_ne _ _ _ _ (by omega))))) (by omega)), (lN hh65 (lN hh62 (lN hh60 hr8))), ⟨(z1 (z2 (z8 (z8 (z8 qf8))))), (z1 (z2 (z8 (z8 (z8 qf15))))), ds⟩, by omega, kU (kU (kU (hkf) hh60) hh62) hh65, by omega⟩
   refine k_skip (k_seq ?_)
   have hp : ps[i]? = some (1, ((i : Nat) : Int)) := by rw [hps, List.getElem?_append_left (by rw [pks_len]; omega)]; exact pks_at (by omega)
   have hqg : ((flatQ ps).drop (0 + i * 2)).take 2 = [.int .i64 1, .int .i64 ((i : Nat) : Int)] := by rw [Nat.zero_add]; exact flatQ_get hp
   have hq_ := hq
   rcases hq_ with ⟨-, h0⟩ | ⟨dq, hqe, hdq0, hdq1, hqr⟩
   · have h_ := congrArg List.length h0; simp only [List.length_nil] at h_; omega
   have hqr0 := (show hv t61 dq = hv tf dq from (((congrFun hh62 dq).trans (upd_ne _ _ _ _ (by omega))).trans ((congrFun hh60 dq).trans (upd_ne _ _ _ _ (by omega))))).trans hqr
   refine k_draw (eO 0 rfl (o_mov (eV (z4 (z8 qf15)))) (eO 1 rfl (o_mov (eV (z1 (z4 (z8 qf16))))) (eO 2 rfl (o_iaddrE (i := i) (eV (z1 ds)) hqe eZ (by omega)) ?_)))
   refine eO 3 rfl (o_loadA (n := 2) eZ hqr0 (by rw [flatQ_len]; omega) hqg) ?_
   refine eO 4 rfl (o_loadA (n := 2) (eV (z1 (z8 ds))) (lS hh62) (leb rfl) rfl) (eO 5 rfl (o_same2 (eV (z1 ds)) eZ) (e_done (k_cond_f eZ (k_skip (k_reg (m1 (z2 (z8 (z8 qf16))) (rO (o_addN (a := i) (b := 1) eZ ev_c (by omega)) (m1 ds (r_nil ?_)))))))))
   exact ⟨ps.length - (i + 1), by omega, i + 1, by omega, by omega, (hq.keep (fun d h1 h2 => (((congrFun hh62 d).trans (upd_ne _ _ _ _ (by omega))).trans ((congrFun hh60 d).trans (upd_ne _ _ _ _ (by omega))))) (by omega)), (lN hh62 (lN hh60 hr8)), ⟨(z1 (z4 (z8 (z8 qf8)))), (z1 (z4 (z8 (z8 qf15)))), ds⟩, by omega, kU (kU (hkf) hh60) hh62, by omega⟩
 refine k_exit (exK_same (k_seq (k_reg (rO (o_build fill_nil) (r_call (w_callF (evs_cons eZ (evs_cons ev_c evs_nil))) rfl (WF.mono (crounds_ok .nslice .nslice 0 9) ?_))))))
 rintro _ t66 n67 ⟨a9, e9, rfl, ha91, ha92, hn_9, hk_9⟩
 refine m1 ds (rO (o_extr eZ rfl) (rO (o_extr (eV (z1 ds)) rfl) (m1 (z1 ds) (m1 (z1 ds) (r_nil (k_seq (k_reg (m1 ds ?_))))))))
 by_cases hs68 : (e9 = 1)
 · refine rO (dec_t (o_eql eZ ev_c) hs68) (m1 ds (r_op (o_build fill_nil) (want_on ds) (r_call (w_callF (evs_cons eZ evs_nil)) (want_on (z1 ds)) (WF.mono (cround0_ok .nslice .nslice) ?_))))
   rintro _ t69 n70 ⟨rfl, hn_0, hk_0⟩
   refine r_op (o_len_nslice eZ) (want_on (z2 ds)) (r_op (dec_t (o_eql eZ ev_c) (by simp)) (want_on (z1 (z2 ds))) (rO (o_pick_t (eV (z4 ds)) eZ) (m1 ds (r_call (w_callF evs_nil) (want_on ds) (WF.mono ((k_prim (Q := fun v t' nx' => v = .bool true ∧ n70 ≤ nx' ∧ Keep t69 t' n70 (fun _ => False)) awake1_tab rfl ⟨rfl, Nat.le_refl _, kR⟩)) ?_)))))
   rintro _ t71 n72 ⟨rfl, hn_a, hk_a⟩
   refine rO (o_pick_t (eV (z1 ds)) eZ) (m1 ds (r_nil (k_ret ?_)))
   exact ⟨_, ans_tmp ds, rfl, by omega, Keep.trans (Keep.trans (Keep.trans (hkf) hk_9 (by omega) (fun d _ h => h)) hk_0 (by omega) (fun d _ h => h)) hk_a (by omega) (fun d _ h => h)⟩
 refine rO (dec_f (o_eql eZ ev_c) hs68) (m1 ds (r_off (wN ds) (r_off (wN (z1 ds)) (r_off (wN (z2 ds)) (r_off (wN (z1 (z2 ds))) (rO (o_pick_f (eV (z4 ds)) ev_c) (m1 ds (r_off (wN ds) (rO (o_pick_f (eV (z1 ds)) ev_c) (m1 ds (r_nil (k_ret ?_))))))))))))
 exfalso; omega
end Go.Proofs.YtpjohgnhmjceiaaGreatDoor.WX

