/- The program's functions in the evaluator's terms: engine.Run over delays, and the law: what each of them answers, whatever comes in.
   Conditions: those of each theorem. -/
import Derived.Test.YtpjohgnhmjceiaaGreatDoorWx2
set_option linter.all false
set_option linter.unusedVariables false
set_option linter.unusedSectionVars false
set_option maxRecDepth 100000
open Go Go.Proofs.YtpjohgnhmjceiaaGreatDoor.AX Go.Proofs
namespace Go.Proofs.YtpjohgnhmjceiaaGreatDoor.WX
variable [Env]
theorem recv_load {t : TB} {b o : Nat} {l : List AV} {wr : Bool} {v : AV} (hb : hv t b = some (.row l wr)) (hl : l[o]? = some v) : recvA (some (1, false)) (.ptr b o) t = some v := by
 obtain ⟨c, h1, h2⟩ := row_iff.1 hb
 simp only [recvA, h1]
 rw [h2 o (List.getElem?_eq_some_iff.1 hl).1, hl]
theorem o_tassert {T : TA} {t : TB} {nx : Nat} {ty : Nat} {z u : AV} {x : Opd} (hx : x.ev T = some (.iface ty u)) : (IOp.tassert ty z x false).run T t nx = .ok u t nx := by
 simp only [IOp.run, hx]
 simp
theorem o_iface {T : TA} {t : TB} {nx ty : Nat} {x : Opd} {v : AV} (hx : x.ev T = some v) : (IOp.iface ty x).run T t nx = .ok (.iface ty v) t nx := by
 simp only [IOp.run, hx]
theorem o_half1 {T : TA} {t : TB} {nx : Nat} {x : Opd} {j : Nat} (hx : x.ev T = some (.int .i64 ((j : Int) - 1))) (hj : j < 9223372036854775808) : (IOp.bin .quo x (kI 2)).run T t nx = .ok (.int .i64 (((j - 1) / 2 : Nat) : Int)) t nx := by
 refine o_bin hx ev_c rfl (by decide) (by decide) ?_
 show (match iEq 2 0 with | true => none | false => some (AV.int .i64 (wrapF .i64 (Int.tdiv ((j : Int) - 1) 2)))) = _
 have e : Int.tdiv ((j : Int) - 1) 2 = (((j - 1) / 2 : Nat) : Int) := by
   cases j with
   | zero => decide
   | succ k => rw [show ((k + 1 : Nat) : Int) - 1 = (k : Int) by omega, Nat.add_sub_cancel]; rfl
 rw [e, show iEq 2 0 = false from rfl]
 dsimp only
 rw [wrap_in _ (by omega) (by omega)]
def QE (t : TB) (nx D : Nat) (qv : AV) : Prop := D < nx ∧ (qv = .nslice ∨ qv = .slice D 0 0 1 3 false ∧ ∃ r, hv t D = some (.row r true) ∧ r.length = 3)
theorem src_3 {t : TB} {e : Nat} {cs : List AV} {wr ex : Bool} (he : hv t e = some (.row cs wr)) (hcs : cs.length = 3) : srcCells (.slice e 0 1 1 3 ex) 1 3 t = some cs := by
 rw [src_row (k := 1) he (by omega), Nat.one_mul]
 congr 1
 exact whole hcs
theorem app_D {t : TB} {nx D e : Nat} {qv : AV} {cs : List AV} {wr ex : Bool} (hq : QE t nx D qv) (he : hv t e = some (.row cs wr)) (hcs : cs.length = 3) (hc : allCell cs = true) :
   ∃ D' nx', nx ≤ nx' ∧ ∃ t', appendA 3 qv (.slice e 0 1 1 3 ex) t nx = .ok (.slice D' 0 1 1 3 false) t' nx' ∧ ((D' = D ∨ nx ≤ D') ∧ D' < nx' ∧ hv t' D' = some (.row cs true) ∧ Keep t t' nx (fun b => b = D)) := by
 obtain ⟨h0, rfl | ⟨rfl, r, hr, hl⟩⟩ := hq
 · obtain ⟨t', h1, h2⟩ := app_nil (t := t) (nx := nx) (sz := 3) (k := 1) (y := .slice e 0 1 1 3 ex) rfl (src_3 he hcs) hc (by decide) (by omega)
   exact ⟨nx, nx + 1, by omega, t', h1, .inr (Nat.le_refl _), by omega, lS h2, Keep.upd kR h2 (.inl (Nat.le_refl _))⟩
 · obtain ⟨t', h1, h2⟩ := app_in (t := t) (nx := nx) (sz := 3) (k := 1) (o := 0) (n := 0) (c := 1) (ex := false) (y := .slice e 0 1 1 3 ex) rfl (src_3 he hcs) hc hr (by omega) (by rw [hcs]; omega)
   refine ⟨D, nx, by omega, t', h1, .inl rfl, h0, ?_, Keep.upd kR h2 (.inr rfl)⟩
   rw [lS h2]
   unfold splice
   have h3 : 0 + 0 * 3 = 0 := rfl
   rw [h3, List.take_zero, List.nil_append, hcs, List.drop_of_length_le (by omega), List.append_nil]

def dpush_r0 : List DIns := [⟨0, [], .mv 4 0⟩,
 ⟨1, [], .mv 5 0⟩,
 ⟨2, [1], .o 6 (.nilck (.t 5))⟩,
 ⟨3, [2], .o 7 (.load (.t 6))⟩,
 ⟨4, [], .mv 8 1⟩,
 ⟨5, [4], .o 9 (.tassert 109 (.agg [(.int .i64 0), (.int .i64 0), (.str [])]) (.t 8) false)⟩,
 ⟨6, [5], .o 10 (.bslice 3 1 [(.int .i64 0), (.int .i64 0), (.str [])] [(0, 3, (.t 9))])⟩,
 ⟨7, [3, 6], .o 11 (.app 3 (.t 7) (.t 10))⟩,
 ⟨8, [0, 0, 1, 2, 3, 4, 5, 6, 7], .o 12 (.nilck (.t 4))⟩,
 ⟨9, [8, 7, 7, 0, 1, 2, 3, 4, 5, 6, 7], .x (.store 1 (.t 12) (.t 11))⟩]
def dpush_c : IC := (.draw dpush_r0)
theorem dpush_tab : tb 285 = some (.code 2 13 dpush_c []) := by kernel_rfl
theorem dpush_ok {t : TB} {nx R D : Nat} {c0 c1 c2 c3 c4 c5 c6 c7 c8 qv : AV} {tm nd : Int} {s : List Nat} (hR : hv t R = some (.row [c0, c1, c2, c3, c4, c5, c6, c7, c8, qv] true)) (hRn : R < nx) (hq : QE t nx D qv) (hDR : D ≠ R) : WF tb 285 [.ptr R 9, (.iface 109 (.agg [(.int .i64 tm), (.int .i64 nd), (.str s)]))] t nx (fun v t' nx' => v = .tup [] ∧ ∃ D' : Nat, (D' = D ∨ nx ≤ D') ∧ D' ≠ R ∧ hv t' R = some (.row [c0, c1, c2, c3, c4, c5, c6, c7, c8, (.slice D' 0 1 1 3 false)] true) ∧ hv t' D' = some (.row [.int .i64 tm, .int .i64 nd, .str s] true) ∧ D' < nx' ∧ nx ≤ nx' ∧ Keep t t' nx (fun b => b = R ∨ b = D)) := by
 have hDn := hq.1
 refine k_fun dpush_tab rfl ?_
 unfold dpush_c
 change WC _ _ (TA.put (some _) (TA.put (some _) TA.e 0) 1) _ _ _
 refine k_draw (eO 0 rfl (o_mov (eV (get_other rfl get_same))) (eO 1 rfl (o_mov (eV (z1 (get_other rfl get_same)))) (eO 2 rfl (o_nilck eZ) (eO 3 rfl (o_load eZ hR rfl) (eO 4 rfl (o_mov (eV (z4 get_same))) (eO 5 rfl (o_tassert eZ) ?_))))))
 refine d_heap (ix := 6) (pr := [5]) (d := (some 10)) (g := none) (F' := [(⟨3, [2], .o 7 (.load (.t 6))⟩, qv), (⟨2, [1], .o 6 (.nilck (.t 5))⟩, (.ptr R 9)), (⟨1, [], .mv 5 0⟩, (.ptr R 9)), (⟨0, [], .mv 4 0⟩, (.ptr R 9))]) (o := (.bslice 3 1 [(.int .i64 0), (.int .i64 0), (.str [])] [(0, 3, (.t 9))])) (o_bslice (fill_cons eZ rfl rfl fill_nil)) rfl (by kernel_rfl) (by kernel_rfl) (by kernel_rfl) (by kernel_rfl) (fun t1 (hh2 : hv t1 = upd (hv t) nx (some (.row [(.int .i64 tm), (.int .i64 nd), (.str s)] true))) => ⟨?_, ?_⟩)
 · exact (all_cons_ (still_op rfl rfl (o_load (eV (z4 ds)) (lN hh2 hR) rfl) (aeq_flat (by rcases hq.2 with h_ | ⟨h_, -⟩ <;> rw [h_] <;> rfl))) (all_cons_ (still_op rfl rfl (o_nilck (eV (z1 (z4 ds)))) (aeq_flat rfl)) (all_cons_ (still_op rfl rfl (o_mov (eV (z1 (z2 (z4 (get_other rfl get_same)))))) (aeq_flat rfl)) (all_cons_ (still_op rfl rfl (o_mov (eV (z1 (z2 (z4 (get_other rfl get_same)))))) (aeq_flat rfl)) all_nil_))))
 have hq2 : QE t1 (nx + 1) D qv := ⟨by omega, hq.2.elim .inl (fun ⟨h1_, r, h2_, h3_⟩ => .inr ⟨h1_, r, (show Keep t t1 nx (fun _ => False) from kU kR hh2).look (by omega) id h2_, h3_⟩)⟩
 obtain ⟨D2, n2, hn2, hap⟩ := app_D (ex := true) hq2 (lS hh2) rfl rfl
 refine d_heap (ix := 7) (pr := [3, 6]) (d := (some 11)) (g := none) (F' := [(⟨0, [], .mv 4 0⟩, (.ptr R 9))]) (o := (.app 3 (.t 7) (.t 10))) (o_appE (eV (z1 (z2 ds))) eZ hap) rfl (by kernel_rfl) (by kernel_rfl) (by kernel_rfl) (by kernel_rfl) (fun ta ⟨hd2, hd3, hrD2, hka⟩ => ⟨?_, ?_⟩)
 · exact (all_cons_ (still_op rfl rfl (o_mov (eV (z8 (get_other rfl get_same)))) (aeq_flat rfl)) all_nil_)
 refine eO 8 rfl (o_nilck (eV (z1 (z2 (z4 ds))))) ?_
 refine d_heap (ix := 9) (pr := [8, 7, 7, 0, 1, 2, 3, 4, 5, 6, 7]) (d := none) (g := none) (F' := []) (o := (.store 1 (.t 12) (.t 11))) (o_store (n := 1) eZ (eV (z1 ds)) (Keep.look hka (by omega) (fun h_ => absurd (show R = D from h_) (by omega)) (lN hh2 hR)) rfl rfl (leb rfl)) rfl (by kernel_rfl) (by kernel_rfl) (by kernel_rfl) (by kernel_rfl) (fun t3 (hh4 : hv t3 = upd (hv ta) R (some (.row [c0, c1, c2, c3, c4, c5, c6, c7, c8, (.slice D2 0 1 1 3 false)] true))) => ⟨?_, ?_⟩)
 · exact all_nil_
 refine e_done ?_
 exact ⟨_, ans_none, rfl, D2, by omega, by omega, (lS hh4), (lN hh4 hrD2), hd3, by omega, Keep.upd (Keep.trans (kU kR hh2) hka (by omega) ((fun _ _ h => .inr h))) hh4 (.inr (.inl rfl))⟩
def dpop_r0 : List Ins := [.o 2 (.mov (.c .niface))]
def dpop_r1 : List Ins := [.mv 5 0,
 .o 6 (.nilck (.t 5)),
 .o 7 (.load (.t 6)),
 .o 8 (.len .slc (.t 7)),
 .o 9 (.bin .sub (.t 8) (kI 1)),
 .mv 3 9]
def dpop_r2 : List Ins := [.mv 10 0,
 .o 11 (.nilck (.t 10)),
 .o 12 (.load (.t 11)),
 .mv 13 3,
 .o 14 (.iaddr 3 (.t 12) (.t 13)),
 .o 15 (.loadA 3 (.t 14)),
 .o 4 (.alloc [(.int .i64 0), (.int .i64 0), (.str [])]),
 .x (.store 3 (.t 4) (.t 15))]
def dpop_r3 : List Ins := [.mv 16 0,
 .mv 17 0,
 .o 18 (.nilck (.t 17)),
 .o 19 (.load (.t 18)),
 .mv 20 3,
 .o 21 (.cslice 3 (.t 19) none (some (.t 20)) none),
 .o 22 (.nilck (.t 16)),
 .x (.store 1 (.t 22) (.t 21))]
def dpop_r4 : List Ins := [.o 23 (.loadA 3 (.t 4)),
 .o 24 (.iface 109 (.t 23)),
 .mv 2 24]
def dpop_c : IC := (.seq (.reg dpop_r0) (.seq (.reg dpop_r1) (.seq (.reg dpop_r2) (.seq (.reg dpop_r3) (.seq (.reg dpop_r4) .ret)))))
theorem dpop_tab : tb 284 = some (.code 1 25 dpop_c [.tmp 2]) := by kernel_rfl
theorem dpop_ok {t : TB} {nx R D : Nat} {c0 c1 c2 c3 c4 c5 c6 c7 c8 : AV} {tm nd : Int} {s : List Nat} (hR : hv t R = some (.row [c0, c1, c2, c3, c4, c5, c6, c7, c8, (.slice D 0 1 1 3 false)] true)) (hRn : R < nx) (hD : hv t D = some (.row [.int .i64 tm, .int .i64 nd, .str s] true)) (hDn : D < nx) (hDR : D ≠ R) : WF tb 284 [.ptr R 9] t nx (fun v t' nx' => v = (.iface 109 (.agg [(.int .i64 tm), (.int .i64 nd), (.str s)])) ∧ hv t' R = some (.row [c0, c1, c2, c3, c4, c5, c6, c7, c8, (.slice D 0 0 1 3 false)] true) ∧ hv t' D = some (.row [.int .i64 tm, .int .i64 nd, .str s] true) ∧ nx ≤ nx' ∧ Keep t t' nx (fun b => b = R ∨ b = D)) := by
 refine k_fun dpop_tab rfl ?_
 unfold dpop_c
 change WC _ _ (TA.put (some _) TA.e 0) _ _ _
 refine k_seq (k_reg (rO (o_mov ev_c) (r_nil (k_seq (k_reg (m1 (z1 get_same) (rO (o_nilck eZ) (rO (o_load eZ hR rfl) (rO (o_len_slice eZ) (rO (o_sub eZ ev_c (by omega) (by omega)) (m1 ds (r_nil (k_seq (k_reg (m1 (z1 (z2 (z4 get_same))) (rO (o_nilck eZ) (rO (o_load eZ hR rfl) (m1 (z1 (z2 ds)) (rO (o_iaddr (i := 0) (eV (z1 ds)) eZ (by omega)) (rO (o_loadA (n := 3) eZ hD (leb rfl) rfl) (r_heap (o_alloc) rfl (fun t1 (hh2 : hv t1 = upd (hv t) nx (some (.row [(.int .i64 0), (.int .i64 0), (.str [])] true))) => r_heap (o_store (n := 3) eZ (eV (z1 ds)) (lS hh2) rfl rfl (leb rfl)) rfl (fun t3 (hh4 : hv t3 = upd (hv t1) nx (some (.row [(.int .i64 tm), (.int .i64 nd), (.str s)] true))) => r_nil (k_seq (k_reg (m1 (z1 (z2 (z4 (z8 get_same)))) (m1 (z8 (z8 get_same)) (rO (o_nilck eZ) (rO (o_load eZ (lN hh4 (lN hh2 hR)) rfl) (m1 (z4 (z8 ds)) (rO (o_cslice_hi (m := 0) (eV (z1 ds)) rfl eZ (by omega)) (rO (o_nilck (eV (z1 (z4 ds)))) (r_heap (o_store (n := 1) eZ (eV (z1 ds)) (lN hh4 (lN hh2 hR)) rfl rfl (leb rfl)) rfl (fun t5 (hh6 : hv t5 = upd (hv t3) R (some (.row [c0, c1, c2, c3, c4, c5, c6, c7, c8, (.slice D 0 0 1 3 false)] true))) => r_nil (k_seq (k_reg (rO (o_loadA (n := 3) (eV (z1 (z8 ds))) (lN hh6 (lS hh4)) (leb rfl) rfl) ?_)))))))))))))))))))))))))))))))))))))
 refine rO (o_iface eZ) (m1 ds (r_nil (k_ret ?_)))
 exact ⟨_, ans_tmp ds, rfl, (lS hh6), (lN hh6 (lN hh4 (lN hh2 hD))), by omega, Keep.upd (kU (kU kR hh2) hh4) hh6 (.inr (.inl rfl))⟩
def dlen_r0 : List Ins := [.o 2 (.mov (kI 0))]
def dlen_r1 : List Ins := [.mv 3 0,
 .o 4 (.len .slc (.t 3)),
 .mv 2 4]
def dlen_c : IC := (.seq (.reg dlen_r0) (.seq (.reg dlen_r1) .ret))
theorem dlen_tab : tb 281 = some (.code 1 5 dlen_c [.tmp 2]) := by kernel_rfl
theorem dlen_ok {t : TB} {nx D n c : Nat} {ex : Bool} : WF tb 281 [.slice D 0 n c 3 ex] t nx (fun v t' nx' => v = .int .i64 ((n : Nat) : Int) ∧ nx ≤ nx' ∧ Keep t t' nx (fun _ => False)) := by
 refine k_fun dlen_tab rfl ?_
 unfold dlen_c
 change WC _ _ (TA.put (some _) TA.e 0) _ _ _
 refine k_seq (k_reg (rO (o_mov ev_c) (r_nil (k_seq (k_reg (m1 (z1 get_same) (rO (o_len_slice eZ) (m1 ds (r_nil (k_ret ?_))))))))))
 exact ⟨_, ans_tmp ds, rfl, by omega, kR⟩
def dswap_r0 : List DIns := [⟨0, [], .mv 6 0⟩,
 ⟨1, [], .mv 7 1⟩,
 ⟨2, [], .mv 8 0⟩,
 ⟨3, [], .mv 9 2⟩,
 ⟨4, [], .mv 10 0⟩,
 ⟨5, [], .mv 11 2⟩,
 ⟨6, [4, 5], .o 12 (.iaddr 3 (.t 10) (.t 11))⟩,
 ⟨7, [6], .o 13 (.loadA 3 (.t 12))⟩,
 ⟨8, [], .mv 14 0⟩,
 ⟨9, [], .mv 15 1⟩,
 ⟨10, [8, 9], .o 16 (.iaddr 3 (.t 14) (.t 15))⟩,
 ⟨11, [10], .o 17 (.loadA 3 (.t 16))⟩,
 ⟨12, [0, 1, 0, 1, 4, 5, 6, 7, 11], .o 18 (.iaddr 3 (.t 6) (.t 7))⟩,
 ⟨13, [12, 7, 0, 1, 4, 5, 6, 7, 11], .x (.store 3 (.t 18) (.t 13))⟩,
 ⟨14, [2, 3, 0, 1, 2, 3, 4, 5, 6, 7, 8, 9, 10, 11, 12, 13], .o 19 (.iaddr 3 (.t 8) (.t 9))⟩,
 ⟨15, [14, 11, 13, 0, 1, 2, 3, 4, 5, 6, 7, 8, 9, 10, 11, 12, 13], .x (.store 3 (.t 19) (.t 17))⟩]
def dswap_c : IC := (.draw dswap_r0)
theorem dswap_tab : tb 283 = some (.code 3 20 dswap_c []) := by kernel_rfl
theorem dswap_ok {t : TB} {nx D : Nat} {tm nd : Int} {s : List Nat} (hD : hv t D = some (.row [.int .i64 tm, .int .i64 nd, .str s] true)) (hDn : D < nx) : WF tb 283 [.slice D 0 1 1 3 false, .int .i64 0, .int .i64 0] t nx (fun v t' nx' => v = .tup [] ∧ hv t' D = some (.row [.int .i64 tm, .int .i64 nd, .str s] true) ∧ nx ≤ nx' ∧ Keep t t' nx (fun b => b = D)) := by
 refine k_fun dswap_tab rfl ?_
 unfold dswap_c
 change WC _ _ (TA.put (some _) (TA.put (some _) (TA.put (some _) TA.e 0) 1) 2) _ _ _
 refine k_draw (eO 0 rfl (o_mov (eV (get_other rfl (get_other rfl get_same)))) (eO 1 rfl (o_mov (eV (z1 (get_other rfl get_same)))) (eO 2 rfl (o_mov (eV (z2 (get_other rfl (get_other rfl get_same))))) (eO 3 rfl (o_mov (eV (z1 (z2 get_same)))) (eO 4 rfl (o_mov (eV (z4 (get_other rfl (get_other rfl get_same))))) (eO 5 rfl (o_mov (eV (z1 (z4 get_same)))) (eO 6 rfl (o_iaddr (i := 0) (eV (z1 ds)) eZ (by omega)) (eO 7 rfl (o_loadA (n := 3) eZ hD (leb rfl) rfl) (eO 8 rfl (o_mov (eV (z8 (get_other rfl (get_other rfl get_same))))) (eO 9 rfl (o_mov (eV (z1 (z8 (get_other rfl get_same))))) (eO 10 rfl (o_iaddr (i := 0) (eV (z1 ds)) eZ (by omega)) (eO 11 rfl (o_loadA (n := 3) eZ hD (leb rfl) rfl) (eO 12 rfl (o_iaddr (i := 0) (eV (z1 (z2 (z8 ds)))) (eV (z2 (z8 ds))) (by omega)) ?_)))))))))))))
 refine d_heap (ix := 13) (pr := [12, 7, 0, 1, 4, 5, 6, 7, 11]) (d := none) (g := none) (F' := [(⟨3, [], .mv 9 2⟩, (.int .i64 0)), (⟨2, [], .mv 8 0⟩, (.slice D 0 1 1 3 false))]) (o := (.store 3 (.t 18) (.t 13))) (o_store (n := 3) eZ (eV (z1 (z4 ds))) hD rfl rfl (leb rfl)) rfl (by kernel_rfl) (by kernel_rfl) (by kernel_rfl) (by kernel_rfl) (fun t1 (hh2 : hv t1 = upd (hv t) D (some (.row [(.int .i64 tm), (.int .i64 nd), (.str s)] true))) => ⟨?_, ?_⟩)
 · exact (all_cons_ (still_op rfl rfl (o_mov (eV (z2 (z4 (z8 get_same))))) (aeq_flat rfl)) (all_cons_ (still_op rfl rfl (o_mov (eV (z2 (z4 (z8 (get_other rfl (get_other rfl get_same))))))) (aeq_flat rfl)) all_nil_))
 refine eO 14 rfl (o_iaddr (i := 0) (eV (z1 (z2 (z8 ds)))) (eV (z2 (z8 ds))) (by omega)) ?_
 refine d_heap (ix := 15) (pr := [14, 11, 13, 0, 1, 2, 3, 4, 5, 6, 7, 8, 9, 10, 11, 12, 13]) (d := none) (g := none) (F' := []) (o := (.store 3 (.t 19) (.t 17))) (o_store (n := 3) eZ (eV (z1 (z2 ds))) (lS hh2) rfl rfl (leb rfl)) rfl (by kernel_rfl) (by kernel_rfl) (by kernel_rfl) (by kernel_rfl) (fun t3 (hh4 : hv t3 = upd (hv t1) D (some (.row [(.int .i64 tm), (.int .i64 nd), (.str s)] true))) => ⟨?_, ?_⟩)
 · exact all_nil_
 refine e_done ?_
 exact ⟨_, ans_none, rfl, (lS hh4), by omega, Keep.upd (Keep.upd kR hh2 (.inr rfl)) hh4 (.inr rfl)⟩
def dup_r0 : List Ins := [.mv 5 1,
 .o 6 (.bin .sub (.t 5) (kI 1)),
 .o 7 (.bin .quo (.t 6) (kI 2)),
 .mv 4 7]
def dup_r1 : List Ins := [.mv 8 4,
 .mv 9 1,
 .o 10 (.bin .eql (.t 8) (.t 9)),
 .mv 11 10,
 .g 12 11 false (.mov (.t 0)),
 .g 13 11 false (.mov (.t 1)),
 .g 14 11 false (.mov (.t 4)),
 ⟨(some 15), (some (11, false)), (.callM [(111, 282, (some (1, false))), (193, 288, (some (1, false)))] (.t 12) [(.t 13), (.t 14)])⟩,
 .g 16 11 false (.not (.t 15)),
 .o 17 (.pick (.t 11) (.c (.bool true)) (.t 16))]
def dup_r2 : List Ins := [.mv 18 0,
 .mv 19 4,
 .mv 20 1,
 ⟨(some 21), none, (.callM [(111, 283, (some (1, false))), (193, 289, (some (1, false)))] (.t 18) [(.t 19), (.t 20)])⟩]
def dup_r3 : List Ins := [.mv 22 4,
 .mv 1 22]
def dup_c : IC := (.block 0 (.loop (.block 1 (.seq (.reg dup_r0) (.seq (.seq (.reg dup_r1) (.cond (.t 17) (.exit 0) .skip)) (.seq (.reg dup_r2) (.reg dup_r3)))))))
theorem dup_tab : tb 161 = some (.code 2 23 dup_c []) := by kernel_rfl
theorem dup_ok {t : TB} {nx R : Nat} : WF tb 161 [.iface 111 (.ptr R 9), .int .i64 0] t nx (fun v t' nx' => v = .tup [] ∧ nx ≤ nx' ∧ Keep t t' nx (fun _ => False)) := by
 refine k_fun dup_tab rfl ?_
 unfold dup_c
 change WC _ _ (TA.put (some _) (TA.put (some _) TA.e 0) 1) _ _ _
 refine k_block (k_loop (fun mm Tz tz nz => Tz.get 0 = some (.iface 111 (.ptr R 9)) ∧ Tz.get 1 = some (.int .i64 0) ∧ t = tz ∧ nx = nz) (fun mm Tzz1 tz nz hI => ?_) 0 ⟨(get_other rfl get_same), get_same, rfl, rfl⟩)
 obtain ⟨qzz1_0, qzz1_1, rfl, rfl⟩ := hI
 refine k_block (k_seq (k_reg (m1 qzz1_1 (rO (o_sub eZ ev_c (by omega) (by omega)) (rO (o_half1 (j := 0) eZ (by omega)) (m1 ds (r_nil (k_seq (k_seq (k_reg (m1 ds (m1 (z1 (z4 qzz1_1)) (rO (dec_t (o_eql (eV (z1 ds)) eZ) (by simp)) (m1 ds (r_off (wN ds) (r_off (wN (z1 ds)) (r_off (wN (z2 ds)) (r_off (wN (z1 (z2 ds))) (r_off (wN (z4 ds)) (rO (o_pick_t (eV (z1 (z4 ds))) ev_c) (r_nil (k_cond_t eZ (k_exit (exK_other rfl (exK_same ?_)))))))))))))))))))))))))
 exact ⟨_, ans_none, rfl, by omega, kR⟩
def ddown_r0 : List Ins := [.o 6 (.mov (.c (.bool false)))]
def ddown_r1 : List Ins := [.mv 11 1,
 .mv 7 11]
def ddown_r2 : List Ins := [.mv 12 7,
 .o 13 (.bin .mul (kI 2) (.t 12)),
 .o 14 (.bin .add (.t 13) (kI 1)),
 .mv 8 14]
def ddown_r3 : List Ins := [.mv 15 8,
 .mv 16 2,
 .o 17 (.bin .geq (.t 15) (.t 16)),
 .mv 18 17,
 .g 19 18 false (.mov (.t 8)),
 .g 20 18 false (.bin .lss (.t 19) (kI 0)),
 .o 21 (.pick (.t 18) (.c (.bool true)) (.t 20))]
def ddown_r4 : List Ins := [.mv 22 8,
 .mv 9 22]
def ddown_r5 : List Ins := [.mv 23 8,
 .o 24 (.bin .add (.t 23) (kI 1)),
 .mv 10 24]
def ddown_r6 : List Ins := [.mv 25 10,
 .mv 26 2,
 .o 27 (.bin .lss (.t 25) (.t 26)),
 .mv 28 27,
 .g 29 28 true (.mov (.t 0)),
 .g 30 28 true (.mov (.t 10)),
 .g 31 28 true (.mov (.t 8)),
 ⟨(some 32), (some (28, true)), (.callM [(111, 282, (some (1, false))), (193, 288, (some (1, false)))] (.t 29) [(.t 30), (.t 31)])⟩,
 .o 33 (.pick (.t 28) (.t 32) (.c (.bool false)))]
def ddown_r7 : List Ins := [.mv 34 10,
 .mv 9 34]
def ddown_r8 : List Ins := [.mv 35 0,
 .mv 36 9,
 .mv 37 7,
 ⟨(some 38), none, (.callM [(111, 282, (some (1, false))), (193, 288, (some (1, false)))] (.t 35) [(.t 36), (.t 37)])⟩,
 .o 39 (.not (.t 38))]
def ddown_r9 : List Ins := [.mv 40 0,
 .mv 41 7,
 .mv 42 9,
 ⟨(some 43), none, (.callM [(111, 283, (some (1, false))), (193, 289, (some (1, false)))] (.t 40) [(.t 41), (.t 42)])⟩]
def ddown_r10 : List Ins := [.mv 44 9,
 .mv 7 44]
def ddown_r11 : List Ins := [.mv 45 7,
 .mv 46 1,
 .o 47 (.bin .gtr (.t 45) (.t 46)),
 .mv 6 47]
def ddown_c : IC := (.seq (.reg ddown_r0) (.seq (.reg ddown_r1) (.seq (.block 0 (.loop (.block 1 (.seq (.reg ddown_r2) (.seq (.seq (.reg ddown_r3) (.cond (.t 21) (.exit 0) .skip)) (.seq (.reg ddown_r4) (.seq (.seq (.reg ddown_r5) (.seq (.reg ddown_r6) (.cond (.t 33) (.reg ddown_r7) .skip))) (.seq (.seq (.reg ddown_r8) (.cond (.t 39) (.exit 0) .skip)) (.seq (.reg ddown_r9) (.reg ddown_r10)))))))))) (.seq (.reg ddown_r11) .ret))))
theorem ddown_tab : tb 109 = some (.code 3 48 ddown_c [.tmp 6]) := by kernel_rfl
theorem ddown_ok {t : TB} {nx R : Nat} : WF tb 109 [.iface 111 (.ptr R 9), .int .i64 0, .int .i64 0] t nx (fun v t' nx' => v = .bool false ∧ nx ≤ nx' ∧ Keep t t' nx (fun _ => False)) := by
 refine k_fun ddown_tab rfl ?_
 unfold ddown_c
 change WC _ _ (TA.put (some _) (TA.put (some _) (TA.put (some _) TA.e 0) 1) 2) _ _ _
 refine k_seq (k_reg (rO (o_mov ev_c) (r_nil (k_seq (k_reg (m1 (z1 (get_other rfl get_same)) (m1 ds (r_nil (k_seq (k_block (k_loop (fun mm Tz tz nz => Tz.get 0 = some (.iface 111 (.ptr R 9)) ∧ Tz.get 1 = some (.int .i64 0) ∧ Tz.get 2 = some (.int .i64 0) ∧ Tz.get 7 = some (.int .i64 0) ∧ t = tz ∧ nx = nz) (fun mm Tzz1 tz nz hI => ?_) 0 ⟨(z1 (z2 (get_other rfl (get_other rfl get_same)))), (z1 (z2 (get_other rfl get_same))), (z1 (z2 get_same)), ds, rfl, rfl⟩)))))))))))
 obtain ⟨qzz1_0, qzz1_1, qzz1_2, qzz1_7, rfl, rfl⟩ := hI
 refine k_block (k_seq (k_reg (m1 qzz1_7 (rO (o_mul ev_c eZ (by omega) (by omega)) (rO (o_add eZ ev_c (by omega) (by omega)) (m1 ds (r_nil (k_seq (k_seq (k_reg (m1 ds (m1 (z1 (z4 qzz1_2)) (rO (ndec_t (o_geq (eV (z1 ds)) eZ) (by simp)) (m1 ds (r_off (wN ds) (r_off (wN (z1 ds)) (rO (o_pick_t (eV (z2 ds)) ev_c) (r_nil (k_cond_t eZ (k_exit (exK_other rfl (exK_same (k_seq (k_reg (m1 (z1 (z2 (z8 qzz1_7))) (m1 (z4 (z8 qzz1_1)) (rO (dec_f (o_gtr (eV (z1 ds)) eZ) (by simp)) (m1 ds (r_nil (k_ret ?_))))))))))))))))))))))))))))))
 exact ⟨_, ans_tmp ds, rfl, by omega, kR⟩
def dhpush_r0 : List Ins := [.mv 4 0,
 .mv 5 1,
 ⟨(some 6), none, (.callM [(111, 285, none), (193, 293, none)] (.t 4) [(.t 5)])⟩]
def dhpush_r1 : List Ins := [.mv 7 0,
 .mv 8 0,
 ⟨(some 9), none, (.callM [(111, 281, (some (1, false))), (193, 287, (some (1, false)))] (.t 8) [])⟩,
 .o 10 (.bin .sub (.t 9) (kI 1)),
 .f 11 161 [(.t 7), (.t 10)]]
def dhpush_c : IC := (.seq (.reg dhpush_r0) (.reg dhpush_r1))
theorem dhpush_tab : tb 111 = some (.code 2 12 dhpush_c []) := by kernel_rfl
theorem dhpush_ok {t : TB} {nx R D : Nat} {c0 c1 c2 c3 c4 c5 c6 c7 c8 qv : AV} {tm nd : Int} {s : List Nat} (hR : hv t R = some (.row [c0, c1, c2, c3, c4, c5, c6, c7, c8, qv] true)) (hRn : R < nx) (hq : QE t nx D qv) (hDR : D ≠ R) : WF tb 111 [.iface 111 (.ptr R 9), (.iface 109 (.agg [(.int .i64 tm), (.int .i64 nd), (.str s)]))] t nx (fun v t' nx' => v = .tup [] ∧ ∃ D' : Nat, (D' = D ∨ nx ≤ D') ∧ D' ≠ R ∧ hv t' R = some (.row [c0, c1, c2, c3, c4, c5, c6, c7, c8, (.slice D' 0 1 1 3 false)] true) ∧ hv t' D' = some (.row [.int .i64 tm, .int .i64 nd, .str s] true) ∧ D' < nx' ∧ nx ≤ nx' ∧ Keep t t' nx (fun b => b = R ∨ b = D)) := by
 refine k_fun dhpush_tab rfl ?_
 unfold dhpush_c
 change WC _ _ (TA.put (some _) (TA.put (some _) TA.e 0) 1) _ _ _
 refine k_seq (k_reg (m1 (get_other rfl get_same) (m1 (z1 get_same) (r_call (w_callM (eV (z1 ds)) (evs_cons eZ evs_nil) rfl rfl) rfl (WF.mono (dpush_ok hR hRn hq hDR) ?_)))))
 rintro _ t1 n2 ⟨rfl, D2, hd1, hd2, hR2, hD2, hd3, hn_p, hk_p⟩
 refine r_nil (k_reg (m1 (z1 (z2 (get_other rfl get_same))) (m1 (z4 (get_other rfl get_same)) (r_call (w_callM eZ evs_nil rfl (recv_load hR2 rfl)) rfl (WF.mono (dlen_ok) ?_)))))
 rintro _ t3 n4 ⟨rfl, hn_l, hk_l⟩
 refine rO (o_sub eZ ev_c (by omega) (by omega)) (r_call (w_callF (evs_cons (eV (z1 (z2 ds))) (evs_cons eZ evs_nil))) rfl (WF.mono (dup_ok) ?_))
 rintro _ t5 n6 ⟨rfl, hn_u, hk_u⟩
 refine r_nil ?_
 exact ⟨_, ans_none, rfl, D2, hd1, hd2, (Keep.look hk_u (by omega) id (Keep.look hk_l (by omega) id hR2)), (Keep.look hk_u (by omega) id (Keep.look hk_l (by omega) id hD2)), by omega, by omega, Keep.trans (Keep.trans (Keep.trans kR hk_p (by omega) ((fun _ _ h => h))) hk_l (by omega) ((fun _ _ h => h.elim))) hk_u (by omega) ((fun _ _ h => h.elim))⟩
def dhpop_r0 : List Ins := [.o 2 (.mov (.c .niface))]
def dhpop_r1 : List Ins := [.mv 4 0,
 ⟨(some 5), none, (.callM [(111, 281, (some (1, false))), (193, 287, (some (1, false)))] (.t 4) [])⟩,
 .o 6 (.bin .sub (.t 5) (kI 1)),
 .mv 3 6]
def dhpop_r2 : List Ins := [.mv 7 0,
 .mv 8 3,
 ⟨(some 9), none, (.callM [(111, 283, (some (1, false))), (193, 289, (some (1, false)))] (.t 7) [(kI 0), (.t 8)])⟩]
def dhpop_r3 : List Ins := [.mv 10 0,
 .mv 11 3,
 .f 12 109 [(.t 10), (kI 0), (.t 11)]]
def dhpop_r4 : List Ins := [.mv 13 0,
 ⟨(some 14), none, (.callM [(111, 284, none), (193, 292, none)] (.t 13) [])⟩,
 .mv 2 14]
def dhpop_c : IC := (.seq (.reg dhpop_r0) (.seq (.reg dhpop_r1) (.seq (.reg dhpop_r2) (.seq (.reg dhpop_r3) (.seq (.reg dhpop_r4) .ret)))))
theorem dhpop_tab : tb 56 = some (.code 1 15 dhpop_c [.tmp 2]) := by kernel_rfl
theorem dhpop_ok {t : TB} {nx R D : Nat} {c0 c1 c2 c3 c4 c5 c6 c7 c8 : AV} {tm nd : Int} {s : List Nat} (hR : hv t R = some (.row [c0, c1, c2, c3, c4, c5, c6, c7, c8, (.slice D 0 1 1 3 false)] true)) (hRn : R < nx) (hD : hv t D = some (.row [.int .i64 tm, .int .i64 nd, .str s] true)) (hDn : D < nx) (hDR : D ≠ R) : WF tb 56 [.iface 111 (.ptr R 9)] t nx (fun v t' nx' => v = (.iface 109 (.agg [(.int .i64 tm), (.int .i64 nd), (.str s)])) ∧ hv t' R = some (.row [c0, c1, c2, c3, c4, c5, c6, c7, c8, (.slice D 0 0 1 3 false)] true) ∧ hv t' D = some (.row [.int .i64 tm, .int .i64 nd, .str s] true) ∧ nx ≤ nx' ∧ Keep t t' nx (fun b => b = R ∨ b = D)) := by
 refine k_fun dhpop_tab rfl ?_
 unfold dhpop_c
 change WC _ _ (TA.put (some _) TA.e 0) _ _ _
 refine k_seq (k_reg (rO (o_mov ev_c) (r_nil (k_seq (k_reg (m1 (z1 get_same) (r_call (w_callM eZ evs_nil rfl (recv_load hR rfl)) rfl (WF.mono (dlen_ok) ?_))))))))
 rintro _ t1 n2 ⟨rfl, hn_l, hk_l⟩
 refine rO (o_sub eZ ev_c (by omega) (by omega)) (m1 ds (r_nil (k_seq (k_reg (m1 (z1 (z4 get_same)) (m1 (z1 ds) (r_call (w_callM (eV (z1 ds)) (evs_cons ev_c (evs_cons eZ evs_nil)) rfl (recv_load (Keep.look hk_l (by omega) id hR) rfl)) rfl (WF.mono (dswap_ok (Keep.look hk_l (by omega) id hD) (by omega)) ?_))))))))
 rintro _ t3 n4 ⟨rfl, hD2, hn_s, hk_s⟩
 refine r_nil (k_seq (k_reg (m1 (z8 get_same) (m1 (z4 ds) (r_call (w_callF (evs_cons (eV (z1 ds)) (evs_cons ev_c (evs_cons eZ evs_nil)))) rfl (WF.mono (ddown_ok) ?_))))))
 rintro _ t5 n6 ⟨rfl, hn_d, hk_d⟩
 refine r_nil (k_seq (k_reg (m1 (z1 (z2 (z8 get_same))) (r_call (w_callM eZ evs_nil rfl rfl) rfl (WF.mono (dpop_ok (Keep.look hk_d (by omega) id (Keep.look hk_s (by omega) (fun h_ => absurd (show R = D from h_) (by omega)) (Keep.look hk_l (by omega) id hR))) (by omega) (Keep.look hk_d (by omega) id hD2) (by omega) hDR) ?_)))))
 rintro _ t7 n8 ⟨rfl, hR2, hD3, hn_p, hk_p⟩
 refine m1 ds (r_nil (k_ret ?_))
 exact ⟨_, ans_tmp ds, rfl, hR2, hD3, by omega, Keep.trans (Keep.trans (Keep.trans (Keep.trans kR hk_l (by omega) ((fun _ _ h => h.elim))) hk_s (by omega) ((fun _ _ h => .inr h))) hk_d (by omega) ((fun _ _ h => h.elim))) hk_p (by omega) ((fun _ _ h => h))⟩
end Go.Proofs.YtpjohgnhmjceiaaGreatDoor.WX

set_option linter.all false
set_option linter.unusedVariables false
set_option linter.unusedSectionVars false
set_option maxRecDepth 100000
open Go Go.Proofs.YtpjohgnhmjceiaaGreatDoor.AX Go.Proofs
namespace Go.Proofs.YtpjohgnhmjceiaaGreatDoor.WX
variable [Env]
def strs (l : List (List Nat)) : List AV := l.map AV.str
theorem strs_len (l : List (List Nat)) : (strs l).length = l.length := by simp [strs]
theorem strs_get {l : List (List Nat)} {i : Nat} {s : List Nat} (h : l[i]? = some s) : (strs l)[i]? = some (.str s) := by simp [strs, h]
theorem strs_set (l : List (List Nat)) (i : Nat) (s : List Nat) : (strs l).set i (.str s) = strs (l.set i s) := by simp [strs, List.map_set]
theorem strs_all (l : List (List Nat)) : allCell (strs l) = true := by
 rw [allCell_iff]
 intro z hz
 simp only [strs, List.mem_map] at hz
 obtain ⟨s, -, rfl⟩ := hz
 rfl
theorem o_storeS {T : TA} {t : TB} {nx : Nat} {x y : Opd} {b o : Nat} {l : List (List Nat)} {s : List Nat} (h : x.ev T = some (.ptr b o)) (hy : y.ev T = some (.str s)) (hb : hv t b = some (.row (strs l) true)) (ho : o < l.length) :
   ∃ t', (IOp.store 1 x y).run T t nx = .ok .undef t' nx ∧ hv t' = upd (hv t) b (some (.row (strs (l.set o s)) true)) := by
 rw [← strs_set]
 exact o_storeC h hy rfl rfl hb (by rw [strs_len]; exact ho)
def vS (n k : Nat) : List (List Nat) := (List.range n).map (fun i => if i < k then [49] else [120])
def laS (n k : Nat) : List (List Nat) := (List.range n).map (fun i => if 0 < i ∧ i ≤ k then [49] else [120])
theorem vS_len (n k : Nat) : (vS n k).length = n := by simp [vS]
theorem laS_len (n k : Nat) : (laS n k).length = n := by simp [laS]
theorem vS_one {n k i : Nat} (h : i < n) (h1 : i < k) : (vS n k)[i]? = some [49] := by simp [vS, h, h1]
theorem vS_x {n k i : Nat} (h : i < n) (h1 : ¬ i < k) : (vS n k)[i]? = some [120] := by simp [vS, h, h1]
theorem laS_one {n k i : Nat} (h : i < n) (h0 : 0 < i) (h1 : i ≤ k) : (laS n k)[i]? = some [49] := by simp [laS, h, h0, h1]
theorem laS_x {n k i : Nat} (h : i < n) (h1 : ¬ i ≤ k) : (laS n k)[i]? = some [120] := by simp [laS, h, h1]
theorem vS_set {n k : Nat} (h : k < n) : (vS n k).set k [49] = vS n (k + 1) := by
 apply List.ext_getElem?
 intro i
 rw [List.getElem?_set]
 by_cases e : k = i
 · subst e; rw [if_pos rfl, if_pos (by rw [vS_len]; exact h), vS_one h (by omega)]
 · rw [if_neg e]
   by_cases hi : i < n
   · by_cases h2 : i < k
     · rw [vS_one hi h2, vS_one hi (by omega)]
     · rw [vS_x hi h2, vS_x hi (by omega)]
   · rw [List.getElem?_eq_none (by rw [vS_len]; omega), List.getElem?_eq_none (by rw [vS_len]; omega)]
theorem laS_set {n k : Nat} (h : k + 1 < n) : (laS n k).set (k + 1) [49] = laS n (k + 1) := by
 apply List.ext_getElem?
 intro i
 rw [List.getElem?_set]
 by_cases e : k + 1 = i
 · subst e; rw [if_pos rfl, if_pos (by rw [laS_len]; exact h), laS_one h (by omega) (by omega)]
 · rw [if_neg e]
   by_cases hi : i < n
   · by_cases h0 : i = 0
     · subst h0; unfold laS; rw [List.getElem?_map, List.getElem?_map, List.getElem?_range hi]; rfl
     · by_cases h2 : i ≤ k
       · rw [laS_one hi (by omega) h2, laS_one hi (by omega) (by omega)]
       · rw [laS_x hi h2, laS_x hi (by omega)]
   · rw [List.getElem?_eq_none (by rw [laS_len]; omega), List.getElem?_eq_none (by rw [laS_len]; omega)]
theorem laS_zero (n : Nat) : laS n 0 = vS n 0 := by
 unfold laS vS
 apply List.map_congr_left
 intro i _
 rw [if_neg (by omega), if_neg (by omega)]
def dS (m : Nat) : List Int := (List.range m).map (fun i => ((i + 1 : Nat) : Int))
theorem dS_get {m i : Nat} (h : i < m) : (dS m)[i]? = some ((i + 1 : Nat) : Int) := by simp [dS, h]
/-- An input, and delays one behind the other. -/
structure LN (ns : List Nd) (ds : List Int) : Prop where
 len : ns.length = ds.length + 1
 zero : ns[0]? = some ⟨2, 0, 1, [], [], 0, 0, 0⟩
 next : ∀ (i : Nat) (d : Int), ds[i]? = some d → ns[i + 1]? = some ⟨8, 0, 1, [(i : Int)], [], 0, 0, d⟩
 few : ds.length ≤ 60
 lim : ∀ d ∈ ds, 1 ≤ d ∧ d ≤ 4096
theorem RowI.at {t : TB} {bd i : Nat} {v : AV} {l : List Int} {a : Int} (h : RowI t bd v l) (hx : l[i]? = some a) : ∃ d o c ex wr r, v = .slice d o l.length c 1 ex ∧ d < bd ∧ hv t d = some (.row r wr) ∧ r[o + i * 1]? = some (.int .i64 a) := by
 rcases h with ⟨-, rfl⟩ | ⟨d, o, c, ex, wr, r, h1, h2, h3, h4, h5⟩
 · simp at hx
 · exact ⟨d, o, c, ex, wr, r, h1, h2, h3, by rw [Nat.mul_one]; exact rowI_get h5 hx⟩
theorem RowN.at {t : TB} {bd i : Nat} {v : AV} {ns : List Nd} {x : Nd} (h : RowN t bd v ns) (hx : ns[i]? = some x) : ∃ d o c ex wr r iv, v = .slice d o ns.length c 8 ex ∧ d < bd ∧ hv t d = some (.row r wr) ∧ o + i * 8 + 8 ≤ r.length ∧ (r.drop (o + i * 8)).take 8 = ncells x iv ∧ RowI t bd iv x.ins ∧ isCell iv = true := by
 have hi : i < ns.length := (List.getElem?_eq_some_iff.1 hx).1
 rcases h with ⟨-, rfl⟩ | ⟨d, o, c, ex, wr, r, ivs, h1, h2, h3, h4, h5, h6, h7⟩
 · simp at hx
 · obtain ⟨iv, hiv⟩ := some_at (l := ivs) (i := i) (by omega)
   exact ⟨d, o, c, ex, wr, r, iv, h1, h2, h3, by omega, nodeN_all h5 h6 hx hiv, h7 i x iv hx hiv, (h7 i x iv hx hiv).cell⟩
structure NL (t : TB) (bd : Nat) (vn vt : AV) (ns : List Nd) (ts : List Int) (ds : List Int) : Prop where
 hN : RowN t bd vn ns
 hT : RowI t bd vt ts
 ln : LN ns ds
 tl : ts.length = ns.length
 tg : ∀ i, i < ts.length → ts[i]? = some (i : Int)
theorem NL.keep {t t' : TB} {n bd : Nat} {vn vt : AV} {ns : List Nd} {ts ds : List Int} {W : Nat → Prop} (h : NL t bd vn vt ns ts ds) (hk : Keep t t' n W) (hb : bd ≤ n) (hw : ∀ b, b < bd → ¬ W b) : NL t' bd vn vt ns ts ds :=
 ⟨h.hN.keep (fun d hd _ => hk d (by omega) (hw d hd)) (Nat.le_refl _), h.hT.keep (fun d hd _ => hk d (by omega) (hw d hd)) (Nat.le_refl _), h.ln, h.tl, h.tg⟩
structure ST (t : TB) (nx bd R V LA DL D : Nat) (vn vt : AV) (p : Int) (dlv wv qv : AV) (n k j : Nat) (ds : List Int) : Prop where
 hR : hv t R = some (.row [vn, vt, .int .i64 p, .nslice, .nslice, dlv, .slice V 0 n n 1 false, wv, .slice LA 0 n n 1 false, qv] true)
 hV : hv t V = some (.row (strs (vS n k)) true)
 hLA : hv t LA = some (.row (strs (laS n j)) true)
 hDL : dlv = .nslice ∧ ds = [] ∨ dlv = .slice DL 0 ds.length ds.length 1 false ∧ hv t DL = some (.row (ints (dS ds.length)) true)
 hs : bd ≤ R ∧ R < V ∧ R < DL ∧ V < LA ∧ DL < LA ∧ LA < nx ∧ V ≠ DL ∧ bd ≤ D ∧ D < nx ∧ (D < R ∨ LA < D)
 hn : n = ds.length + 1 ∧ ds.length ≤ 60
theorem ST.keep {t t' : TB} {nx nx' bd R V LA DL D : Nat} {vn vt : AV} {p : Int} {dlv wv qv : AV} {n k j : Nat} {ds : List Int} {W : Nat → Prop} (h : ST t nx bd R V LA DL D vn vt p dlv wv qv n k j ds) (hk : Keep t t' nx W) (hw : ∀ b, W b → b ≠ R ∧ b ≠ V ∧ b ≠ LA ∧ b ≠ DL) (hn : nx ≤ nx') : ST t' nx' bd R V LA DL D vn vt p dlv wv qv n k j ds := by
 have hs := h.hs
 refine ⟨(hk R (by omega) (fun e => (hw _ e).1 rfl)).trans h.hR, (hk V (by omega) (fun e => (hw _ e).2.1 rfl)).trans h.hV, (hk LA (by omega) (fun e => (hw _ e).2.2.1 rfl)).trans h.hLA, h.hDL.elim .inl (fun h1 => .inr ⟨h1.1, (hk DL (by omega) (fun e => (hw _ e).2.2.2 rfl)).trans h1.2⟩), by omega, h.hn⟩
theorem QE.keep {t t' : TB} {nx nx' D : Nat} {qv : AV} {W : Nat → Prop} (h : QE t nx D qv) (hk : Keep t t' nx W) (hw : ¬ W D) (hn : nx ≤ nx') : QE t' nx' D qv :=
 ⟨Nat.lt_of_lt_of_le h.1 hn, h.2.elim .inl (fun ⟨h1, r, h2, h3⟩ => .inr ⟨h1, r, (hk D h.1 hw).trans h2, h3⟩)⟩
theorem app_V {t : TB} {nx B V n : Nat} {l : List (List Nat)} {ex wr : Bool} (hB : hv t B = some (.row [] true)) (h : hv t V = some (.row (strs l) wr)) (hl : l.length = n) (h0 : 0 < n) (hn : n ≤ 100) :
   ∃ t', appendA 1 (.slice B 0 0 0 1 true) (.slice V 0 n n 1 ex) t nx = .ok (.slice nx 0 n n 1 false) t' (nx + 1) ∧ ∃ t1, (∀ d, d ≠ B → hv t1 d = hv t d) ∧ hv t' = upd (hv t1) nx (some (.row (strs l) true)) := by
 have h2 := app_any (t := t) (nx := nx) (sz := 1) (k := n) (b := B) (o := 0) (n := 0) (ex := true) (y := .slice V 0 n n 1 ex) (l := []) (cs := strs l) rfl (by
   rw [src_row (k := n) h (by rw [strs_len]; omega)]; congr 1; exact whole (by rw [strs_len, Nat.mul_one]; exact hl)) (strs_all l) hB (by simp) h0 (by omega)
 rw [Nat.zero_add] at h2
 exact h2
theorem app_own {t : TB} {nx sz lo bd n e : Nat} {v : AV} {l cs : List AV} {ex : Bool} (h : (v = .nslice ∧ l = [] ∧ n = 0) ∨ ∃ d, v = .slice d 0 n n sz false ∧ lo ≤ d ∧ d < bd ∧ hv t d = some (.row l true)) (hl : l.length = n * sz) (hlo : lo ≤ nx) (he : hv t e = some (.row cs true)) (hc : allCell cs = true) (hcs : cs.length = sz) (hs : (n + 1) * sz ≤ 65536) :
   ∃ t', appendA sz v (.slice e 0 1 1 sz ex) t nx = .ok (.slice nx 0 (n + 1) (n + 1) sz false) t' (nx + 1) ∧ (hv t' nx = some (.row (l ++ cs) true) ∧ Keep t t' nx (fun b => lo ≤ b)) := by
 have hsrc : srcCells (.slice e 0 1 1 sz ex) 1 sz t = some cs := by
   rw [src_row (k := 1) he (by omega), Nat.one_mul]
   congr 1
   exact whole hcs
 rcases h with ⟨rfl, rfl, rfl⟩ | ⟨d, rfl, hd0, hd, hr⟩
 · obtain ⟨t', h1, h2⟩ := app_nil (t := t) (nx := nx) (sz := sz) (k := 1) (cs := cs) rfl hsrc hc (by decide) (by omega)
   exact ⟨t', h1, by rw [h2, upd_same]; rfl, Keep.upd kR h2 (.inl (Nat.le_refl _))⟩
 · obtain ⟨t', h1, t1, h2, h3⟩ := app_new_f (t := t) (nx := nx) (sz := sz) (k := 1) (cs := cs) (o := 0) (n := n) (c := n) rfl hsrc hc hr (by omega) (by omega) hs
   have e1 : (l.drop 0).take (n * sz) ++ cs = l ++ cs := by rw [whole hl]
   rw [e1] at h3
   exact ⟨t', h1, by rw [h3, upd_same], Keep.upd (Keep.upd kR h2 (.inr hd0)) h3 (.inl (Nat.le_refl _))⟩
theorem app_str {t : TB} {nx lo bd n e : Nat} {v : AV} {l : List (List Nat)} {s : List Nat} {ex : Bool} (h : (v = .nslice ∧ l = [] ∧ n = 0) ∨ ∃ d, v = .slice d 0 n n 1 false ∧ lo ≤ d ∧ d < bd ∧ hv t d = some (.row (strs l) true)) (hl : l.length = n) (hlo : lo ≤ nx) (he : hv t e = some (.row [.str s] true)) (hn : n ≤ 100) :
   ∃ t', appendA 1 v (.slice e 0 1 1 1 ex) t nx = .ok (.slice nx 0 (n + 1) (n + 1) 1 false) t' (nx + 1) ∧ (hv t' nx = some (.row (strs (l ++ [s])) true) ∧ Keep t t' nx (fun b => lo ≤ b)) := by
 have h2 := app_own (t := t) (nx := nx) (sz := 1) (lo := lo) (bd := bd) (n := n) (e := e) (v := v) (l := strs l) (cs := [.str s]) (ex := ex) (by
   rcases h with ⟨rfl, rfl, rfl⟩ | ⟨d, h⟩
   · exact .inl ⟨rfl, rfl, rfl⟩
   · exact .inr ⟨d, h⟩) (by rw [strs_len, Nat.mul_one]; exact hl) hlo he rfl rfl (by omega)
 have e2 : strs l ++ [.str s] = strs (l ++ [s]) := by simp [strs]
 rw [e2] at h2
 exact h2

def follow_r0 : List Ins := [.mv 4 0,
 .o 5 (.nilck (.t 4)),
 .o 6 (.faddr (.t 5) 3),
 .o 7 (.load (.t 6)),
 .o 8 (.len .slc (.t 7)),
 .o 9 (.mov (kI 0))]
def follow_r1 : List Ins := [.o 10 (.bin .lss (.t 9) (.t 8))]
def follow_r2 : List Ins := [.o 11 (.iaddr 1 (.t 7) (.t 9)),
 .o 12 (.load (.t 11)),
 .mv 3 12]
def follow_r3 : List DIns := [⟨0, [], .mv 13 0⟩,
 ⟨1, [0], .o 14 (.nilck (.t 13))⟩,
 ⟨2, [1], .o 15 (.faddr (.t 14) 6)⟩,
 ⟨3, [2], .o 16 (.load (.t 15))⟩,
 ⟨4, [], .mv 17 3⟩,
 ⟨5, [], .mv 18 0⟩,
 ⟨6, [], .mv 19 0⟩,
 ⟨7, [6], .o 20 (.nilck (.t 19))⟩,
 ⟨8, [7], .o 21 (.faddr (.t 20) 0)⟩,
 ⟨9, [8], .o 22 (.faddr (.t 21) 0)⟩,
 ⟨10, [9], .o 23 (.load (.t 22))⟩,
 ⟨11, [], .mv 24 3⟩,
 ⟨12, [10, 11], .o 25 (.iaddr 8 (.t 23) (.t 24))⟩,
 ⟨13, [12], .o 26 (.loadA 8 (.t 25))⟩,
 ⟨14, [5, 13], .f 27 159 [(.t 18), (.t 26)]⟩,
 ⟨15, [3, 4, 0, 1, 2, 3, 4, 5, 6, 7, 8, 9, 10, 11, 12, 13, 14], .o 28 (.iaddr 1 (.t 16) (.t 17))⟩,
 ⟨16, [15, 14, 14, 0, 1, 2, 3, 4, 5, 6, 7, 8, 9, 10, 11, 12, 13, 14], .x (.store 1 (.t 28) (.t 27))⟩]
def follow_r4 : List Ins := [.o 29 (.bin .add (.t 9) (kI 1)),
 .mv 9 29]
def follow_c : IC := (.seq (.reg follow_r0) (.block 0 (.loop (.seq (.reg follow_r1) (.seq (.cond (.t 10) .skip (.exit 0)) (.seq (.block 1 (.seq (.reg follow_r2) (.draw follow_r3))) (.reg follow_r4)))))))
theorem follow_tab : tb 108 = some (.code 1 30 follow_c []) := by kernel_rfl
theorem follow_ok {t : TB} {nx bd R V LA DL D n k j : Nat} {vn vt dlv wv qv : AV} {p : Int} {dz : List Int} (hS : ST t nx bd R V LA DL D vn vt p dlv wv qv n k j dz) : WF tb 108 [.ptr R 0] t nx (fun v t' nx' => v = .tup [] ∧ nx ≤ nx' ∧ Keep t t' nx (fun _ => False)) := by
 have hs := hS.hs
 have hn_ := hS.hn
 refine k_fun follow_tab rfl ?_
 unfold follow_c
 change WC _ _ (TA.put (some _) TA.e 0) _ _ _
 refine k_seq (k_reg (m1 get_same (rO (o_nilck eZ) (rO (o_faddr (off := 3) eZ) (rO (o_load eZ hS.hR rfl) (rO (o_len_nslice eZ) (rO (o_mov ev_c) (r_nil (k_block (k_loop (fun mm Tz tz nz => Tz.get 8 = some (.int .i64 ((0 : Nat) : Int)) ∧ Tz.get 9 = some (.int .i64 0) ∧ t = tz ∧ nx = nz) (fun mm Tzz1 tz nz hI => ?_) 0 ⟨(z1 ds), ds, rfl, rfl⟩))))))))))
 obtain ⟨qzz1_8, qzz1_9, rfl, rfl⟩ := hI
 refine k_seq (k_reg (rO (dec_f (o_lss (eV qzz1_9) (eV qzz1_8)) (by simp)) (r_nil (k_seq (k_cond_f eZ (k_exit (exK_same ?_)))))))
 exact ⟨_, ans_none, rfl, by omega, kR⟩
def settle_r0 : List Ins := [.o 2 (.mov (.c (.bool true)))]
def settle_r1 : List Ins := [.mv 10 2]
def settle_r2 : List Ins := [.mv 11 0,
 .f 12 108 [(.t 11)]]
def settle_r3 : List Ins := [.o 2 (.mov (.c (.bool false)))]
def settle_r4 : List Ins := [.o 13 .mkmap,
 .mv 3 13]
def settle_r5 : List Ins := [.mv 14 0,
 .o 15 (.nilck (.t 14)),
 .o 16 (.faddr (.t 15) 4),
 .o 17 (.load (.t 16)),
 .o 18 (.len .slc (.t 17)),
 .o 19 (.mov (kI 0))]
def settle_r6 : List Ins := [.o 20 (.bin .lss (.t 19) (.t 18))]
def settle_r7 : List Ins := [.o 21 (.iaddr 1 (.t 17) (.t 19)),
 .o 22 (.load (.t 21)),
 .mv 5 22]
def settle_r8 : List Ins := [.mv 23 0,
 .o 24 (.nilck (.t 23)),
 .o 25 (.faddr (.t 24) 0),
 .o 26 (.faddr (.t 25) 0),
 .o 27 (.load (.t 26)),
 .mv 28 5,
 .o 29 (.iaddr 8 (.t 27) (.t 28)),
 .o 30 (.loadA 8 (.t 29)),
 .o 6 (.alloc [(.int .i64 0), (.int .i64 0), (.int .i64 0), .nslice, (.str []), (.int .i64 0), (.int .i64 0), (.int .i64 0)]),
 .x (.store 8 (.t 6) (.t 30))]
def settle_r9 : List DIns := [⟨0, [], .mv 31 0⟩,
 ⟨1, [0], .o 32 (.nilck (.t 31))⟩,
 ⟨2, [1], .o 33 (.faddr (.t 32) 6)⟩,
 ⟨3, [2], .o 34 (.load (.t 33))⟩,
 ⟨4, [], .o 35 (.faddr (.t 6) 3)⟩,
 ⟨5, [4], .o 36 (.load (.t 35))⟩,
 ⟨6, [5], .o 37 (.iaddr 1 (.t 36) (kI 0))⟩,
 ⟨7, [6], .o 38 (.load (.t 37))⟩,
 ⟨8, [3, 7], .o 39 (.iaddr 1 (.t 34) (.t 38))⟩,
 ⟨9, [8], .o 40 (.load (.t 39))⟩,
 ⟨10, [9, 0, 1, 2, 3, 4, 5, 6, 7, 8, 9], .mv 7 40⟩]
def settle_r10 : List Ins := [.mv 41 0,
 .o 42 (.nilck (.t 41)),
 .o 43 (.faddr (.t 42) 7),
 .o 44 (.load (.t 43)),
 .mv 45 5,
 .o 46 (.iaddr 1 (.t 44) (.t 45)),
 .o 47 (.load (.t 46)),
 .mv 48 7,
 .f 49 110 [(.t 47), (.t 48)]]
def settle_r11 : List DIns := [⟨0, [], .mv 50 3⟩,
 ⟨1, [], .mv 51 5⟩,
 ⟨2, [], .mv 52 0⟩,
 ⟨3, [2], .o 53 (.nilck (.t 52))⟩,
 ⟨4, [3], .o 54 (.faddr (.t 53) 6)⟩,
 ⟨5, [4], .o 55 (.load (.t 54))⟩,
 ⟨6, [], .o 56 (.faddr (.t 6) 3)⟩,
 ⟨7, [6], .o 57 (.load (.t 56))⟩,
 ⟨8, [7], .o 58 (.iaddr 1 (.t 57) (kI 1))⟩,
 ⟨9, [8], .o 59 (.load (.t 58))⟩,
 ⟨10, [5, 9], .o 60 (.iaddr 1 (.t 55) (.t 59))⟩,
 ⟨11, [10], .o 61 (.load (.t 60))⟩,
 ⟨12, [0, 1, 11, 0, 1, 2, 3, 4, 5, 6, 7, 8, 9, 10, 11], .x (.mupd .int (.t 50) (.t 51) (.t 61))⟩]
def settle_r12 : List Ins := [.o 2 (.mov (.c (.bool true)))]
def settle_r13 : List Ins := [.mv 62 0,
 .o 63 (.nilck (.t 62)),
 .o 64 (.faddr (.t 63) 7),
 .o 65 (.load (.t 64)),
 .mv 66 5,
 .mv 67 7,
 .o 68 (.iaddr 1 (.t 65) (.t 66)),
 .x (.store 1 (.t 68) (.t 67))]
def settle_r14 : List Ins := [.o 69 (.bin .add (.t 19) (kI 1)),
 .mv 19 69]
def settle_r15 : List Ins := [.mv 70 3,
 .o 71 (.range (.t 70))]
def settle_r16 : List Ins := [.o 72 (.next (.t 71)),
 .o 73 (.extr (.t 72) 0)]
def settle_r17 : List Ins := [.o 74 (.entry (.t 71)),
 .o 75 (.extr (.t 74) 0),
 .o 76 (.extr (.t 74) 1),
 .mv 8 75,
 .mv 9 76]
def settle_r18 : List Ins := [.mv 77 0,
 .o 78 (.nilck (.t 77)),
 .o 79 (.faddr (.t 78) 6),
 .o 80 (.load (.t 79)),
 .mv 81 8,
 .mv 82 9,
 .o 83 (.iaddr 1 (.t 80) (.t 81)),
 .x (.store 1 (.t 83) (.t 82))]
def settle_c : IC := (.seq (.reg settle_r0) (.block 0 (.loop (.seq (.seq (.reg settle_r1) (.cond (.t 10) .skip (.exit 0))) (.block 1 (.seq (.reg settle_r2) (.seq (.reg settle_r3) (.seq (.reg settle_r4) (.seq (.seq (.reg settle_r5) (.block 2 (.loop (.seq (.reg settle_r6) (.seq (.cond (.t 20) .skip (.exit 2)) (.seq (.block 3 (.seq (.reg settle_r7) (.seq (.reg settle_r8) (.seq (.draw settle_r9) (.seq (.seq (.reg settle_r10) (.cond (.t 49) (.seq (.draw settle_r11) (.reg settle_r12)) .skip)) (.reg settle_r13)))))) (.reg settle_r14))))))) (.seq (.reg settle_r15) (.block 4 (.loop (.seq (.reg settle_r16) (.seq (.cond (.t 73) .skip (.exit 4)) (.block 5 (.seq (.reg settle_r17) (.reg settle_r18)))))))))))))))))
theorem settle_tab : tb 57 = some (.code 1 84 settle_c []) := by kernel_rfl
theorem iter_get {t : TB} {b : Nat} {m : Option Nat} {s l : Nat} {se : List Nat} (h : hv t b = some (.iter m s se l)) : t.get b = some (.iter m s se l) := by
 unfold hv at h
 cases e : t.get b with
 | none => rw [e] at h; cases h
 | some k =>
   rw [e] at h
   cases k with
   | cells c n w =>
     have h' : (gets c n 0).map (fun l => HB.row l w) = some (.iter m s se l) := h
     cases e2 : gets c n 0 with
     | none => rw [e2] at h'; cases h'
     | some q => rw [e2] at h'; cases h'
   | map es clk => cases h
   | iter a b c d => cases h; rfl
theorem o_range {T : TA} {t : TB} {nx b clk : Nat} {es : List (AV × AV × Nat)} {x : Opd} (hx : x.ev T = some (.map b)) (hb : hv t b = some (.map es clk)) : ∃ t', (IOp.range x).run T t nx = .ok (.ptr nx 0) t' (nx + 1) ∧ hv t' = upd (hv t) nx (some (.iter (some b) clk [] clk)) := by
 refine ⟨t.put (some (.iter (some b) clk [] clk)) nx, ?_, by rw [hv_put]; rfl⟩
 have h1 := map_iff.1 hb
 simp only [IOp.run, hx, h1, fNat_eq]
theorem o_next0 {T : TA} {t : TB} {nx i m s l clk : Nat} {x : Opd} (hx : x.ev T = some (.ptr i 0)) (hi : hv t i = some (.iter (some m) s [] l)) (hm : hv t m = some (.map [] clk)) : (IOp.next x).run T t nx = .ok (.tup [.bool false]) t nx := by
 have h1 := map_iff.1 hm
 have h2 := iter_get hi
 simp only [IOp.run, hx, h1, h2]
 rfl
theorem o_slc_nil {T : TA} {t : TB} {nx : Nat} {x : Opd} {b o n c sz : Nat} {ex ng : Bool} (hx : x.ev T = some (.slice b o n c sz ex)) : (IOp.eqv ng .slc x (.c .nslice)).run T t nx = .ok (.bool ng) t nx := by
 have e : (Opd.c AV.nslice).ev T = some .nslice := rfl
 simp only [IOp.run, hx, e]
 rfl
theorem settle_ok {t : TB} {nx bd R V LA DL D n k j : Nat} {vn vt dlv wv qv : AV} {p : Int} {dz : List Int} (hS : ST t nx bd R V LA DL D vn vt p dlv wv qv n k j dz) : WF tb 57 [.ptr R 0] t nx (fun v t' nx' => v = .tup [] ∧ nx ≤ nx' ∧ Keep t t' nx (fun _ => False)) := by
 have hs := hS.hs
 have hn_ := hS.hn
 refine k_fun settle_tab rfl ?_
 unfold settle_c
 change WC _ _ (TA.put (some _) TA.e 0) _ _ _
 refine k_seq (k_reg (rO (o_mov ev_c) (r_nil (k_block (k_loop (fun mm Tv tv nv => ∃ r : Bool, (Tv.get 0 = some (.ptr R 0) ∧ Tv.get 2 = some (.bool r)) ∧ nx ≤ nv ∧ Keep t tv nx (fun _ => False) ∧ mm = (bif r then 1 else 0)) (fun mm Tv tv nv hI => ?_) (1) ⟨true, ⟨(z1 get_same), ds⟩, by omega, kR, rfl⟩)))))
 obtain ⟨r, ⟨q0, q2⟩, hnv, hkv, hmm⟩ := hI
 have hSv := hS.keep hkv (fun _ h => h.elim) hnv
 refine k_seq (k_seq (k_reg (m1 q2 (r_nil ?_))))
 refine k_cond eZ (fun hc1 => ?_) (fun hc1 => ?_)
 · refine k_skip (k_block (k_seq (k_reg (m1 (z1 q0) (r_call (w_callF (evs_cons eZ evs_nil)) rfl (WF.mono (follow_ok (hS.keep (nx' := nv) (show Keep t tv nx (fun _ => False) from hkv) (fun _ h => h.elim) (by omega))) ?_))))))
   rintro _ t2 n3 ⟨rfl, hn_f, hk_f⟩
   refine r_nil (k_seq (k_reg (rO (o_mov ev_c) (r_nil (k_seq (k_reg (r_heap (o_mkmap) rfl (fun t4 (hh5 : hv t4 = upd (hv t2) n3 (some (.map [] 0))) => m1 ds (r_nil (k_seq (k_seq (k_reg (m1 (z2 (z4 q0)) (rO (o_nilck eZ) (rO (o_faddr (off := 4) eZ) (rO (o_load eZ (lN hh5 (Keep.look hk_f (by omega) id hSv.hR)) rfl) (rO (o_len_nslice eZ) (rO (o_mov ev_c) (r_nil (k_block (k_loop (fun mm Tz tz nz => Tz.get 0 = some (.ptr R 0) ∧ Tz.get 2 = some (.bool false) ∧ Tz.get 3 = some (.map n3) ∧ Tz.get 18 = some (.int .i64 ((0 : Nat) : Int)) ∧ Tz.get 19 = some (.int .i64 0) ∧ t4 = tz ∧ (n3 + 1) = nz) (fun mm Tzz6 tz nz hI => ?_) 0 ⟨(z4 (z8 q0)), (z8 ds), (z2 (z4 ds)), (z1 ds), ds, rfl, rfl⟩)))))))))))))))))))))
   obtain ⟨qzz6_0, qzz6_2, qzz6_3, qzz6_18, qzz6_19, rfl, rfl⟩ := hI
   refine k_seq (k_reg (rO (dec_f (o_lss (eV qzz6_19) (eV qzz6_18)) (by simp)) (r_nil (k_seq (k_cond_f eZ (k_exit (exK_same (k_seq (k_reg (m1 (z1 qzz6_3) (r_heap (o_range eZ (lS hh5)) rfl (fun ti_ hi_ => r_nil (k_block (k_loop (fun mm Tz tz nz => Tz.get 0 = some (.ptr R 0) ∧ Tz.get 2 = some (.bool false) ∧ Tz.get 71 = some (.ptr (n3 + 1) 0) ∧ ti_ = tz ∧ ((n3 + 1) + 1) = nz) (fun mm Tzz7 tz nz hI => ?_) 0 ⟨(z1 (z2 qzz6_0)), (z1 (z2 qzz6_2)), ds, rfl, rfl⟩))))))))))))))
   obtain ⟨qzz7_0, qzz7_2, qzz7_71, rfl, rfl⟩ := hI
   refine k_seq (k_reg (rO (o_next0 (eV qzz7_71) (lS hi_) (lN hi_ (lS hh5))) (rO (o_extr eZ rfl) (r_nil (k_seq (k_cond_f eZ (k_exit (exK_same ?_))))))))
   exact ⟨0, by rw [hmm, hc1]; decide, false, ⟨(z2 qzz7_0), (z2 qzz7_2)⟩, by omega, kU (kU (Keep.trans (hkv) hk_f (by omega) (fun d _ h => h)) hh5) hi_, rfl⟩
 refine k_exit (exK_same ?_)
 exact ⟨_, ans_none, rfl, by omega, hkv⟩
def ports_r0 : List Ins := [.o 2 (.mov (.c .nslice))]
def ports_r1 : List Ins := [.o 3 (.mov (.c .nslice))]
def ports_r2 : List Ins := [.mv 6 0,
 .o 7 (.nilck (.t 6)),
 .o 8 (.faddr (.t 7) 0),
 .o 9 (.faddr (.t 8) 1),
 .o 10 (.load (.t 9)),
 .o 11 (.len .slc (.t 10)),
 .o 12 (.mov (kI 0))]
def ports_r3 : List Ins := [.o 13 (.bin .lss (.t 12) (.t 11))]
def ports_r4 : List Ins := [.o 14 (.iaddr 1 (.t 10) (.t 12)),
 .o 15 (.load (.t 14)),
 .mv 5 15]
def ports_r5 : List Ins := [.mv 16 3,
 .mv 17 0,
 .o 18 (.nilck (.t 17)),
 .o 19 (.faddr (.t 18) 6),
 .o 20 (.load (.t 19)),
 .mv 21 5,
 .o 22 (.iaddr 1 (.t 20) (.t 21)),
 .o 23 (.load (.t 22)),
 .o 24 (.bslice 1 1 [(.str [])] [(0, 1, (.t 23))]),
 .o 25 (.app 1 (.t 16) (.t 24)),
 .mv 3 25]
def ports_r6 : List Ins := [.o 26 (.bin .add (.t 12) (kI 1)),
 .mv 12 26]
def ports_r7 : List Ins := [.mv 27 3,
 .mv 2 27]
def ports_c : IC := (.seq (.reg ports_r0) (.seq (.reg ports_r1) (.seq (.seq (.reg ports_r2) (.block 0 (.loop (.seq (.reg ports_r3) (.seq (.cond (.t 13) .skip (.exit 0)) (.seq (.block 1 (.seq (.reg ports_r4) (.reg ports_r5))) (.reg ports_r6))))))) (.seq (.reg ports_r7) .ret))))
theorem ports_tab : tb 55 = some (.code 1 28 ports_c [.tmp 2]) := by kernel_rfl
theorem ports_ok {t : TB} {nx bd R V LA DL D n k j : Nat} {vn vt dlv wv qv : AV} {p : Int} {dz : List Int} (hS : ST t nx bd R V LA DL D vn vt p dlv wv qv n k j dz) {ns : List Nd} {ts : List Int} (hL : NL t bd vn vt ns ts dz) (hb : bd ≤ nx) : WF tb 55 [.ptr R 0] t nx (fun v t' nx' => ∃ P : Nat, v = .slice P 0 n n 1 false ∧ nx ≤ P ∧ P < nx' ∧ hv t' P = some (.row (strs (vS n k)) true) ∧ nx ≤ nx' ∧ Keep t t' nx (fun _ => False)) := by
 have hs := hS.hs
 have hn_ := hS.hn
 have hll := hL.ln.len
 have htl := hL.tl
 refine k_fun ports_tab rfl ?_
 unfold ports_c
 change WC _ _ (TA.put (some _) TA.e 0) _ _ _
 refine k_seq (k_reg (rO (o_mov ev_c) (r_nil (k_seq (k_reg (rO (o_mov ev_c) (r_nil (k_seq (k_seq (k_reg (m1 (z2 get_same) (rO (o_nilck eZ) (rO (o_faddr (off := 0) eZ) (rO (o_faddr (off := 1) eZ) (rO (o_load eZ hS.hR rfl) (rO (o_len_I hL.hT eZ) (rO (o_mov ev_c) (r_nil (k_block (k_loop (fun mm Tv tv nv => ∃ (i : Nat) (ov : AV), i ≤ n ∧ (Tv.get 0 = some (.ptr R 0) ∧ Tv.get 3 = some ov ∧ Tv.get 10 = some vt ∧ Tv.get 11 = some (.int .i64 ((ts.length : Nat) : Int)) ∧ Tv.get 12 = some (.int .i64 ((i : Nat) : Int))) ∧ ((ov = .nslice ∧ i = 0) ∨ ∃ P, ov = .slice P 0 i i 1 false ∧ nx ≤ P ∧ P < nv ∧ hv tv P = some (.row (strs ((vS n k).take i)) true)) ∧ nx ≤ nv ∧ Keep t tv nx (fun _ => False) ∧ mm + i = n) (fun mm Tv tv nv hI => ?_) (n) ⟨0, .nslice, by omega, ⟨(z1 (z8 get_same)), (z1 (z2 (z4 ds))), (z2 ds), (z1 ds), ds⟩, .inl ⟨rfl, rfl⟩, by omega, kR, rfl⟩))))))))))))))))))))
 obtain ⟨i, ov, hi, ⟨q0, q3, q10, q11, q12⟩, hov, hnv, hkv, hmm⟩ := hI
 have hSv := hS.keep hkv (fun _ h => h.elim) hnv
 refine k_seq (k_reg (rO (o_lss (eV q12) (eV q11)) (r_nil (k_seq ?_))))
 refine k_if eZ (fun hc1 => ?_) (fun hc1 => ?_)
 · refine k_skip (k_seq (k_block (k_seq ?_)))
   obtain ⟨dT, oT, cT, exT, wrT, rT, hTe, hTd, hTr, hTg⟩ := RowI.at hL.hT (hL.tg i (by omega))
   have hTr1 := hkv.look (by omega) id hTr
   obtain ⟨s, hvi⟩ := some_at (l := vS n k) (i := i) (by rw [vS_len]; omega)
   refine k_reg (rO (o_iaddrE (i := i) (eV (z1 q10)) hTe (eV (z1 q12)) (by omega)) (rO (o_load eZ hTr1 hTg) (m1 ds (r_nil (k_reg (m1 (z4 q3) (m1 (z1 (z4 q0)) (rO (o_nilck eZ) (rO (o_faddr (off := 6) eZ) (rO (o_load eZ hSv.hR rfl) (m1 (z1 (z4 ds)) (rO (o_iaddr (i := i) (eV (z1 ds)) eZ (by omega)) ?_))))))))))))
   refine rO (o_load eZ hSv.hV (by simp only [Nat.zero_add, Nat.mul_one]; exact strs_get hvi)) ?_
   refine r_heap (o_bslice (fill_cons eZ rfl rfl fill_nil)) rfl (fun t2 (hh3 : hv t2 = upd (hv tv) nv (some (.row [(.str s)] true))) => ?_)
   refine r_heap (o_appE (eV (z8 ds)) eZ (app_str (lo := nx) (bd := (nv + 1)) (n := i) (l := (vS n k).take i) (hov.elim (fun h => .inl ⟨h.1, by rw [h.2]; rfl, h.2⟩) (fun ⟨P, e1, e2, e3, e4⟩ => .inr ⟨P, e1, e2, Nat.lt_of_lt_of_le e3 (by omega), ((show Keep tv t2 nv (fun b => False) from Keep.upd (Keep.refl tv nv _) hh3 (by first | exact .inl (by omega) | (right; first | exact rfl | (show _ ∨ _; omega) | omega))) P e3 (fun h => h)).trans e4⟩)) (by rw [List.length_take, vS_len]; omega) (by omega) (lS hh3) (by omega))) rfl (fun ta ⟨hrP, hka⟩ => ?_)
   refine m1 ds (r_nil (k_reg (rO (o_addN (a := i) (b := 1) (eV (z1 (z2 (z4 (z8 q12))))) ev_c (by omega)) (m1 ds (r_nil ?_)))))
   exact ⟨n - (i + 1), by omega, i + 1, _, by omega, ⟨(z1 (z8 (z8 q0))), (z2 ds), (z1 (z8 (z8 q10))), (z1 (z8 (z8 q11))), ds⟩, .inr ⟨(nv + 1), rfl, by omega, by omega, by rw [List.take_add_one, hvi]; exact hrP⟩, by omega, Keep.trans (kU (hkv) hh3) hka (by omega) ((fun b hb h_ => absurd (show nx ≤ b from h_) (by omega))), by omega⟩
 refine k_exit (exK_same (k_seq (k_reg (m1 (z1 q3) (m1 ds (r_nil (k_ret ?_)))))))
 rcases hov with ⟨-, h0⟩ | ⟨P, rfl, h1, h2, h3⟩
 · omega
 obtain rfl : i = n := by omega
 rw [List.take_of_length_le (by rw [vS_len]; omega)] at h3
 exact ⟨_, ans_tmp ds, P, rfl, h1, by omega, h3, by omega, hkv⟩
def clone_r0 : List Ins := [.o 2 (.mov (.c .nslice))]
def clone_r1 : List Ins := [.mv 3 0,
 .o 4 (.eqv false .slc (.t 3) (.c .nslice))]
def clone_r2 : List Ins := [.o 2 (.mov (.c .nslice))]
def clone_r3 : List Ins := [.o 5 (.bslice 1 0 [(.str [])] []),
 .mv 6 0,
 .o 7 (.app 1 (.t 5) (.t 6)),
 .mv 2 7]
def clone_c : IC := (.seq (.reg clone_r0) (.seq (.seq (.reg clone_r1) (.cond (.t 4) (.seq (.reg clone_r2) .ret) .skip)) (.seq (.reg clone_r3) .ret)))
theorem clone_tab : tb 63 = some (.code 1 8 clone_c [.tmp 2]) := by kernel_rfl
theorem clone_ok {t : TB} {nx V n : Nat} {l : List (List Nat)} (h : hv t V = some (.row (strs l) true)) (hl : l.length = n) (h0 : 0 < n) (hn : n ≤ 100) (hV : V < nx) : WF tb 63 [.slice V 0 n n 1 false] t nx (fun v t' nx' => ∃ c0 : Nat, v = .slice c0 0 n n 1 false ∧ nx ≤ c0 ∧ c0 < nx' ∧ hv t' c0 = some (.row (strs l) true) ∧ nx ≤ nx' ∧ Keep t t' nx (fun _ => False)) := by
 refine k_fun clone_tab rfl ?_
 unfold clone_c
 change WC _ _ (TA.put (some _) TA.e 0) _ _ _
 refine k_seq (k_reg (rO (o_mov ev_c) (r_nil (k_seq (k_seq (k_reg (m1 (z1 get_same) (rO (o_slc_nil eZ) (r_nil (k_cond_f eZ (k_skip (k_seq (k_reg (r_heap (o_bslice fill_nil) rfl (fun t1 (hh2 : hv t1 = upd (hv t) nx (some (.row [] true))) => m1 (z4 get_same) (r_heap (o_appE (eV (z1 ds)) eZ (app_V (lS hh2) (lN hh2 h) hl h0 hn)) rfl (fun ta ⟨tb_, hh_a, hh_b⟩ => m1 ds (r_nil (k_ret ?_)))))))))))))))))))
 exact ⟨_, ans_tmp ds, _, rfl, by omega, by omega, (lS hh_b), by omega, kU (Keep.ne (kU kR hh2) hh_a (.inl (by omega))) hh_b⟩
def insn_r0 : List Ins := [.mv 10 1,
 .o 11 (.bin .add (.t 10) (kI 1)),
 .mv 8 11]
def insn_r1 : List Ins := [.mv 12 8,
 .mv 13 2,
 .o 14 (.bin .lss (.t 12) (.t 13))]
def insn_r2 : List Ins := [.mv 17 8,
 .mv 9 17]
def insn_r3 : List DIns := [⟨0, [], .mv 18 9⟩,
 ⟨1, [], .mv 19 1⟩,
 ⟨2, [0, 1], .o 20 (.bin .gtr (.t 18) (.t 19))⟩,
 ⟨3, [2], .mv 21 20⟩,
 ⟨4, [3], .g 22 21 true (.mov (.t 3))⟩,
 ⟨5, [3], .g 23 21 true (.mov (.t 0))⟩,
 ⟨6, [3], .g 24 21 true (.mov (.t 9))⟩,
 ⟨7, [5, 6, 3], .g 25 21 true (.iaddr 1 (.t 23) (.t 24))⟩,
 ⟨8, [7, 3], .g 26 21 true (.load (.t 25))⟩,
 ⟨9, [3], .g 27 21 true (.mov (.t 0))⟩,
 ⟨10, [3], .g 28 21 true (.mov (.t 9))⟩,
 ⟨11, [10, 3], .g 29 21 true (.bin .sub (.t 28) (kI 1))⟩,
 ⟨12, [9, 11, 3], .g 30 21 true (.iaddr 1 (.t 27) (.t 29))⟩,
 ⟨13, [12, 3], .g 31 21 true (.load (.t 30))⟩,
 ⟨14, [4, 8, 13, 3, 3], ⟨(some 32), (some (21, true)), (.callV (.t 22) [(.t 26), (.t 31)])⟩⟩,
 ⟨15, [14, 3], .g 33 21 true (.bin .lss (.t 32) (kI 0))⟩,
 ⟨16, [3, 15], .o 34 (.pick (.t 21) (.t 33) (.c (.bool false)))⟩]
def insn_r4 : List DIns := [⟨0, [], .mv 37 0⟩,
 ⟨1, [], .mv 38 9⟩,
 ⟨2, [], .mv 39 0⟩,
 ⟨3, [], .mv 40 9⟩,
 ⟨4, [3], .o 41 (.bin .sub (.t 40) (kI 1))⟩,
 ⟨5, [], .mv 42 0⟩,
 ⟨6, [], .mv 43 9⟩,
 ⟨7, [6], .o 44 (.bin .sub (.t 43) (kI 1))⟩,
 ⟨8, [5, 7], .o 45 (.iaddr 1 (.t 42) (.t 44))⟩,
 ⟨9, [8], .o 46 (.load (.t 45))⟩,
 ⟨10, [], .mv 47 0⟩,
 ⟨11, [], .mv 48 9⟩,
 ⟨12, [10, 11], .o 49 (.iaddr 1 (.t 47) (.t 48))⟩,
 ⟨13, [12], .o 50 (.load (.t 49))⟩,
 ⟨14, [0, 1, 0, 1, 5, 6, 7, 8, 9, 13], .o 51 (.iaddr 1 (.t 37) (.t 38))⟩,
 ⟨15, [14, 9, 0, 1, 5, 6, 7, 8, 9, 13], .x (.store 1 (.t 51) (.t 46))⟩,
 ⟨16, [2, 4, 0, 1, 2, 3, 4, 5, 6, 7, 8, 9, 10, 11, 12, 13, 14, 15], .o 52 (.iaddr 1 (.t 39) (.t 41))⟩,
 ⟨17, [16, 13, 15, 0, 1, 2, 3, 4, 5, 6, 7, 8, 9, 10, 11, 12, 13, 14, 15], .x (.store 1 (.t 52) (.t 50))⟩]
def insn_r5 : List Ins := [.mv 35 9,
 .o 36 (.bin .sub (.t 35) (kI 1)),
 .mv 9 36]
def insn_r6 : List Ins := [.mv 15 8,
 .o 16 (.bin .add (.t 15) (kI 1)),
 .mv 8 16]
def insn_c : IC := (.seq (.reg insn_r0) (.block 0 (.loop (.seq (.seq (.reg insn_r1) (.cond (.t 14) .skip (.exit 0))) (.seq (.block 1 (.seq (.reg insn_r2) (.block 2 (.loop (.seq (.seq (.draw insn_r3) (.cond (.t 34) .skip (.exit 2))) (.seq (.block 3 (.draw insn_r4)) (.reg insn_r5))))))) (.reg insn_r6))))))
theorem insn_tab : tb 167 = some (.code 4 53 insn_c []) := by kernel_rfl
theorem insn_ok {t : TB} {nx : Nat} {cv : AV} : WF tb 167 [.nslice, (.int .i64 0), (.int .i64 0), cv] t nx (fun v t' nx' => v = .tup [] ∧ nx ≤ nx' ∧ Keep t t' nx (fun _ => False)) := by
 refine k_fun insn_tab rfl ?_
 unfold insn_c
 change WC _ _ (TA.put (some _) (TA.put (some _) (TA.put (some _) (TA.put (some _) TA.e 0) 1) 2) 3) _ _ _
 refine k_seq (k_reg (m1 (get_other rfl (get_other rfl get_same)) (rO (o_add eZ ev_c (by omega) (by omega)) (m1 ds (r_nil (k_block (k_loop (fun mm Tz tz nz => Tz.get 0 = some .nslice ∧ Tz.get 1 = some (.int .i64 0) ∧ Tz.get 2 = some (.int .i64 0) ∧ Tz.get 3 = some cv ∧ Tz.get 8 = some (.int .i64 1) ∧ t = tz ∧ nx = nz) (fun mm Tzz1 tz nz hI => ?_) 0 ⟨(z1 (z2 (get_other rfl (get_other rfl (get_other rfl get_same))))), (z1 (z2 (get_other rfl (get_other rfl get_same)))), (z1 (z2 (get_other rfl get_same))), (z1 (z2 get_same)), ds, rfl, rfl⟩)))))))
 obtain ⟨qzz1_0, qzz1_1, qzz1_2, qzz1_3, qzz1_8, rfl, rfl⟩ := hI
 refine k_seq (k_seq (k_reg (m1 qzz1_8 (m1 (z1 qzz1_2) (rO (dec_f (o_lss (eV (z1 ds)) eZ) (by simp)) (r_nil (k_cond_f eZ (k_exit (exK_same ?_)))))))))
 exact ⟨_, ans_none, rfl, by omega, kR⟩
def stbn_r0 : List Ins := [.o 6 (.mov (kI 20))]
def stbn_r1 : List Ins := [.mv 10 6,
 .o 7 (.mov (kI 0)),
 .mv 8 10]
def stbn_r2 : List Ins := [.mv 11 8,
 .mv 12 1,
 .o 13 (.bin .leq (.t 11) (.t 12))]
def stbn_r3 : List Ins := [.mv 14 0,
 .mv 15 7,
 .mv 16 8,
 .mv 17 2,
 .f 18 167 [(.t 14), (.t 15), (.t 16), (.t 17)]]
def stbn_r4 : List Ins := [.mv 19 8,
 .mv 7 19]
def stbn_r5 : List Ins := [.mv 20 8,
 .mv 21 6,
 .o 22 (.bin .add (.t 20) (.t 21)),
 .mv 8 22]
def stbn_r6 : List Ins := [.mv 23 0,
 .mv 24 7,
 .mv 25 1,
 .mv 26 2,
 .f 27 167 [(.t 23), (.t 24), (.t 25), (.t 26)]]
def stbn_r7 : List Ins := [.mv 28 6,
 .mv 29 1,
 .o 30 (.bin .lss (.t 28) (.t 29))]
def stbn_r8 : List Ins := [.mv 31 6,
 .o 32 (.bin .mul (kI 2) (.t 31)),
 .o 7 (.mov (kI 0)),
 .mv 8 32]
def stbn_r9 : List Ins := [.mv 33 8,
 .mv 34 1,
 .o 35 (.bin .leq (.t 33) (.t 34))]
def stbn_r10 : List Ins := [.mv 36 0,
 .mv 37 7,
 .mv 38 7,
 .mv 39 6,
 .o 40 (.bin .add (.t 38) (.t 39)),
 .mv 41 8,
 .mv 42 2,
 .f 43 168 [(.t 36), (.t 37), (.t 40), (.t 41), (.t 42)]]
def stbn_r11 : List Ins := [.mv 44 8,
 .mv 7 44]
def stbn_r12 : List Ins := [.mv 45 8,
 .mv 46 6,
 .o 47 (.bin .mul (kI 2) (.t 46)),
 .o 48 (.bin .add (.t 45) (.t 47)),
 .mv 8 48]
def stbn_r13 : List Ins := [.mv 49 7,
 .mv 50 6,
 .o 51 (.bin .add (.t 49) (.t 50)),
 .mv 9 51]
def stbn_r14 : List Ins := [.mv 52 9,
 .mv 53 1,
 .o 54 (.bin .lss (.t 52) (.t 53))]
def stbn_r15 : List Ins := [.mv 55 0,
 .mv 56 7,
 .mv 57 9,
 .mv 58 1,
 .mv 59 2,
 .f 60 168 [(.t 55), (.t 56), (.t 57), (.t 58), (.t 59)]]
def stbn_r16 : List Ins := [.mv 61 6,
 .o 62 (.bin .mul (.t 61) (kI 2)),
 .mv 6 62]
def stbn_c : IC := (.seq (.reg stbn_r0) (.seq (.reg stbn_r1) (.seq (.block 0 (.loop (.seq (.seq (.reg stbn_r2) (.cond (.t 13) .skip (.exit 0))) (.block 1 (.seq (.reg stbn_r3) (.seq (.reg stbn_r4) (.reg stbn_r5))))))) (.seq (.reg stbn_r6) (.block 2 (.loop (.seq (.seq (.reg stbn_r7) (.cond (.t 30) .skip (.exit 2))) (.block 3 (.seq (.reg stbn_r8) (.seq (.block 4 (.loop (.seq (.seq (.reg stbn_r9) (.cond (.t 35) .skip (.exit 4))) (.block 5 (.seq (.reg stbn_r10) (.seq (.reg stbn_r11) (.reg stbn_r12))))))) (.seq (.seq (.reg stbn_r13) (.seq (.reg stbn_r14) (.cond (.t 54) (.reg stbn_r15) .skip))) (.reg stbn_r16))))))))))))
theorem stbn_tab : tb 118 = some (.code 3 63 stbn_c []) := by kernel_rfl
theorem stbn_ok {t : TB} {nx : Nat} {cv : AV} : WF tb 118 [.nslice, (.int .i64 0), cv] t nx (fun v t' nx' => v = .tup [] ∧ nx ≤ nx' ∧ Keep t t' nx (fun _ => False)) := by
 refine k_fun stbn_tab rfl ?_
 unfold stbn_c
 change WC _ _ (TA.put (some _) (TA.put (some _) (TA.put (some _) TA.e 0) 1) 2) _ _ _
 refine k_seq (k_reg (rO (o_mov ev_c) (r_nil (k_seq (k_reg (m1 ds (rO (o_mov ev_c) (m1 (z1 ds) (r_nil (k_seq (k_block (k_loop (fun mm Tz tz nz => Tz.get 0 = some .nslice ∧ Tz.get 1 = some (.int .i64 0) ∧ Tz.get 2 = some cv ∧ Tz.get 6 = some (.int .i64 20) ∧ Tz.get 7 = some (.int .i64 0) ∧ Tz.get 8 = some (.int .i64 20) ∧ t = tz ∧ nx = nz) (fun mm Tzz1 tz nz hI => ?_) 0 ⟨(z4 (get_other rfl (get_other rfl get_same))), (z4 (get_other rfl get_same)), (z4 get_same), (z1 (z2 ds)), (z1 ds), ds, rfl, rfl⟩))))))))))))
 obtain ⟨qzz1_0, qzz1_1, qzz1_2, qzz1_6, qzz1_7, qzz1_8, rfl, rfl⟩ := hI
 refine k_seq (k_seq (k_reg (m1 qzz1_8 (m1 (z1 qzz1_1) (rO (ndec_f (o_leq (eV (z1 ds)) eZ) (by simp)) (r_nil (k_cond_f eZ (k_exit (exK_same (k_seq (k_reg (m1 (z1 (z2 qzz1_0)) (m1 (z4 qzz1_7) (m1 (z1 (z4 qzz1_1)) (m1 (z2 (z4 qzz1_2)) (r_call (w_callF (evs_cons (eV (z1 (z2 ds))) (evs_cons (eV (z2 ds)) (evs_cons (eV (z1 ds)) (evs_cons eZ evs_nil))))) rfl (WF.mono (insn_ok) ?_)))))))))))))))))
 rintro _ t2 n3 ⟨rfl, hn_s, hk_s⟩
 refine r_nil (k_block (k_loop (fun mm Tz tz nz => Tz.get 0 = some .nslice ∧ Tz.get 1 = some (.int .i64 0) ∧ Tz.get 2 = some cv ∧ Tz.get 6 = some (.int .i64 20) ∧ t2 = tz ∧ n3 = nz) (fun mm Tzz4 tz nz hI => ?_) 0 ⟨(z8 qzz1_0), (z8 qzz1_1), (z8 qzz1_2), (z8 qzz1_6), rfl, rfl⟩))
 obtain ⟨qzz4_0, qzz4_1, qzz4_2, qzz4_6, rfl, rfl⟩ := hI
 refine k_seq (k_seq (k_reg (m1 qzz4_6 (m1 (z1 qzz4_1) (rO (dec_f (o_lss (eV (z1 ds)) eZ) (by simp)) (r_nil (k_cond_f eZ (k_exit (exK_same ?_)))))))))
 exact ⟨_, ans_none, rfl, by omega, Keep.trans kR hk_s (by omega) (fun d _ h => h)⟩
def ssfn_r0 : List Ins := [.mv 4 0,
 .mv 5 0,
 .o 6 (.len .slc (.t 5)),
 .mv 7 1,
 .f 8 118 [(.t 4), (.t 6), (.t 7)]]
def ssfn_c : IC := (.reg ssfn_r0)
theorem ssfn_tab : tb 64 = some (.code 2 9 ssfn_c []) := by kernel_rfl
theorem ssfn_ok {t : TB} {nx : Nat} {cv : AV} : WF tb 64 [.nslice, cv] t nx (fun v t' nx' => v = .tup [] ∧ nx ≤ nx' ∧ Keep t t' nx (fun _ => False)) := by
 refine k_fun ssfn_tab rfl ?_
 unfold ssfn_c
 change WC _ _ (TA.put (some _) (TA.put (some _) TA.e 0) 1) _ _ _
 refine k_reg (m1 (get_other rfl get_same) (m1 (z1 (get_other rfl get_same)) (rO (o_len_nslice eZ) (m1 (z1 (z2 get_same)) (r_call (w_callF (evs_cons (eV (z1 (z2 ds))) (evs_cons (eV (z1 ds)) (evs_cons eZ evs_nil)))) rfl (WF.mono (stbn_ok) ?_))))))
 rintro _ t1 n2 ⟨rfl, hn_s, hk_s⟩
 refine r_nil ?_
 exact ⟨_, ans_none, rfl, by omega, Keep.trans kR hk_s (by omega) (fun d _ h => h)⟩
end Go.Proofs.YtpjohgnhmjceiaaGreatDoor.WX

set_option linter.all false
set_option linter.unusedVariables false
set_option linter.unusedSectionVars false
set_option maxRecDepth 100000
open Go Go.Proofs.YtpjohgnhmjceiaaGreatDoor.AX Go.Proofs
namespace Go.Proofs.YtpjohgnhmjceiaaGreatDoor.WX
variable [Env]
theorem app_gen {t : TB} {nx sz d n e : Nat} {v : AV} {l cs : List AV} {ex : Bool} (h : (v = .nslice ∧ l = [] ∧ n = 0) ∨ v = .slice d 0 n n sz false ∧ hv t d = some (.row l true)) (hl : l.length = n * sz) (he : hv t e = some (.row cs true)) (hc : allCell cs = true) (hcs : cs.length = sz) (hs : (n + 1) * sz ≤ 65536) :
   ∃ t', appendA sz v (.slice e 0 1 1 sz ex) t nx = .ok (.slice nx 0 (n + 1) (n + 1) sz false) t' (nx + 1) ∧ (hv t' nx = some (.row (l ++ cs) true) ∧ Keep t t' nx (fun b => b = d)) := by
 have hsrc : srcCells (.slice e 0 1 1 sz ex) 1 sz t = some cs := by
   rw [src_row (k := 1) he (by omega), Nat.one_mul]
   congr 1
   exact whole hcs
 rcases h with ⟨rfl, rfl, rfl⟩ | ⟨rfl, hr⟩
 · obtain ⟨t', h1, h2⟩ := app_nil (t := t) (nx := nx) (sz := sz) (k := 1) (cs := cs) rfl hsrc hc (by decide) (by omega)
   exact ⟨t', h1, by rw [h2, upd_same]; rfl, Keep.upd kR h2 (.inl (Nat.le_refl _))⟩
 · obtain ⟨t', h1, t1, h2, h3⟩ := app_new_f (t := t) (nx := nx) (sz := sz) (k := 1) (b := d) (o := 0) (n := n) (c := n) (y := .slice e 0 1 1 sz ex) rfl hsrc hc hr (by omega) (by omega) hs
   refine ⟨t', h1, ?_, Keep.upd (Keep.upd kR h2 (.inr rfl)) h3 (.inl (Nat.le_refl _))⟩
   rw [lS h3, show (l.drop 0).take (n * sz) = l from whole hl]
/-- A list of its own, in the block d. -/
structure OL (t : TB) (nx d : Nat) (v : AV) (n sz : Nat) (l : List AV) : Prop where
 lt : d < nx
 v : (v = .nslice ∧ l = [] ∧ n = 0) ∨ v = .slice d 0 n n sz false ∧ hv t d = some (.row l true)
 len : l.length = n * sz
theorem OL.keep {t t' : TB} {nx nx' d n sz : Nat} {v : AV} {l : List AV} {W : Nat → Prop} (h : OL t nx d v n sz l) (hk : Keep t t' nx W) (hw : ¬ W d) (hn : nx ≤ nx') : OL t' nx' d v n sz l :=
 ⟨Nat.lt_of_lt_of_le h.lt hn, h.v.elim .inl (fun h1 => .inr ⟨h1.1, (hk d h.lt hw).trans h1.2⟩), h.len⟩
theorem OL.app {t : TB} {nx d n sz e : Nat} {v : AV} {l cs : List AV} {ex : Bool} (h : OL t nx d v n sz l) (he : hv t e = some (.row cs true)) (hc : allCell cs = true) (hcs : cs.length = sz) (hs : (n + 1) * sz ≤ 65536) :
   ∃ t', appendA sz v (.slice e 0 1 1 sz ex) t nx = .ok (.slice nx 0 (n + 1) (n + 1) sz false) t' (nx + 1) ∧ (OL t' (nx + 1) nx (.slice nx 0 (n + 1) (n + 1) sz false) (n + 1) sz (l ++ cs) ∧ Keep t t' nx (fun b => b = d)) := by
 obtain ⟨t', h1, h2, h3⟩ := app_gen h.v h.len he hc hcs hs
 exact ⟨t', h1, ⟨Nat.lt_succ_self _, .inr ⟨rfl, h2⟩, by rw [List.length_append, h.len, hcs, Nat.succ_mul]⟩, h3⟩
theorem OL.flat {t : TB} {nx d n sz : Nat} {v : AV} {l : List AV} (h : OL t nx d v n sz l) : flatC v = true := by
 rcases h.v with ⟨rfl, -⟩ | ⟨rfl, -⟩ <;> rfl
theorem OL.cell {t : TB} {nx d n sz : Nat} {v : AV} {l : List AV} (h : OL t nx d v n sz l) : isCell v = true := by
 rcases h.v with ⟨rfl, -⟩ | ⟨rfl, -⟩ <;> rfl
theorem o_len_OL {T : TA} {t t0 : TB} {nx n0 d n sz : Nat} {v : AV} {l : List AV} {x : Opd} (h : OL t0 n0 d v n sz l) (hx : x.ev T = some v) : (IOp.len .slc x).run T t nx = .ok (.int .i64 ((n : Nat) : Int)) t nx := by
 rcases h.v with ⟨rfl, -, rfl⟩ | ⟨rfl, -⟩
 · exact o_len_nslice hx
 · exact o_len_slice hx
theorem o_len_D {T : TA} {t : TB} {nx DL m : Nat} {P Q : Prop} {v : AV} {x : Opd} (h : v = .nslice ∧ P ∧ m = 0 ∨ v = .slice DL 0 m m 1 false ∧ Q) (hx : x.ev T = some v) : (IOp.len .slc x).run T t nx = .ok (.int .i64 ((m : Nat) : Int)) t nx := by
 rcases h with ⟨rfl, -, rfl⟩ | ⟨rfl, -⟩
 · exact o_len_nslice hx
 · exact o_len_slice hx
theorem o_len_Q1 {T : TA} {t : TB} {nx D : Nat} {P Q : Prop} {v : AV} {x : Opd} (h : ((v = .nslice ∨ v = .slice D 0 0 1 3 false ∧ P) ∨ v = .slice D 0 1 1 3 false ∧ Q)) (hx : x.ev T = some v) : ∃ u, (IOp.len .slc x).run T t nx = .ok u t nx ∧ ∃ r : Nat, u = .int .i64 (r : Int) ∧ r ≤ 1 := by
 rcases h with (rfl | ⟨rfl, -⟩) | ⟨rfl, -⟩
 · exact ⟨_, o_len_nslice hx, 0, rfl, by decide⟩
 · exact ⟨_, o_len_slice hx, 0, rfl, by decide⟩
 · exact ⟨_, o_len_slice hx, 1, rfl, by decide⟩
theorem dS_succ (m : Nat) : ints (dS m) ++ [.int .i64 ((m + 1 : Nat) : Int)] = ints (dS (m + 1)) := by
 simp [ints, i64, dS, List.range_succ]
theorem vS_zero_succ (i : Nat) : strs (vS i 0) ++ [.str [120]] = strs (vS (i + 1) 0) := by
 simp [strs, vS, List.range_succ]
theorem cells_of {v : AV} (h : isCell v = true) : v.cells = [v] := by
 cases v <;> first | rfl | cases h
theorem agg3_flat {t t' : TB} {bd bd' : Nat} {vn vt : AV} {p : Int} {ns : List Nd} {ts : List Int} (h : RowN t bd vn ns) (h2 : RowI t' bd' vt ts) : ∀ v ∈ [vn, vt, .int .i64 p], flatC v = true := by
 intro v hv
 simp only [List.mem_cons, List.not_mem_nil, or_false] at hv
 rcases hv with rfl | rfl | rfl
 · rcases h with ⟨rfl, -⟩ | ⟨d, o, c, ex, wr, r, ivs, rfl, -⟩ <;> rfl
 · exact h2.flat
 · rfl

def send_r0 : List Ins := [.o 6 (.mov (.c (.bool false)))]
def send_r1 : List Ins := [.mv 11 0,
 .o 12 (.nilck (.t 11)),
 .o 13 (.faddr (.t 12) 5),
 .o 14 (.load (.t 13)),
 .o 15 (.len .slc (.t 14)),
 .o 16 (.mov (kI 0))]
def send_r2 : List Ins := [.o 17 (.bin .lss (.t 16) (.t 15))]
def send_r3 : List Ins := [.o 18 (.iaddr 1 (.t 14) (.t 16)),
 .o 19 (.load (.t 18)),
 .mv 8 19]
def send_r4 : List Ins := [.mv 20 0,
 .o 21 (.nilck (.t 20)),
 .o 22 (.faddr (.t 21) 0),
 .o 23 (.faddr (.t 22) 0),
 .o 24 (.load (.t 23)),
 .mv 25 8,
 .o 26 (.iaddr 8 (.t 24) (.t 25)),
 .o 27 (.loadA 8 (.t 26)),
 .o 9 (.alloc [(.int .i64 0), (.int .i64 0), (.int .i64 0), .nslice, (.str []), (.int .i64 0), (.int .i64 0), (.int .i64 0)]),
 .x (.store 8 (.t 9) (.t 27))]
def send_r5 : List DIns := [⟨0, [], .mv 28 0⟩,
 ⟨1, [0], .o 29 (.nilck (.t 28))⟩,
 ⟨2, [1], .o 30 (.faddr (.t 29) 6)⟩,
 ⟨3, [2], .o 31 (.load (.t 30))⟩,
 ⟨4, [], .o 32 (.faddr (.t 9) 3)⟩,
 ⟨5, [4], .o 33 (.load (.t 32))⟩,
 ⟨6, [5], .o 34 (.iaddr 1 (.t 33) (kI 0))⟩,
 ⟨7, [6], .o 35 (.load (.t 34))⟩,
 ⟨8, [3, 7], .o 36 (.iaddr 1 (.t 31) (.t 35))⟩,
 ⟨9, [8], .o 37 (.load (.t 36))⟩,
 ⟨10, [9, 0, 1, 2, 3, 4, 5, 6, 7, 8, 9], .mv 10 37⟩]
def send_r6 : List Ins := [.mv 38 10,
 .mv 39 0,
 .o 40 (.nilck (.t 39)),
 .o 41 (.faddr (.t 40) 8),
 .o 42 (.load (.t 41)),
 .mv 43 8,
 .o 44 (.iaddr 1 (.t 42) (.t 43)),
 .o 45 (.load (.t 44)),
 .o 46 (.bin .eql (.t 38) (.t 45))]
def send_r7 : List Ins := [.mv 47 0,
 .o 48 (.nilck (.t 47)),
 .o 49 (.faddr (.t 48) 8),
 .o 50 (.load (.t 49)),
 .mv 51 8,
 .mv 52 10,
 .o 53 (.iaddr 1 (.t 50) (.t 51)),
 .x (.store 1 (.t 53) (.t 52))]
def send_r8 : List Ins := [.o 54 (.faddr (.t 9) 7),
 .o 55 (.load (.t 54)),
 .mv 56 2,
 .mv 57 1,
 .o 58 (.bin .sub (.t 56) (.t 57)),
 .o 59 (.bin .leq (.t 55) (.t 58))]
def send_r9 : List DIns := [⟨0, [], .mv 60 0⟩,
 ⟨1, [0], .o 61 (.nilck (.t 60))⟩,
 ⟨2, [1], .o 62 (.faddr (.t 61) 9)⟩,
 ⟨3, [2], .o 63 (.iface 111 (.t 62))⟩,
 ⟨4, [], .mv 64 1⟩,
 ⟨5, [], .o 65 (.faddr (.t 9) 7)⟩,
 ⟨6, [5], .o 66 (.load (.t 65))⟩,
 ⟨7, [4, 6], .o 67 (.bin .add (.t 64) (.t 66))⟩,
 ⟨8, [], .mv 68 8⟩,
 ⟨9, [], .mv 69 10⟩,
 ⟨10, [7, 8, 9], .o 70 (.build [(.int .i64 0), (.int .i64 0), (.str [])] [(0, 1, (.t 67)), (1, 1, (.t 68)), (2, 1, (.t 69))])⟩,
 ⟨11, [10], .o 71 (.iface 109 (.t 70))⟩,
 ⟨12, [3, 11], .f 72 111 [(.t 63), (.t 71)]⟩]
def send_r10 : List Ins := [.o 73 (.bin .add (.t 16) (kI 1)),
 .mv 16 73]
def send_r11 : List Ins := [.mv 74 0,
 .o 75 (.nilck (.t 74)),
 .o 76 (.faddr (.t 75) 9),
 .o 77 (.load (.t 76)),
 .o 78 (.len .slc (.t 77)),
 .o 79 (.bin .leq (.t 78) (kI 4096)),
 .mv 6 79]
def send_c : IC := (.seq (.reg send_r0) (.seq (.seq (.reg send_r1) (.block 0 (.loop (.seq (.reg send_r2) (.seq (.cond (.t 17) .skip (.exit 0)) (.seq (.block 1 (.seq (.reg send_r3) (.seq (.reg send_r4) (.seq (.draw send_r5) (.seq (.seq (.reg send_r6) (.cond (.t 46) (.exit 1) .skip)) (.seq (.reg send_r7) (.seq (.reg send_r8) (.cond (.t 59) (.draw send_r9) .skip)))))))) (.reg send_r10))))))) (.seq (.reg send_r11) .ret)))
theorem send_tab : tb 58 = some (.code 3 80 send_c [.tmp 6]) := by kernel_rfl
set_option maxHeartbeats 4000000 in
theorem send_ok {t : TB} {nx bd R V LA DL D n k j : Nat} {vn vt dlv wv qv : AV} {p : Int} {dz : List Int} (hS : ST t nx bd R V LA DL D vn vt p dlv wv qv n k j dz) {ns : List Nd} {ts : List Int} (hL : NL t bd vn vt ns ts dz) (hb : bd ≤ nx) {now : Int} (hnow : 0 ≤ now ∧ now ≤ 400000) (hkj : (k = 0 ∧ j = 0) ∨ k = j + 1) (hkn : k ≤ n) (hQ : QE t nx D qv) : WF tb 58 [.ptr R 0, .int .i64 now, .int .i64 1048576] t nx (fun v t' nx' => v = .bool true ∧ ∃ (j2 D2 : Nat) (qv2 : AV), ST t' nx' bd R V LA DL D2 vn vt p dlv wv qv2 n k j2 dz ∧ (D2 = D ∨ nx ≤ D2) ∧ ((j = j2 ∧ QE t' nx' D2 qv2 ∧ (k = j + 1 → dz.length < k)) ∨ (k = j + 1 ∧ k = j2 ∧ k ≤ dz.length ∧ ∃ d, dz[j]? = some d ∧ qv2 = .slice D2 0 1 1 3 false ∧ hv t' D2 = some (.row [.int .i64 (now + d), .int .i64 ((k : Nat) : Int), .str [49]] true))) ∧ nx ≤ nx' ∧ Keep t t' nx (fun b => b = R ∨ b = LA ∨ b = D)) := by
 have hs := hS.hs
 have hn_ := hS.hn
 have hll := hL.ln.len
 have htl := hL.tl
 refine k_fun send_tab rfl ?_
 unfold send_c
 change WC _ _ (TA.put (some _) (TA.put (some _) (TA.put (some _) TA.e 0) 1) 2) _ _ _
 refine k_seq (k_reg (rO (o_mov ev_c) (r_nil (k_seq (k_seq (k_reg (m1 (z1 (get_other rfl (get_other rfl get_same))) (rO (o_nilck eZ) (rO (o_faddr (off := 5) eZ) (rO (o_load eZ hS.hR rfl) ?_))))))))))
 refine rO (o_len_D (Q := True) (P := True) (DL := DL) (m := dz.length) (hS.hDL.elim (fun h => .inl ⟨h.1, trivial, by rw [h.2]; rfl⟩) (fun h => .inr ⟨h.1, trivial⟩)) eZ) ?_
 refine rO (o_mov ev_c) (r_nil (k_block (k_loop (fun mm Tv tv nv => ∃ (q j2 D2 : Nat) (qv2 : AV), q ≤ dz.length ∧ (Tv.get 0 = some (.ptr R 0) ∧ Tv.get 1 = some (.int .i64 now) ∧ Tv.get 2 = some (.int .i64 1048576) ∧ Tv.get 14 = some dlv ∧ Tv.get 15 = some (.int .i64 ((dz.length : Nat) : Int)) ∧ Tv.get 16 = some (.int .i64 ((q : Nat) : Int))) ∧ ST tv nv bd R V LA DL D2 vn vt p dlv wv qv2 n k j2 dz ∧ (D2 = D ∨ nx ≤ D2) ∧ ((j = j2 ∧ D = D2 ∧ qv = qv2 ∧ QE tv nv D2 qv2 ∧ (k = j + 1 → q < k)) ∨ (k = j + 1 ∧ k = j2 ∧ k ≤ q ∧ ∃ d, dz[j]? = some d ∧ qv2 = .slice D2 0 1 1 3 false ∧ hv tv D2 = some (.row [.int .i64 (now + d), .int .i64 ((k : Nat) : Int), .str [49]] true))) ∧ NL tv bd vn vt ns ts dz ∧ nx ≤ nv ∧ Keep t tv nx (fun b => b = R ∨ b = LA ∨ b = D) ∧ mm + q = dz.length) (fun mm Tv tv nv hI => ?_) (dz.length) ⟨0, j, D, qv, by omega, ⟨(z1 (z2 (z4 (get_other rfl (get_other rfl get_same))))), (z1 (z2 (z4 (get_other rfl get_same)))), (z1 (z2 (z4 get_same))), (z2 ds), (z1 ds), ds⟩, (hS.keep (nx' := nx) (show Keep t t nx (fun _ => False) from kR) (fun _ h => h.elim) (by omega)), .inl rfl, .inl ⟨rfl, rfl, rfl, hQ.keep (show Keep t t nx (fun _ => False) from kR) (fun h => h) (by omega), fun h_ => by omega⟩, hL.keep (show Keep t t nx (fun _ => False) from kR) hb (fun _ _ h => h), by omega, kR, rfl⟩)))
 obtain ⟨q, j2, D2, qv2, hq, ⟨q0, q1, q2, q14, q15, q16⟩, hS2, hdd, halt, hL2, hnv, hkv, hmm⟩ := hI
 have hs2 := hS2.hs
 have hj2 : (j2 = j ∧ (k = j + 1 → q < k)) ∨ (k = j + 1 ∧ j2 = k ∧ k ≤ q) := halt.elim (fun h => .inl ⟨h.1.symm, h.2.2.2.2⟩) (fun h => .inr ⟨h.1, h.2.1.symm, h.2.2.1⟩)
 refine k_seq (k_reg (rO (o_lss (eV q16) (eV q15)) (r_nil (k_seq ?_))))
 refine k_if eZ (fun hc1 => ?_) (fun hc1 => ?_)
 · refine k_skip (k_seq (k_block (k_seq ?_)))
   rcases hS2.hDL with ⟨-, h0⟩ | ⟨hde, hDLr⟩
   · have h_ := congrArg List.length h0; simp only [List.length_nil] at h_; omega
   obtain ⟨d, hd⟩ := some_at (l := dz) (i := q) (by omega)
   have hdl := hL.ln.lim d (List.mem_of_getElem? hd)
   obtain ⟨dN, oN, cN, exN, wrN, rN, iv, hNe, hNd, hNr, hNl, hNg, hI, hic⟩ := RowN.at hL2.hN (hL.ln.next q d hd)
   obtain ⟨dI, oI, cI, exI, wrI, rI, hIe, hId, hIr, hIg⟩ := RowI.at (i := 0) hI rfl
   rcases (show q + 1 ≤ j2 ∨ (k = j2 + 1 ∧ q = j2) ∨ k ≤ q by omega) with hc1 | hc1 | hc1
   · refine k_reg (rO (o_iaddrE (i := q) (eV (z1 q14)) hde (eV (z1 q16)) (by omega)) ?_)
     refine rO (o_load eZ hDLr (by simp only [Nat.zero_add, Nat.mul_one]; exact ints_get (dS_get (by omega)))) ?_
     refine m1 ds (r_nil (k_seq (k_reg (m1 (z4 q0) (rO (o_nilck eZ) (rO (o_faddr (off := 0) eZ) (rO (o_faddr (off := 0) eZ) (rO (o_load eZ hS2.hR rfl) (m1 (z1 (z4 ds)) (rO (o_iaddrE (i := (q + 1)) (eV (z1 ds)) hNe eZ (by omega)) (rO (o_loadA (n := 8) eZ hNr (by omega) hNg) (r_heap (o_alloc) rfl (fun t2 (hh3 : hv t2 = upd (hv tv) nv (some (.row [(.int .i64 0), (.int .i64 0), (.int .i64 0), .nslice, (.str []), (.int .i64 0), (.int .i64 0), (.int .i64 0)] true))) => r_heap (o_store (n := 8) eZ (eV (z1 ds)) (lS hh3) rfl (ncells_cell ⟨8, 0, 1, [((q : Nat) : Int)], [], 0, 0, d⟩ hic) (leb rfl)) rfl (fun t4 (hh5 : hv t4 = upd (hv t2) nv (some (.row [(.int .i64 8), (.int .i64 0), (.int .i64 1), iv, (.str []), (.int .i64 0), (.int .i64 0), (.int .i64 d)] true))) => r_nil (k_seq (k_draw (eO 0 rfl (o_mov (eV (z2 (z4 (z8 q0))))) (eO 1 rfl (o_nilck eZ) (eO 2 rfl (o_faddr (off := 6) eZ) (eO 3 rfl (o_load eZ (lN hh5 (lN hh3 hS2.hR)) rfl) (eO 4 rfl (o_faddr (off := 3) (eV (z1 (z4 ds)))) (eO 5 rfl (o_load eZ (lS hh5) rfl) (eO 6 rfl (o_iaddrE (i := 0) eZ hIe ev_c (by simp)) (eO 7 rfl (o_load eZ (lN hh5 (lN hh3 hIr)) hIg) (eO 8 rfl (o_iaddr (i := q) (eV (z4 ds)) eZ (by omega)) ?_)))))))))))))))))))))))))
     refine eO 9 rfl (o_load eZ (lN hh5 (lN hh3 hS2.hV)) (by simp only [Nat.zero_add, Nat.mul_one]; exact strs_get (vS_one (by omega) (by omega)))) ?_
     refine eO 10 rfl (o_mov eZ) (e_done (k_seq (k_seq (k_reg (m1 ds (m1 (z2 (z8 (z8 (z8 q0)))) (rO (o_nilck eZ) (rO (o_faddr (off := 8) eZ) (rO (o_load eZ (lN hh5 (lN hh3 hS2.hR)) rfl) (m1 (z2 (z8 (z8 (z8 ds)))) (rO (o_iaddr (i := (q + 1)) (eV (z1 ds)) eZ (by omega)) ?_)))))))))))
     refine rO (o_load eZ (lN hh5 (lN hh3 hS2.hLA)) (by simp only [Nat.zero_add, Nat.mul_one]; exact strs_get (laS_one (by omega) (by omega) (by omega)))) ?_
     refine rO (dec_t (o_str_eql (eV (z1 (z2 (z4 ds)))) eZ) (by decide)) (r_nil (k_cond_t eZ (k_exit (exK_same (k_reg (rO (o_addN (a := q) (b := 1) (eV (z2 (z8 (z8 (z8 (z8 q16)))))) ev_c (by omega)) (m1 ds (r_nil ?_))))))))
     have hK3 := (show Keep tv t4 nv (fun b => False) from Keep.upd (Keep.upd (Keep.refl tv nv _) hh3 (by first | exact .inl (by omega) | (right; first | exact rfl | (show _ ∨ _; omega) | omega))) hh5 (by first | exact .inl (by omega) | (right; first | exact rfl | (show _ ∨ _; omega) | omega)))
     exact ⟨dz.length - (q + 1), by omega, q + 1, j2, D2, qv2, by omega, ⟨(z4 (z8 (z8 (z8 (z8 q0))))), (z4 (z8 (z8 (z8 (z8 q1))))), (z4 (z8 (z8 (z8 (z8 q2))))), (z4 (z8 (z8 (z8 (z8 q14))))), (z4 (z8 (z8 (z8 (z8 q15))))), ds⟩, hS2.keep hK3 (fun _ h => h.elim) (by omega), hdd, halt.elim (fun ⟨a1, a2, a3, qe, hk_⟩ => .inl ⟨a1, a2, a3, qe.keep hK3 (fun h => h) (by omega), fun h_ => by have h2_ := hk_ h_; omega⟩) (fun ⟨a1, a2, a3, d_, e1, e2, e3⟩ => .inr ⟨a1, a2, by omega, d_, e1, e2, (hK3 D2 (by omega) (fun h => h)).trans e3⟩), hL2.keep hK3 (by omega) (fun _ _ h => h), by omega, kU (kU (hkv) hh3) hh5, by omega⟩
   · obtain ⟨hje, hDe, hqe, hQE, hkq_⟩ : j = j2 ∧ D = D2 ∧ qv = qv2 ∧ QE tv nv D2 qv2 ∧ (k = j + 1 → q < k) := halt.elim id (fun h => absurd h.2.1 (by omega))
     have hkq : k = j + 1 ∧ True := ⟨by omega, trivial⟩
     have hqj : q = j := by omega
     subst hje hDe
     refine k_reg (rO (o_iaddrE (i := q) (eV (z1 q14)) hde (eV (z1 q16)) (by omega)) ?_)
     refine rO (o_load eZ hDLr (by simp only [Nat.zero_add, Nat.mul_one]; exact ints_get (dS_get (by omega)))) ?_
     refine m1 ds (r_nil (k_seq (k_reg (m1 (z4 q0) (rO (o_nilck eZ) (rO (o_faddr (off := 0) eZ) (rO (o_faddr (off := 0) eZ) (rO (o_load eZ hS2.hR rfl) (m1 (z1 (z4 ds)) (rO (o_iaddrE (i := (q + 1)) (eV (z1 ds)) hNe eZ (by omega)) (rO (o_loadA (n := 8) eZ hNr (by omega) hNg) (r_heap (o_alloc) rfl (fun t6 (hh7 : hv t6 = upd (hv tv) nv (some (.row [(.int .i64 0), (.int .i64 0), (.int .i64 0), .nslice, (.str []), (.int .i64 0), (.int .i64 0), (.int .i64 0)] true))) => r_heap (o_store (n := 8) eZ (eV (z1 ds)) (lS hh7) rfl (ncells_cell ⟨8, 0, 1, [((q : Nat) : Int)], [], 0, 0, d⟩ hic) (leb rfl)) rfl (fun t8 (hh9 : hv t8 = upd (hv t6) nv (some (.row [(.int .i64 8), (.int .i64 0), (.int .i64 1), iv, (.str []), (.int .i64 0), (.int .i64 0), (.int .i64 d)] true))) => r_nil (k_seq (k_draw (eO 0 rfl (o_mov (eV (z2 (z4 (z8 q0))))) (eO 1 rfl (o_nilck eZ) (eO 2 rfl (o_faddr (off := 6) eZ) (eO 3 rfl (o_load eZ (lN hh9 (lN hh7 hS2.hR)) rfl) (eO 4 rfl (o_faddr (off := 3) (eV (z1 (z4 ds)))) (eO 5 rfl (o_load eZ (lS hh9) rfl) (eO 6 rfl (o_iaddrE (i := 0) eZ hIe ev_c (by simp)) (eO 7 rfl (o_load eZ (lN hh9 (lN hh7 hIr)) hIg) (eO 8 rfl (o_iaddr (i := q) (eV (z4 ds)) eZ (by omega)) ?_)))))))))))))))))))))))))
     refine eO 9 rfl (o_load eZ (lN hh9 (lN hh7 hS2.hV)) (by simp only [Nat.zero_add, Nat.mul_one]; exact strs_get (vS_one (by omega) (by omega)))) ?_
     refine eO 10 rfl (o_mov eZ) (e_done (k_seq (k_seq (k_reg (m1 ds (m1 (z2 (z8 (z8 (z8 q0)))) (rO (o_nilck eZ) (rO (o_faddr (off := 8) eZ) (rO (o_load eZ (lN hh9 (lN hh7 hS2.hR)) rfl) (m1 (z2 (z8 (z8 (z8 ds)))) (rO (o_iaddr (i := (q + 1)) (eV (z1 ds)) eZ (by omega)) ?_)))))))))))
     refine rO (o_load eZ (lN hh9 (lN hh7 hS2.hLA)) (by simp only [Nat.zero_add, Nat.mul_one]; exact strs_get (laS_x (by omega) (by omega)))) ?_
     refine rO (dec_f (o_str_eql (eV (z1 (z2 (z4 ds)))) eZ) (by decide)) (r_nil (k_cond_f eZ (k_skip (k_seq (k_reg (m1 (z2 (z8 (z8 (z8 (z8 q0))))) (rO (o_nilck eZ) (rO (o_faddr (off := 8) eZ) (rO (o_load eZ (lN hh9 (lN hh7 hS2.hR)) rfl) (m1 (z2 (z8 (z8 (z8 (z8 ds))))) (m1 (z2 (z4 (z8 ds))) (rO (o_iaddr (i := (q + 1)) (eV (z2 ds)) (eV (z1 ds)) (by omega)) ?_))))))))))))
     refine r_heap (o_storeS (o := 0 + (q + 1) * 1) eZ (eV (z1 ds)) (lN hh9 (lN hh7 hS2.hLA)) (by rw [laS_len]; omega)) rfl (fun tl_ hl_ => ?_)
     refine r_nil (k_seq (k_reg (rO (o_faddr (off := 7) (eV (z1 (z4 (z8 (z8 (z8 ds))))))) (rO (o_load eZ (lN hl_ (lS hh9)) rfl) (rO (o_mov (eV (z4 (z8 (z8 (z8 (z8 (z8 q2)))))))) (rO (o_mov (eV (z1 (z4 (z8 (z8 (z8 (z8 (z8 q1))))))))) (rO (o_sub (eV (z1 ds)) eZ (by omega) (by omega)) (rO (o_leq (eV (z1 (z2 ds))) eZ) (r_nil ?_)))))))))
     refine k_in eZ (fun hc10 => ?_) (fun hc10 => ?_)
     · refine k_draw (eO 0 rfl (o_mov (eV (z8 (z8 (z8 (z8 (z8 (z8 q0)))))))) (eO 1 rfl (o_nilck eZ) (eO 2 rfl (o_faddr (off := 9) eZ) (eO 3 rfl (o_iface eZ) (eO 4 rfl (o_mov (eV (z4 (z8 (z8 (z8 (z8 (z8 (z8 q1))))))))) (eO 5 rfl (o_faddr (off := 7) (eV (z8 (z8 (z8 (z8 (z8 ds))))))) (eO 6 rfl (o_load eZ (lN hl_ (lS hh9)) rfl) (eO 7 rfl (o_add (eV (z2 ds)) eZ (by omega) (by omega)) (eO 8 rfl (o_mov (eV (z4 (z8 (z8 (z8 (z8 (z8 (z8 ds))))))))) (eO 9 rfl (o_mov (eV (z8 (z8 (z8 (z8 ds)))))) (eO 10 rfl (o_build (fill_cons (eV (z2 ds)) rfl rfl (fill_cons (eV (z1 ds)) rfl rfl (fill_cons eZ rfl rfl fill_nil)))) (eO 11 rfl (o_iface eZ) ?_))))))))))))
       refine d_call (ix := 12) (pr := [3, 11]) (d := (some 72)) (g := none) (F' := [(⟨5, [], .o 65 (.faddr (.t 9) 7)⟩, (.ptr nv 7))]) (w_callF (evs_cons (eV (z8 ds)) (evs_cons eZ evs_nil))) rfl (by kernel_rfl) (by kernel_rfl) (by kernel_rfl) (by kernel_rfl) (WF.mono (dhpush_ok (D := D) (lN hl_ (lN hh9 (lN hh7 hS2.hR))) (by omega) (hQE.keep (show Keep tv tl_ nv (fun b => b = LA) from Keep.upd (Keep.upd (Keep.upd (Keep.refl tv nv _) hh7 (by first | exact .inl (by omega) | (right; first | exact rfl | (show _ ∨ _; omega) | omega))) hh9 (by first | exact .inl (by omega) | (right; first | exact rfl | (show _ ∨ _; omega) | omega))) hl_ (by first | exact .inl (by omega) | (right; first | exact rfl | (show _ ∨ _; omega) | omega))) (by omega) (by omega)) (by omega)) ?_)
       rintro _ t11 n12 ⟨rfl, D3, hd1, hd2, hR3, hD3, hd3, hn_p, hk_p⟩
       refine ⟨?_, ?_⟩
       · exact (all_cons_ (still_op rfl rfl (o_faddr (off := 7) (eV (z8 (z8 (z8 (z8 (z8 (z8 ds)))))))) (aeq_flat rfl)) all_nil_)
       refine e_done (k_reg (rO (o_addN (a := q) (b := 1) (eV (z1 (z4 (z8 (z8 (z8 (z8 (z8 (z8 (z8 q16)))))))))) ev_c (by omega)) (m1 ds (r_nil ?_))))
       have hK3 := (show Keep tv t11 nv (fun b => b = R ∨ b = LA ∨ b = D) from Keep.trans (Keep.upd (Keep.upd (Keep.upd (Keep.refl tv nv _) hh7 (by first | exact .inl (by omega) | (right; first | exact rfl | (show _ ∨ _; omega) | omega))) hh9 (by first | exact .inl (by omega) | (right; first | exact rfl | (show _ ∨ _; omega) | omega))) hl_ (by first | exact .inl (by omega) | (right; first | exact rfl | (show _ ∨ _; omega) | omega))) hk_p (by omega) ((fun _ _ h => h.elim .inl (fun h => .inr (.inr h)))))
       have hS3 : ST t11 n12 bd R V LA DL D3 vn vt p dlv wv (.slice D3 0 1 1 3 false) n k k dz := ⟨hR3, (Keep.look hk_p (by omega) (fun h_ => absurd (show V = R ∨ V = D from h_) (by omega)) (lN hl_ (lN hh9 (lN hh7 hS2.hV)))), (by have h_ := (Keep.look hk_p (by omega) (fun h_ => absurd (show LA = R ∨ LA = D from h_) (by omega)) (lS hl_)); rw [hqj, show 0 + (j + 1) * 1 = j + 1 by omega, laS_set (by omega)] at h_; rw [show k = j + 1 from hkq.1]; exact h_), hS2.hDL.elim .inl (fun h => .inr ⟨h.1, (hK3 DL (by omega) (by omega)).trans h.2⟩), by omega, hS2.hn⟩
       exact ⟨dz.length - (q + 1), by omega, q + 1, k, D3, _, by omega, ⟨(z1 (z2 (z4 (z8 (z8 (z8 (z8 (z8 (z8 (z8 q0)))))))))), (z1 (z2 (z4 (z8 (z8 (z8 (z8 (z8 (z8 (z8 q1)))))))))), (z1 (z2 (z4 (z8 (z8 (z8 (z8 (z8 (z8 (z8 q2)))))))))), (z1 (z2 (z4 (z8 (z8 (z8 (z8 (z8 (z8 (z8 q14)))))))))), (z1 (z2 (z4 (z8 (z8 (z8 (z8 (z8 (z8 (z8 q15)))))))))), ds⟩, hS3, by omega, .inr ⟨hkq.1, rfl, by omega, d, (by rw [← hqj]; exact hd), rfl, (by have h_ := hD3; rw [show k = q + 1 by omega]; exact h_)⟩, hL2.keep hK3 (by omega) (fun b hb_ h_ => by have e_ : b = R ∨ b = LA ∨ b = D := h_; omega), by omega, Keep.trans (Keep.upd (kU (kU (hkv) hh7) hh9) hl_ (.inr (.inr (.inl rfl)))) hk_p (by omega) ((fun _ _ h => h.elim .inl (fun h => .inr (.inr h)))), by omega⟩
     refine k_skip (k_reg (rO (o_addN (a := q) (b := 1) (eV (z8 (z8 (z8 (z8 (z8 (z8 q16))))))) ev_c (by omega)) (m1 ds (r_nil ?_))))
     exfalso; omega
   refine k_reg (rO (o_iaddrE (i := q) (eV (z1 q14)) hde (eV (z1 q16)) (by omega)) ?_)
   refine rO (o_load eZ hDLr (by simp only [Nat.zero_add, Nat.mul_one]; exact ints_get (dS_get (by omega)))) ?_
   refine m1 ds (r_nil (k_seq (k_reg (m1 (z4 q0) (rO (o_nilck eZ) (rO (o_faddr (off := 0) eZ) (rO (o_faddr (off := 0) eZ) (rO (o_load eZ hS2.hR rfl) (m1 (z1 (z4 ds)) (rO (o_iaddrE (i := (q + 1)) (eV (z1 ds)) hNe eZ (by omega)) (rO (o_loadA (n := 8) eZ hNr (by omega) hNg) (r_heap (o_alloc) rfl (fun t13 (hh14 : hv t13 = upd (hv tv) nv (some (.row [(.int .i64 0), (.int .i64 0), (.int .i64 0), .nslice, (.str []), (.int .i64 0), (.int .i64 0), (.int .i64 0)] true))) => r_heap (o_store (n := 8) eZ (eV (z1 ds)) (lS hh14) rfl (ncells_cell ⟨8, 0, 1, [((q : Nat) : Int)], [], 0, 0, d⟩ hic) (leb rfl)) rfl (fun t15 (hh16 : hv t15 = upd (hv t13) nv (some (.row [(.int .i64 8), (.int .i64 0), (.int .i64 1), iv, (.str []), (.int .i64 0), (.int .i64 0), (.int .i64 d)] true))) => r_nil (k_seq (k_draw (eO 0 rfl (o_mov (eV (z2 (z4 (z8 q0))))) (eO 1 rfl (o_nilck eZ) (eO 2 rfl (o_faddr (off := 6) eZ) (eO 3 rfl (o_load eZ (lN hh16 (lN hh14 hS2.hR)) rfl) (eO 4 rfl (o_faddr (off := 3) (eV (z1 (z4 ds)))) (eO 5 rfl (o_load eZ (lS hh16) rfl) (eO 6 rfl (o_iaddrE (i := 0) eZ hIe ev_c (by simp)) (eO 7 rfl (o_load eZ (lN hh16 (lN hh14 hIr)) hIg) (eO 8 rfl (o_iaddr (i := q) (eV (z4 ds)) eZ (by omega)) ?_)))))))))))))))))))))))))
   refine eO 9 rfl (o_load eZ (lN hh16 (lN hh14 hS2.hV)) (by simp only [Nat.zero_add, Nat.mul_one]; exact strs_get (vS_x (by omega) (by omega)))) ?_
   refine eO 10 rfl (o_mov eZ) (e_done (k_seq (k_seq (k_reg (m1 ds (m1 (z2 (z8 (z8 (z8 q0)))) (rO (o_nilck eZ) (rO (o_faddr (off := 8) eZ) (rO (o_load eZ (lN hh16 (lN hh14 hS2.hR)) rfl) (m1 (z2 (z8 (z8 (z8 ds)))) (rO (o_iaddr (i := (q + 1)) (eV (z1 ds)) eZ (by omega)) ?_)))))))))))
   refine rO (o_load eZ (lN hh16 (lN hh14 hS2.hLA)) (by simp only [Nat.zero_add, Nat.mul_one]; exact strs_get (laS_x (by omega) (by omega)))) ?_
   refine rO (dec_t (o_str_eql (eV (z1 (z2 (z4 ds)))) eZ) (by decide)) (r_nil (k_cond_t eZ (k_exit (exK_same (k_reg (rO (o_addN (a := q) (b := 1) (eV (z2 (z8 (z8 (z8 (z8 q16)))))) ev_c (by omega)) (m1 ds (r_nil ?_))))))))
   have hK3 := (show Keep tv t15 nv (fun b => False) from Keep.upd (Keep.upd (Keep.refl tv nv _) hh14 (by first | exact .inl (by omega) | (right; first | exact rfl | (show _ ∨ _; omega) | omega))) hh16 (by first | exact .inl (by omega) | (right; first | exact rfl | (show _ ∨ _; omega) | omega)))
   exact ⟨dz.length - (q + 1), by omega, q + 1, j2, D2, qv2, by omega, ⟨(z4 (z8 (z8 (z8 (z8 q0))))), (z4 (z8 (z8 (z8 (z8 q1))))), (z4 (z8 (z8 (z8 (z8 q2))))), (z4 (z8 (z8 (z8 (z8 q14))))), (z4 (z8 (z8 (z8 (z8 q15))))), ds⟩, hS2.keep hK3 (fun _ h => h.elim) (by omega), hdd, halt.elim (fun ⟨a1, a2, a3, qe, hk_⟩ => .inl ⟨a1, a2, a3, qe.keep hK3 (fun h => h) (by omega), fun h_ => by have h2_ := hk_ h_; omega⟩) (fun ⟨a1, a2, a3, d_, e1, e2, e3⟩ => .inr ⟨a1, a2, by omega, d_, e1, e2, (hK3 D2 (by omega) (fun h => h)).trans e3⟩), hL2.keep hK3 (by omega) (fun _ _ h => h), by omega, kU (kU (hkv) hh14) hh16, by omega⟩
 refine k_exit (exK_same (k_seq (k_reg (m1 (z1 q0) (rO (o_nilck eZ) (rO (o_faddr (off := 9) eZ) (rO (o_load eZ hS2.hR rfl) (r_ex (o_len_Q1 (P := True) (Q := True) (D := D2) (halt.elim (fun ⟨_, _, _, qe, _⟩ => .inl (qe.2.elim .inl (fun h => .inr ⟨h.1, trivial⟩))) (fun ⟨_, _, _, _, _, h, _⟩ => .inr ⟨h, trivial⟩)) eZ) rfl ?_))))))))
 rintro _ ⟨r_, rfl, hr_⟩
 refine rO (o_leq eZ ev_c) (m1 ds (r_nil (k_ret ?_)))
 exact ⟨_, ans_tmp ds, congrArg AV.bool (by rw [decide_eq_false (by omega)]; rfl), j2, D2, qv2, hS2, hdd, halt.elim (fun ⟨a1, _, _, qe, hk_⟩ => .inl ⟨a1, qe, fun h_ => by have h2_ := hk_ h_; omega⟩) (fun ⟨a1, a2, a3, a4⟩ => .inr ⟨a1, a2, by omega, a4⟩), by omega, hkv⟩
end Go.Proofs.YtpjohgnhmjceiaaGreatDoor.WX

set_option linter.all false
set_option linter.unusedVariables false
set_option linter.unusedSectionVars false
set_option maxRecDepth 100000
open Go Go.Proofs.YtpjohgnhmjceiaaGreatDoor.AX Go.Proofs
namespace Go.Proofs.YtpjohgnhmjceiaaGreatDoor.WX
variable [Env]
def begun_r0 : List Ins := [.o 1 (.box (.t 0)),
 .o 2 (.mov (.c .nil))]
def begun_r1 : List Ins := [.o 11 (.loadA 3 (.t 1)),
 .f 12 52 [(.t 11)],
 .mv 10 12,
 .o 13 (.extr (.t 10) 0),
 .o 14 (.extr (.t 10) 1),
 .o 3 (.alloc [.nslice]),
 .x (.store 1 (.t 3) (.t 13)),
 .mv 4 14]
def begun_r2 : List DIns := [⟨0, [], .o 15 (.loadA 3 (.t 1))⟩,
 ⟨1, [], .o 16 (.faddr (.t 1) 0)⟩,
 ⟨2, [1], .o 17 (.load (.t 16))⟩,
 ⟨3, [2], .o 18 (.len .slc (.t 17))⟩,
 ⟨4, [3, 3], .o 19 (.mkslice 1 [(.str [])] (.t 18) (.t 18))⟩,
 ⟨5, [0, 4], .o 20 (.build [.nslice, .nslice, (.int .i64 0), .nslice, .nslice, .nslice, .nslice, .nslice, .nslice, .nslice] [(0, 3, (.t 15)), (7, 1, (.t 19))])⟩,
 ⟨6, [5], .o 21 (.box (.t 20))⟩,
 ⟨7, [6, 0, 1, 2, 3, 4, 5, 6], .mv 5 21⟩]
def begun_r3 : List Ins := [.o 22 (.faddr (.t 1) 0),
 .o 23 (.load (.t 22)),
 .o 24 (.len .slc (.t 23)),
 .o 25 (.mov (kI 0))]
def begun_r4 : List Ins := [.o 26 (.bin .lss (.t 25) (.t 24))]
def begun_r5 : List Ins := [.mv 27 25,
 .o 28 (.iaddr 8 (.t 23) (.t 25)),
 .o 29 (.loadA 8 (.t 28)),
 .o 7 (.alloc [(.int .i64 0), (.int .i64 0), (.int .i64 0), .nslice, (.str []), (.int .i64 0), (.int .i64 0), (.int .i64 0)]),
 .mv 6 27,
 .x (.store 8 (.t 7) (.t 29))]
def begun_r6 : List DIns := [⟨0, [], .mv 30 5⟩,
 ⟨1, [], .mv 31 5⟩,
 ⟨2, [1], .o 32 (.nilck (.t 31))⟩,
 ⟨3, [2], .o 33 (.faddr (.t 32) 6)⟩,
 ⟨4, [3], .o 34 (.load (.t 33))⟩,
 ⟨5, [], .o 35 (.faddr (.t 7) 2)⟩,
 ⟨6, [5], .o 36 (.load (.t 35))⟩,
 ⟨7, [6], .f 37 62 [(.c (.str [120])), (.t 36)]⟩,
 ⟨8, [7], .o 38 (.bslice 1 1 [(.str [])] [(0, 1, (.t 37))])⟩,
 ⟨9, [4, 8, 7], .o 39 (.app 1 (.t 34) (.t 38))⟩,
 ⟨10, [0, 0, 1, 2, 3, 4, 5, 6, 7, 8, 9], .o 40 (.nilck (.t 30))⟩,
 ⟨11, [10, 0, 1, 2, 3, 4, 5, 6, 7, 8, 9], .o 41 (.faddr (.t 40) 6)⟩,
 ⟨12, [11, 9, 9, 0, 1, 2, 3, 4, 5, 6, 7, 8, 9], .x (.store 1 (.t 41) (.t 39))⟩]
def begun_r7 : List Ins := [.o 42 (.faddr (.t 7) 0),
 .o 43 (.load (.t 42))]
def begun_r8 : List Ins := [.o 55 (.bin .eql (.t 43) (kI 7)),
 .mv 54 55]
def begun_r9 : List Ins := [.mv 56 5,
 .mv 57 5,
 .o 58 (.nilck (.t 57)),
 .o 59 (.faddr (.t 58) 4),
 .o 60 (.load (.t 59)),
 .mv 61 6,
 .o 62 (.bslice 1 1 [(.int .i64 0)] [(0, 1, (.t 61))]),
 .o 63 (.app 1 (.t 60) (.t 62)),
 .o 64 (.nilck (.t 56)),
 .o 65 (.faddr (.t 64) 4),
 .x (.store 1 (.t 65) (.t 63))]
def begun_r10 : List Ins := [.o 67 (.bin .eql (.t 43) (kI 8)),
 .mv 66 67]
def begun_r11 : List Ins := [.mv 68 5,
 .mv 69 5,
 .o 70 (.nilck (.t 69)),
 .o 71 (.faddr (.t 70) 5),
 .o 72 (.load (.t 71)),
 .mv 73 6,
 .o 74 (.bslice 1 1 [(.int .i64 0)] [(0, 1, (.t 73))]),
 .o 75 (.app 1 (.t 72) (.t 74)),
 .o 76 (.nilck (.t 68)),
 .o 77 (.faddr (.t 76) 5),
 .x (.store 1 (.t 77) (.t 75))]
def begun_r12 : List Ins := [.o 79 (.bin .eql (.t 43) (kI 2)),
 .mv 78 79]
def begun_r13 : List Ins := [.mv 44 5,
 .mv 45 5,
 .o 46 (.nilck (.t 45)),
 .o 47 (.faddr (.t 46) 3),
 .o 48 (.load (.t 47)),
 .mv 49 6,
 .o 50 (.bslice 1 1 [(.int .i64 0)] [(0, 1, (.t 49))]),
 .o 51 (.app 1 (.t 48) (.t 50)),
 .o 52 (.nilck (.t 44)),
 .o 53 (.faddr (.t 52) 3),
 .x (.store 1 (.t 53) (.t 51))]
def begun_r14 : List Ins := [.o 80 (.bin .add (.t 25) (kI 1)),
 .mv 25 80]
def begun_r15 : List Ins := [.mv 81 5,
 .mv 82 5,
 .o 83 (.nilck (.t 82)),
 .o 84 (.faddr (.t 83) 6),
 .o 85 (.load (.t 84)),
 .f 86 63 [(.t 85)],
 .o 87 (.nilck (.t 81)),
 .o 88 (.faddr (.t 87) 8),
 .x (.store 1 (.t 88) (.t 86))]
def begun_r16 : List Ins := [.mv 89 5,
 .o 90 (.nilck (.t 89)),
 .o 91 (.faddr (.t 90) 3),
 .o 92 (.load (.t 91)),
 .o 93 (.mkfn 107 [] [(.t 3)]),
 .f 94 64 [(.t 92), (.t 93)]]
def begun_r17 : List Ins := [.mv 95 5,
 .f 96 108 [(.t 95)]]
def begun_r18 : List Ins := [.mv 97 5,
 .o 98 (.nilck (.t 97)),
 .o 99 (.faddr (.t 98) 4),
 .o 100 (.load (.t 99)),
 .o 101 (.len .slc (.t 100)),
 .o 102 (.mov (kI 0))]
def begun_r19 : List Ins := [.o 103 (.bin .lss (.t 102) (.t 101))]
def begun_r20 : List Ins := [.o 104 (.iaddr 1 (.t 100) (.t 102)),
 .o 105 (.load (.t 104)),
 .mv 9 105]
def begun_r21 : List DIns := [⟨0, [], .mv 106 5⟩,
 ⟨1, [0], .o 107 (.nilck (.t 106))⟩,
 ⟨2, [1], .o 108 (.faddr (.t 107) 7)⟩,
 ⟨3, [2], .o 109 (.load (.t 108))⟩,
 ⟨4, [], .mv 110 9⟩,
 ⟨5, [], .mv 111 5⟩,
 ⟨6, [5], .o 112 (.nilck (.t 111))⟩,
 ⟨7, [6], .o 113 (.faddr (.t 112) 6)⟩,
 ⟨8, [7], .o 114 (.load (.t 113))⟩,
 ⟨9, [], .o 115 (.faddr (.t 1) 0)⟩,
 ⟨10, [9], .o 116 (.load (.t 115))⟩,
 ⟨11, [], .mv 117 9⟩,
 ⟨12, [10, 11], .o 118 (.iaddr 8 (.t 116) (.t 117))⟩,
 ⟨13, [12], .o 119 (.faddr (.t 118) 3)⟩,
 ⟨14, [13], .o 120 (.load (.t 119))⟩,
 ⟨15, [14], .o 121 (.iaddr 1 (.t 120) (kI 0))⟩,
 ⟨16, [15], .o 122 (.load (.t 121))⟩,
 ⟨17, [8, 16], .o 123 (.iaddr 1 (.t 114) (.t 122))⟩,
 ⟨18, [17], .o 124 (.load (.t 123))⟩,
 ⟨19, [3, 4, 0, 1, 2, 3, 4, 5, 6, 7, 8, 9, 10, 11, 12, 13, 14, 15, 16, 17, 18], .o 125 (.iaddr 1 (.t 109) (.t 110))⟩,
 ⟨20, [19, 18, 0, 1, 2, 3, 4, 5, 6, 7, 8, 9, 10, 11, 12, 13, 14, 15, 16, 17, 18], .x (.store 1 (.t 125) (.t 124))⟩]
def begun_r22 : List Ins := [.o 126 (.bin .add (.t 102) (kI 1)),
 .mv 102 126]
def begun_r23 : List Ins := [.mv 127 5,
 .mv 2 127]
def begun_c : IC := (.seq (.reg begun_r0) (.seq (.reg begun_r1) (.seq (.draw begun_r2) (.seq (.seq (.reg begun_r3) (.block 0 (.loop (.seq (.reg begun_r4) (.seq (.cond (.t 26) .skip (.exit 0)) (.seq (.block 1 (.seq (.reg begun_r5) (.seq (.draw begun_r6) (.seq (.reg begun_r7) (.block 2 (.seq (.reg begun_r8) (.cond (.t 54) (.reg begun_r9) (.seq (.reg begun_r10) (.cond (.t 66) (.reg begun_r11) (.seq (.reg begun_r12) (.cond (.t 78) .skip (.reg begun_r13)))))))))))) (.reg begun_r14))))))) (.seq (.reg begun_r15) (.seq (.reg begun_r16) (.seq (.reg begun_r17) (.seq (.seq (.reg begun_r18) (.block 3 (.loop (.seq (.reg begun_r19) (.seq (.cond (.t 103) .skip (.exit 3)) (.seq (.block 4 (.seq (.reg begun_r20) (.draw begun_r21))) (.reg begun_r22))))))) (.seq (.reg begun_r23) .ret)))))))))
theorem begun_tab : tb 54 = some (.code 1 128 begun_c [.tmp 2]) := by kernel_rfl
set_option maxHeartbeats 4000000 in
theorem begun_ok {t : TB} {nx bd : Nat} {vn vt : AV} {p : Int} {dz : List Int} {ns : List Nd} {ts : List Int} (hL : NL t bd vn vt ns ts dz) (hb : bd ≤ nx) (hG : LvN ns) (hM : MayP ns ts p) (hlong : ∀ x ∈ ns, x.ins.length < 60000 ∧ (∀ c ∈ x.value, c < 256) ∧ x.value.length ≤ 9223372036854775807) : WF tb 54 [.agg [vn, vt, .int .i64 p]] t nx (fun v t' nx' => ∃ (R V LA DL D : Nat) (dlv wv : AV), v = .ptr R 0 ∧ nx + 2 ≤ D ∧ D < R ∧ ST t' nx' nx R V LA DL D vn vt p dlv wv .nslice (dz.length + 1) 0 0 dz ∧ nx ≤ nx' ∧ Keep t t' nx (fun _ => False)) := by
 have hll := hL.ln.len
 have htl := hL.tl
 have hfew := hL.ln.few
 have hcn := hL.hN.cell
 have hct := hL.hT.cell
 refine k_fun begun_tab rfl ?_
 unfold begun_c
 change WC _ _ (TA.put (some _) TA.e 0) _ _ _
 refine k_seq (k_reg (r_heap (o_box (eV get_same)) rfl (fun t1 (hh2 : hv t1 = upd (hv t) nx (some (.row [vn, vt, (.int .i64 p)] true))) => rO (o_mov ev_c) (r_nil (k_seq (k_reg (rO (o_loadA (n := 3) (eV (z1 ds)) (lS hh2) (leb rfl) rfl) (r_call (w_callF (evs_cons eZ evs_nil)) rfl (WF.mono (lrunc_ok (hL.hN.keep (fun d hd hw => (show Keep t t1 nx (fun _ => False) from kU kR hh2) d (by omega) hw) (Nat.le_refl bd)) (hL.hT.keep (fun d hd hw => (show Keep t t1 nx (fun _ => False) from kU kR hh2) d (by omega) hw) (Nat.le_refl bd)) (by omega) hG hM (by omega) hlong) ?_)))))))))
 rintro _ t3 n4 ⟨lv, rfl, hlc, hn_l, hk_l⟩
 obtain ⟨n_l, rfl⟩ : ∃ k, k = n4 := ⟨_, rfl⟩
 refine m1 ds (rO (o_extr eZ rfl) (rO (o_extr (eV (z1 ds)) rfl) (r_heap (o_alloc) rfl (fun t5 (hh6 : hv t5 = upd (hv t3) n_l (some (.row [.nslice] true))) => r_heap (o_storeC (o := 0) eZ (eV (z2 ds)) (cells_of hlc) hlc (lS hh6) (by decide)) rfl (fun t7 (hh8 : hv t7 = upd (hv t5) n_l (some (.row [lv] true))) => m1 (z2 ds) (r_nil (k_seq (k_draw (eO 0 rfl (o_loadA (n := 3) (eV (z1 (z8 ds))) (lN hh8 (lN hh6 (Keep.look hk_l (by omega) id (lS hh2)))) (leb rfl) rfl) (eO 1 rfl (o_faddr (off := 0) (eV (z2 (z8 ds)))) (eO 2 rfl (o_load eZ (lN hh8 (lN hh6 (Keep.look hk_l (by omega) id (lS hh2)))) rfl) (eO 3 rfl (o_len_N hL.hN eZ) ?_))))))))))))
 refine d_heap (ix := 4) (pr := [3, 3]) (d := (some 19)) (g := none) (F' := [(⟨0, [], .o 15 (.loadA 3 (.t 1))⟩, (.agg [vn, vt, (.int .i64 p)]))]) (o := (.mkslice 1 [(.str [])] (.t 18) (.t 18))) (o_mkslice (l := ns.length) (c := ns.length) eZ eZ (Nat.le_refl _) (by omega) rfl) rfl (by kernel_rfl) (by kernel_rfl) (by kernel_rfl) (by kernel_rfl) (fun t9 (hh10 : hv t9 = upd (hv t7) (n_l + 1) (some (.row (repl [AV.str []] ns.length) true))) => ⟨?_, ?_⟩)
 · exact (all_cons_ (still_op rfl rfl (o_loadA (n := 3) (eV (z2 (z4 (z8 ds)))) (lN hh10 (lN hh8 (lN hh6 (Keep.look hk_l (by omega) id (lS hh2))))) (leb rfl) rfl) (aeq_agg (agg3_flat hL.hN hL.hT))) all_nil_)
 refine eO 5 rfl (o_build (fill_cons (eV (z4 ds)) rfl rfl (fill_cons eZ rfl rfl fill_nil))) ?_
 refine d_heap (ix := 6) (pr := [5]) (d := (some 21)) (g := none) (F' := []) (o := (.box (.t 20))) (o_box eZ) rfl (by kernel_rfl) (by kernel_rfl) (by kernel_rfl) (by kernel_rfl) (fun t11 (hh12 : hv t11 = upd (hv t9) ((n_l + 1) + 1) (some (.row [vn, vt, (.int .i64 p), .nslice, .nslice, .nslice, .nslice, (.slice (n_l + 1) 0 ns.length ns.length 1 true), .nslice, .nslice] true))) => ⟨?_, ?_⟩)
 · exact all_nil_
 refine eO 7 rfl (o_mov eZ) (e_done (k_seq (k_seq (k_reg (rO (o_faddr (off := 0) (eV (z1 (z8 (z8 ds))))) (rO (o_load eZ (lN hh12 (lN hh10 (lN hh8 (lN hh6 (Keep.look hk_l (by omega) id (lS hh2)))))) rfl) (rO (o_len_N hL.hN eZ) (rO (o_mov ev_c) (r_nil (k_block (k_loop (fun mm Tv tv nv => ∃ (i V DL : Nat) (vv dl : AV), i ≤ ns.length ∧ (Tv.get 1 = some (.ptr nx 0) ∧ Tv.get 3 = some (.ptr n_l 0) ∧ Tv.get 5 = some (.ptr ((n_l + 1) + 1) 0) ∧ Tv.get 23 = some vn ∧ Tv.get 24 = some (.int .i64 ((ns.length : Nat) : Int)) ∧ Tv.get 25 = some (.int .i64 ((i : Nat) : Int))) ∧ hv tv ((n_l + 1) + 1) = some (.row [vn, vt, (.int .i64 p), .nslice, .nslice, dl, vv, (.slice (n_l + 1) 0 ns.length ns.length 1 true), .nslice, .nslice] true) ∧ OL tv nv V vv i 1 (strs (vS i 0)) ∧ OL tv nv DL dl (i - 1) 1 (ints (dS (i - 1))) ∧ (V = nx ∨ ((n_l + 1) + 1) + 2 ≤ V) ∧ (0 < i → ((n_l + 1) + 1) + 2 ≤ V) ∧ (DL = n_l ∨ ((n_l + 1) + 1) < DL) ∧ (1 < i → ((n_l + 1) + 1) < DL) ∧ (i ≤ 1 → dl = .nslice) ∧ V ≠ DL ∧ ((n_l + 1) + 1) + 1 ≤ nv ∧ (0 < i → ((n_l + 1) + 1) + 2 < nv) ∧ Keep t tv nx (fun _ => False) ∧ mm + i = ns.length) (fun mm Tv tv nv hI => ?_) (ns.length) ⟨0, nx, n_l, .nslice, .nslice, by omega, ⟨(z1 (z4 (z8 (z8 ds)))), (z2 (z4 (z8 ds))), (z4 ds), (z2 ds), (z1 ds), ds⟩, (lS hh12), ⟨by omega, .inl ⟨rfl, rfl, rfl⟩, rfl⟩, ⟨by omega, .inl ⟨rfl, rfl, rfl⟩, rfl⟩, .inl rfl, by omega, .inl rfl, by omega, (fun _ => rfl), by omega, by omega, by omega, kU (kU (kU (kU (Keep.trans (kU kR hh2) hk_l (by omega) (fun d _ h => h)) hh6) hh8) hh10) hh12, rfl⟩)))))))))))
 obtain ⟨i, V, DL, vv, dl, hi, ⟨q1, q3, q5, q23, q24, q25⟩, hRv, hOV, hOD, hv1, hv2, hd1, hd2, hdn, hvd, hnv, hnv2, hkv, hmm⟩ := hI
 refine k_seq (k_reg (rO (o_lss (eV q25) (eV q24)) (r_nil (k_seq ?_))))
 refine k_if eZ (fun hc13 => ?_) (fun hc13 => ?_)
 · refine k_skip (k_seq (k_block (k_seq ?_)))
   have hol := hOV.lt
   have hodl := hOD.lt
   rcases Nat.eq_zero_or_pos i with rfl | hi0
   · have hx := hL.ln.zero
     obtain ⟨dN, oN, cN, exN, wrN, rN, iv, hNe, hNd, hNr, hNl, hNg, hI, hic⟩ := RowN.at hL.hN hx
     have hNr1 := hkv.look (by omega) id hNr
     refine k_reg (m1 (z1 q25) (rO (o_iaddrE (i := 0) (eV (z2 q23)) hNe (eV (z2 q25)) (by omega)) (rO (o_loadA (n := 8) eZ hNr1 (by omega) hNg) (r_heap (o_alloc) rfl (fun t14 (hh15 : hv t14 = upd (hv tv) nv (some (.row [(.int .i64 0), (.int .i64 0), (.int .i64 0), .nslice, (.str []), (.int .i64 0), (.int .i64 0), (.int .i64 0)] true))) => m1 (z1 (z2 ds)) (r_heap (o_store (n := 8) (eV (z1 ds)) (eV (z2 ds)) (lS hh15) rfl (ncells_cell _ hic) (leb rfl)) rfl (fun t16 (hh17 : hv t16 = upd (hv t14) nv (some (.row [(.int .i64 2), (.int .i64 0), (.int .i64 1), iv, (.str []), (.int .i64 0), (.int .i64 0), (.int .i64 0)] true))) => r_nil (k_seq (k_draw (eO 0 rfl (o_mov (eV (z1 (z2 (z4 q5))))) (eO 1 rfl (o_mov (eV (z8 q5))) (eO 2 rfl (o_nilck eZ) (eO 3 rfl (o_faddr (off := 6) eZ) (eO 4 rfl (o_load eZ (lN hh17 (lN hh15 hRv)) rfl) (eO 5 rfl (o_faddr (off := 2) (eV (z1 (z2 (z4 ds))))) (eO 6 rfl (o_load eZ (lS hh17) rfl) ?_))))))))))))))))
     refine d_call (ix := 7) (pr := [6]) (d := (some 37)) (g := none) (F' := [(⟨4, [3], .o 34 (.load (.t 33))⟩, vv), (⟨3, [2], .o 33 (.faddr (.t 32) 6)⟩, (.ptr ((n_l + 1) + 1) 6)), (⟨2, [1], .o 32 (.nilck (.t 31))⟩, (.ptr ((n_l + 1) + 1) 0)), (⟨1, [], .mv 31 5⟩, (.ptr ((n_l + 1) + 1) 0)), (⟨0, [], .mv 30 5⟩, (.ptr ((n_l + 1) + 1) 0))]) (w_callF (evs_cons ev_c (evs_cons eZ evs_nil))) rfl (by kernel_rfl) (by kernel_rfl) (by kernel_rfl) (by kernel_rfl) (WF.mono ((k_prim (Q := fun v t' nx' => v = .str [120] ∧ (nv + 1) ≤ nx' ∧ Keep t16 t' (nv + 1) (fun _ => False)) rep_tab (by unfold pRep; exact if_pos rfl) ⟨rfl, Nat.le_refl _, kR⟩)) ?_)
     rintro _ t18 n19 ⟨rfl, hn_r, hk_r⟩
     refine ⟨?_, ?_⟩
     · exact (all_cons_ (still_op rfl rfl (o_load (eV (z4 ds)) (Keep.look hk_r (by omega) id (lN hh17 (lN hh15 hRv))) rfl) (aeq_flat hOV.flat)) (all_cons_ (still_op rfl rfl (o_faddr (off := 6) (eV (z1 (z4 ds)))) (aeq_flat rfl)) (all_cons_ (still_op rfl rfl (o_nilck (eV (z2 (z4 ds)))) (aeq_flat rfl)) (all_cons_ (still_op rfl rfl (o_mov (eV (z1 (z2 (z4 (z8 q5)))))) (aeq_flat rfl)) (all_cons_ (still_op rfl rfl (o_mov (eV (z1 (z2 (z4 (z8 q5)))))) (aeq_flat rfl)) all_nil_)))))
     refine d_heap (ix := 8) (pr := [7]) (d := (some 38)) (g := none) (F' := [(⟨4, [3], .o 34 (.load (.t 33))⟩, vv), (⟨3, [2], .o 33 (.faddr (.t 32) 6)⟩, (.ptr ((n_l + 1) + 1) 6)), (⟨2, [1], .o 32 (.nilck (.t 31))⟩, (.ptr ((n_l + 1) + 1) 0)), (⟨1, [], .mv 31 5⟩, (.ptr ((n_l + 1) + 1) 0)), (⟨0, [], .mv 30 5⟩, (.ptr ((n_l + 1) + 1) 0))]) (o := (.bslice 1 1 [(.str [])] [(0, 1, (.t 37))])) (o_bslice (fill_cons eZ rfl rfl fill_nil)) rfl (by kernel_rfl) (by kernel_rfl) (by kernel_rfl) (by kernel_rfl) (fun t20 (hh21 : hv t20 = upd (hv t18) n19 (some (.row [(.str [120])] true))) => ⟨?_, ?_⟩)
     · exact (all_cons_ (still_op rfl rfl (o_load (eV (z1 (z4 ds))) (lN hh21 (Keep.look hk_r (by omega) id (lN hh17 (lN hh15 hRv)))) rfl) (aeq_flat hOV.flat)) (all_cons_ (still_op rfl rfl (o_faddr (off := 6) (eV (z2 (z4 ds)))) (aeq_flat rfl)) (all_cons_ (still_op rfl rfl (o_nilck (eV (z1 (z2 (z4 ds))))) (aeq_flat rfl)) (all_cons_ (still_op rfl rfl (o_mov (eV (z8 (z8 q5)))) (aeq_flat rfl)) (all_cons_ (still_op rfl rfl (o_mov (eV (z8 (z8 q5)))) (aeq_flat rfl)) all_nil_)))))
     refine d_heap (ix := 9) (pr := [4, 8, 7]) (d := (some 39)) (g := none) (F' := [(⟨0, [], .mv 30 5⟩, (.ptr ((n_l + 1) + 1) 0))]) (o := (.app 1 (.t 34) (.t 38))) (o_appE (eV (z4 ds)) eZ ((hOV.keep (nx' := (n19 + 1)) (show Keep tv t20 nv (fun b => False) from Keep.upd (Keep.trans (Keep.upd (Keep.upd (Keep.refl tv nv _) hh15 (by first | exact .inl (by omega) | (right; first | exact rfl | (show _ ∨ _; omega) | omega))) hh17 (by first | exact .inl (by omega) | (right; first | exact rfl | (show _ ∨ _; omega) | omega))) hk_r (by omega) (fun d _ h => h.elim)) hh21 (by first | exact .inl (by omega) | (right; first | exact rfl | (show _ ∨ _; omega) | omega))) (fun h => h) (by omega)).app (lS hh21) rfl rfl (by omega))) rfl (by kernel_rfl) (by kernel_rfl) (by kernel_rfl) (by kernel_rfl) (fun ta ⟨hOV2, hka⟩ => ⟨?_, ?_⟩)
     · exact (all_cons_ (still_op rfl rfl (o_mov (eV (z1 (z8 (z8 q5))))) (aeq_flat rfl)) all_nil_)
     refine eO 10 rfl (o_nilck (eV (z1 (z8 ds)))) (eO 11 rfl (o_faddr (off := 6) eZ) ?_)
     refine d_heap (ix := 12) (pr := [11, 9, 9, 0, 1, 2, 3, 4, 5, 6, 7, 8, 9]) (d := none) (g := none) (F' := []) (o := (.store 1 (.t 41) (.t 39))) (o_store (n := 1) eZ (eV (z2 ds)) (Keep.look hka (by omega) (fun h_ => absurd (show ((n_l + 1) + 1) = V from h_) (by omega)) (lN hh21 (Keep.look hk_r (by omega) id (lN hh17 (lN hh15 hRv))))) rfl rfl (leb rfl)) rfl (by kernel_rfl) (by kernel_rfl) (by kernel_rfl) (by kernel_rfl) (fun t22 (hh23 : hv t22 = upd (hv ta) ((n_l + 1) + 1) (some (.row [vn, vt, (.int .i64 p), .nslice, .nslice, dl, (.slice (n19 + 1) 0 (0 + 1) (0 + 1) 1 false), (.slice (n_l + 1) 0 ns.length ns.length 1 true), .nslice, .nslice] true))) => ⟨?_, ?_⟩)
     · exact all_nil_
     refine e_done (k_seq (k_reg (rO (o_faddr (off := 0) (eV (z1 (z2 (z4 (z8 ds)))))) (rO (o_load eZ (lN hh23 (Keep.look hka (by omega) (fun h_ => absurd (show nv = V from h_) (by omega)) (lN hh21 (Keep.look hk_r (by omega) id (lS hh17))))) rfl) (r_nil (k_block (k_seq (k_reg (rO (dec_f (o_eql eZ ev_c) (by simp)) (m1 ds (r_nil (k_cond_f eZ (k_seq (k_reg (rO (dec_f (o_eql (eV (z2 ds)) ev_c) (by simp)) (m1 ds (r_nil (k_cond_f eZ (k_seq (k_reg (rO (dec_t (o_eql (eV (z4 ds)) ev_c) (by simp)) (m1 ds (r_nil (k_cond_t eZ (k_skip (k_reg (rO (o_addN (a := 0) (b := 1) (eV (z4 (z8 (z8 (z8 q25))))) ev_c (by omega)) (m1 ds (r_nil ?_)))))))))))))))))))))))))))))
     exact ⟨ns.length - (0 + 1), by omega, 0 + 1, (n19 + 1), DL, _, dl, by omega, ⟨(z2 (z4 (z8 (z8 (z8 q1))))), (z2 (z4 (z8 (z8 (z8 q3))))), (z2 (z4 (z8 (z8 (z8 q5))))), (z2 (z4 (z8 (z8 (z8 q23))))), (z2 (z4 (z8 (z8 (z8 q24))))), ds⟩, (lS hh23), (by rw [← vS_zero_succ]; exact hOV2.keep (W := fun b => b = ((n_l + 1) + 1)) (show Keep ta t22 ((n19 + 1) + 1) (fun b => b = ((n_l + 1) + 1)) from Keep.upd (Keep.refl ta ((n19 + 1) + 1) _) hh23 (by first | exact .inl (by omega) | (right; first | exact rfl | (show _ ∨ _; omega) | omega))) (by omega) (by omega)), hOD.keep (show Keep tv t22 nv (fun b => b = V ∨ b = ((n_l + 1) + 1)) from Keep.upd (Keep.trans (Keep.upd (Keep.trans (Keep.upd (Keep.upd (Keep.refl tv nv _) hh15 (by first | exact .inl (by omega) | (right; first | exact rfl | (show _ ∨ _; omega) | omega))) hh17 (by first | exact .inl (by omega) | (right; first | exact rfl | (show _ ∨ _; omega) | omega))) hk_r (by omega) (fun d _ h => h.elim)) hh21 (by first | exact .inl (by omega) | (right; first | exact rfl | (show _ ∨ _; omega) | omega))) hka (by omega) ((fun _ _ h => .inl h))) hh23 (by first | exact .inl (by omega) | (right; first | exact rfl | (show _ ∨ _; omega) | omega))) (by omega) (by omega), by omega, by omega, hd1, by omega, (fun _ => hdn (by omega)), by omega, by omega, by omega, kU (Keep.trans (kU (Keep.trans (kU (kU (hkv) hh15) hh17) hk_r (by omega) (fun d _ h => h)) hh21) hka (by omega) ((fun b hb h_ => absurd (show b = V from h_) (by omega)))) hh23, by omega⟩
   obtain ⟨d, hd⟩ := some_at (l := dz) (i := i - 1) (by omega)
   have hx := hL.ln.next (i - 1) d hd
   rw [show i - 1 + 1 = i by omega] at hx
   obtain ⟨dN, oN, cN, exN, wrN, rN, iv, hNe, hNd, hNr, hNl, hNg, hI, hic⟩ := RowN.at hL.hN hx
   have hNr1 := hkv.look (by omega) id hNr
   refine k_reg (m1 (z1 q25) (rO (o_iaddrE (i := i) (eV (z2 q23)) hNe (eV (z2 q25)) (by omega)) (rO (o_loadA (n := 8) eZ hNr1 (by omega) hNg) (r_heap (o_alloc) rfl (fun t24 (hh25 : hv t24 = upd (hv tv) nv (some (.row [(.int .i64 0), (.int .i64 0), (.int .i64 0), .nslice, (.str []), (.int .i64 0), (.int .i64 0), (.int .i64 0)] true))) => m1 (z1 (z2 ds)) (r_heap (o_store (n := 8) (eV (z1 ds)) (eV (z2 ds)) (lS hh25) rfl (ncells_cell _ hic) (leb rfl)) rfl (fun t26 (hh27 : hv t26 = upd (hv t24) nv (some (.row [(.int .i64 8), (.int .i64 0), (.int .i64 1), iv, (.str []), (.int .i64 0), (.int .i64 0), (.int .i64 d)] true))) => r_nil (k_seq (k_draw (eO 0 rfl (o_mov (eV (z1 (z2 (z4 q5))))) (eO 1 rfl (o_mov (eV (z8 q5))) (eO 2 rfl (o_nilck eZ) (eO 3 rfl (o_faddr (off := 6) eZ) (eO 4 rfl (o_load eZ (lN hh27 (lN hh25 hRv)) rfl) (eO 5 rfl (o_faddr (off := 2) (eV (z1 (z2 (z4 ds))))) (eO 6 rfl (o_load eZ (lS hh27) rfl) ?_))))))))))))))))
   refine d_call (ix := 7) (pr := [6]) (d := (some 37)) (g := none) (F' := [(⟨4, [3], .o 34 (.load (.t 33))⟩, vv), (⟨3, [2], .o 33 (.faddr (.t 32) 6)⟩, (.ptr ((n_l + 1) + 1) 6)), (⟨2, [1], .o 32 (.nilck (.t 31))⟩, (.ptr ((n_l + 1) + 1) 0)), (⟨1, [], .mv 31 5⟩, (.ptr ((n_l + 1) + 1) 0)), (⟨0, [], .mv 30 5⟩, (.ptr ((n_l + 1) + 1) 0))]) (w_callF (evs_cons ev_c (evs_cons eZ evs_nil))) rfl (by kernel_rfl) (by kernel_rfl) (by kernel_rfl) (by kernel_rfl) (WF.mono ((k_prim (Q := fun v t' nx' => v = .str [120] ∧ (nv + 1) ≤ nx' ∧ Keep t26 t' (nv + 1) (fun _ => False)) rep_tab (by unfold pRep; exact if_pos rfl) ⟨rfl, Nat.le_refl _, kR⟩)) ?_)
   rintro _ t28 n29 ⟨rfl, hn_r, hk_r⟩
   refine ⟨?_, ?_⟩
   · exact (all_cons_ (still_op rfl rfl (o_load (eV (z4 ds)) (Keep.look hk_r (by omega) id (lN hh27 (lN hh25 hRv))) rfl) (aeq_flat hOV.flat)) (all_cons_ (still_op rfl rfl (o_faddr (off := 6) (eV (z1 (z4 ds)))) (aeq_flat rfl)) (all_cons_ (still_op rfl rfl (o_nilck (eV (z2 (z4 ds)))) (aeq_flat rfl)) (all_cons_ (still_op rfl rfl (o_mov (eV (z1 (z2 (z4 (z8 q5)))))) (aeq_flat rfl)) (all_cons_ (still_op rfl rfl (o_mov (eV (z1 (z2 (z4 (z8 q5)))))) (aeq_flat rfl)) all_nil_)))))
   refine d_heap (ix := 8) (pr := [7]) (d := (some 38)) (g := none) (F' := [(⟨4, [3], .o 34 (.load (.t 33))⟩, vv), (⟨3, [2], .o 33 (.faddr (.t 32) 6)⟩, (.ptr ((n_l + 1) + 1) 6)), (⟨2, [1], .o 32 (.nilck (.t 31))⟩, (.ptr ((n_l + 1) + 1) 0)), (⟨1, [], .mv 31 5⟩, (.ptr ((n_l + 1) + 1) 0)), (⟨0, [], .mv 30 5⟩, (.ptr ((n_l + 1) + 1) 0))]) (o := (.bslice 1 1 [(.str [])] [(0, 1, (.t 37))])) (o_bslice (fill_cons eZ rfl rfl fill_nil)) rfl (by kernel_rfl) (by kernel_rfl) (by kernel_rfl) (by kernel_rfl) (fun t30 (hh31 : hv t30 = upd (hv t28) n29 (some (.row [(.str [120])] true))) => ⟨?_, ?_⟩)
   · exact (all_cons_ (still_op rfl rfl (o_load (eV (z1 (z4 ds))) (lN hh31 (Keep.look hk_r (by omega) id (lN hh27 (lN hh25 hRv)))) rfl) (aeq_flat hOV.flat)) (all_cons_ (still_op rfl rfl (o_faddr (off := 6) (eV (z2 (z4 ds)))) (aeq_flat rfl)) (all_cons_ (still_op rfl rfl (o_nilck (eV (z1 (z2 (z4 ds))))) (aeq_flat rfl)) (all_cons_ (still_op rfl rfl (o_mov (eV (z8 (z8 q5)))) (aeq_flat rfl)) (all_cons_ (still_op rfl rfl (o_mov (eV (z8 (z8 q5)))) (aeq_flat rfl)) all_nil_)))))
   refine d_heap (ix := 9) (pr := [4, 8, 7]) (d := (some 39)) (g := none) (F' := [(⟨0, [], .mv 30 5⟩, (.ptr ((n_l + 1) + 1) 0))]) (o := (.app 1 (.t 34) (.t 38))) (o_appE (eV (z4 ds)) eZ ((hOV.keep (nx' := (n29 + 1)) (show Keep tv t30 nv (fun b => False) from Keep.upd (Keep.trans (Keep.upd (Keep.upd (Keep.refl tv nv _) hh25 (by first | exact .inl (by omega) | (right; first | exact rfl | (show _ ∨ _; omega) | omega))) hh27 (by first | exact .inl (by omega) | (right; first | exact rfl | (show _ ∨ _; omega) | omega))) hk_r (by omega) (fun d _ h => h.elim)) hh31 (by first | exact .inl (by omega) | (right; first | exact rfl | (show _ ∨ _; omega) | omega))) (fun h => h) (by omega)).app (lS hh31) rfl rfl (by omega))) rfl (by kernel_rfl) (by kernel_rfl) (by kernel_rfl) (by kernel_rfl) (fun ta ⟨hOV2, hka⟩ => ⟨?_, ?_⟩)
   · exact (all_cons_ (still_op rfl rfl (o_mov (eV (z1 (z8 (z8 q5))))) (aeq_flat rfl)) all_nil_)
   refine eO 10 rfl (o_nilck (eV (z1 (z8 ds)))) (eO 11 rfl (o_faddr (off := 6) eZ) ?_)
   refine d_heap (ix := 12) (pr := [11, 9, 9, 0, 1, 2, 3, 4, 5, 6, 7, 8, 9]) (d := none) (g := none) (F' := []) (o := (.store 1 (.t 41) (.t 39))) (o_store (n := 1) eZ (eV (z2 ds)) (Keep.look hka (by omega) (fun h_ => absurd (show ((n_l + 1) + 1) = V from h_) (by omega)) (lN hh31 (Keep.look hk_r (by omega) id (lN hh27 (lN hh25 hRv))))) rfl rfl (leb rfl)) rfl (by kernel_rfl) (by kernel_rfl) (by kernel_rfl) (by kernel_rfl) (fun t32 (hh33 : hv t32 = upd (hv ta) ((n_l + 1) + 1) (some (.row [vn, vt, (.int .i64 p), .nslice, .nslice, dl, (.slice (n29 + 1) 0 (i + 1) (i + 1) 1 false), (.slice (n_l + 1) 0 ns.length ns.length 1 true), .nslice, .nslice] true))) => ⟨?_, ?_⟩)
   · exact all_nil_
   refine e_done (k_seq (k_reg (rO (o_faddr (off := 0) (eV (z1 (z2 (z4 (z8 ds)))))) (rO (o_load eZ (lN hh33 (Keep.look hka (by omega) (fun h_ => absurd (show nv = V from h_) (by omega)) (lN hh31 (Keep.look hk_r (by omega) id (lS hh27))))) rfl) (r_nil (k_block (k_seq (k_reg (rO (dec_f (o_eql eZ ev_c) (by simp)) (m1 ds (r_nil (k_cond_f eZ (k_seq (k_reg (rO (dec_t (o_eql (eV (z2 ds)) ev_c) (by simp)) (m1 ds (r_nil (k_cond_t eZ (k_reg (m1 (z2 (z8 (z8 (z8 q5)))) (m1 (z1 (z2 (z8 (z8 (z8 q5))))) (rO (o_nilck eZ) (rO (o_faddr (off := 5) eZ) (rO (o_load eZ (lS hh33) rfl) (m1 (z1 (z8 (z8 (z8 ds)))) (r_heap (o_bslice (fill_cons eZ rfl rfl fill_nil)) rfl (fun t34 (hh35 : hv t34 = upd (hv t32) ((n29 + 1) + 1) (some (.row [(.int .i64 ((i : Nat) : Int))] true))) => ?_)))))))))))))))))))))))))))
   refine r_heap (o_appE (eV (z2 ds)) eZ ((hOD.keep (nx' := (((n29 + 1) + 1) + 1)) (show Keep tv t34 nv (fun b => b = V ∨ b = ((n_l + 1) + 1)) from Keep.upd (Keep.upd (Keep.trans (Keep.upd (Keep.trans (Keep.upd (Keep.upd (Keep.refl tv nv _) hh25 (by first | exact .inl (by omega) | (right; first | exact rfl | (show _ ∨ _; omega) | omega))) hh27 (by first | exact .inl (by omega) | (right; first | exact rfl | (show _ ∨ _; omega) | omega))) hk_r (by omega) (fun d _ h => h.elim)) hh31 (by first | exact .inl (by omega) | (right; first | exact rfl | (show _ ∨ _; omega) | omega))) hka (by omega) ((fun _ _ h => .inl h))) hh33 (by first | exact .inl (by omega) | (right; first | exact rfl | (show _ ∨ _; omega) | omega))) hh35 (by first | exact .inl (by omega) | (right; first | exact rfl | (show _ ∨ _; omega) | omega))) (by omega) (by omega)).app (cs := [.int .i64 ((i - 1 + 1 : Nat) : Int)]) (by rw [show i - 1 + 1 = i by omega]; exact (lS hh35)) rfl rfl (by omega))) rfl (fun tb ⟨hOD2, hkd⟩ => ?_)
   refine rO (o_nilck (eV (z1 (z2 (z4 ds))))) (rO (o_faddr (off := 5) eZ) (r_heap (o_store (n := 1) eZ (eV (z2 ds)) (Keep.look hkd (by omega) (fun h_ => absurd (show ((n_l + 1) + 1) = DL from h_) (by omega)) (lN hh35 (lS hh33))) rfl rfl (leb rfl)) rfl (fun t36 (hh37 : hv t36 = upd (hv tb) ((n_l + 1) + 1) (some (.row [vn, vt, (.int .i64 p), .nslice, .nslice, (.slice (((n29 + 1) + 1) + 1) 0 (i - 1 + 1) (i - 1 + 1) 1 false), (.slice (n29 + 1) 0 (i + 1) (i + 1) 1 false), (.slice (n_l + 1) 0 ns.length ns.length 1 true), .nslice, .nslice] true))) => r_nil (k_reg (rO (o_addN (a := i) (b := 1) (eV (z1 (z4 (z8 (z8 (z8 (z8 q25))))))) ev_c (by omega)) (m1 ds (r_nil ?_)))))))
   exact ⟨ns.length - (i + 1), by omega, i + 1, (n29 + 1), (((n29 + 1) + 1) + 1), _, _, by omega, ⟨(z1 (z2 (z4 (z8 (z8 (z8 (z8 q1))))))), (z1 (z2 (z4 (z8 (z8 (z8 (z8 q3))))))), (z1 (z2 (z4 (z8 (z8 (z8 (z8 q5))))))), (z1 (z2 (z4 (z8 (z8 (z8 (z8 q23))))))), (z1 (z2 (z4 (z8 (z8 (z8 (z8 q24))))))), ds⟩, (lS hh37), (by rw [← vS_zero_succ]; exact hOV2.keep (W := fun b => b = ((n_l + 1) + 1) ∨ b = DL) (show Keep ta t36 ((n29 + 1) + 1) (fun b => b = ((n_l + 1) + 1) ∨ b = DL) from Keep.upd (Keep.trans (Keep.upd (Keep.upd (Keep.refl ta ((n29 + 1) + 1) _) hh33 (by first | exact .inl (by omega) | (right; first | exact rfl | (show _ ∨ _; omega) | omega))) hh35 (by first | exact .inl (by omega) | (right; first | exact rfl | (show _ ∨ _; omega) | omega))) hkd (by omega) ((fun _ _ h => .inr h))) hh37 (by first | exact .inl (by omega) | (right; first | exact rfl | (show _ ∨ _; omega) | omega))) (by omega) (by omega)), (by rw [show i + 1 - 1 = (i - 1) + 1 by omega, ← dS_succ]; exact hOD2.keep (W := fun b => b = ((n_l + 1) + 1)) (show Keep tb t36 ((((n29 + 1) + 1) + 1) + 1) (fun b => b = ((n_l + 1) + 1)) from Keep.upd (Keep.refl tb ((((n29 + 1) + 1) + 1) + 1) _) hh37 (by first | exact .inl (by omega) | (right; first | exact rfl | (show _ ∨ _; omega) | omega))) (by omega) (by omega)), by omega, by omega, by omega, by omega, (fun h_ => absurd h_ (by omega)), by omega, by omega, by omega, kU (Keep.trans (kU (kU (Keep.trans (kU (Keep.trans (kU (kU (hkv) hh25) hh27) hk_r (by omega) (fun d _ h => h)) hh31) hka (by omega) ((fun b hb h_ => absurd (show b = V from h_) (by omega)))) hh33) hh35) hkd (by omega) ((fun b hb h_ => absurd (show b = DL from h_) (by omega)))) hh37, by omega⟩
 refine k_exit (exK_same (k_seq ?_))
 obtain rfl : i = ns.length := by omega
 rcases hOV.v with ⟨-, -, h0⟩ | ⟨hve, hVr⟩
 · omega
 subst hve
 have hol := hOV.lt
 have hodl := hOD.lt
 refine k_reg (m1 (z1 q5) (m1 (z2 q5) (rO (o_nilck eZ) (rO (o_faddr (off := 6) eZ) (rO (o_load eZ hRv rfl) (r_call (w_callF (evs_cons eZ evs_nil)) rfl (WF.mono (clone_ok hVr (vS_len _ _) (by omega) (by omega) (by omega)) ?_)))))))
 rintro _ t38 n39 ⟨c0, rfl, hc1, hc2, hc0, hn_c, hk_c⟩
 refine rO (o_nilck (eV (z1 (z4 ds)))) (rO (o_faddr (off := 8) eZ) (r_heap (o_store (n := 1) eZ (eV (z2 ds)) (Keep.look hk_c (by omega) id hRv) rfl rfl (leb rfl)) rfl (fun t40 (hh41 : hv t40 = upd (hv t38) ((n_l + 1) + 1) (some (.row [vn, vt, (.int .i64 p), .nslice, .nslice, dl, (.slice V 0 ns.length ns.length 1 false), (.slice (n_l + 1) 0 ns.length ns.length 1 true), (.slice c0 0 ns.length ns.length 1 false), .nslice] true))) => r_nil (k_seq (k_reg (m1 (z2 (z8 q5)) (rO (o_nilck eZ) (rO (o_faddr (off := 3) eZ) (rO (o_load eZ (lS hh41) rfl) (rO (o_mkfn evs_nil (evs_cons (eV (z2 (z4 (z8 q3)))) evs_nil)) (r_call (w_callF (evs_cons (eV (z1 ds)) (evs_cons eZ evs_nil))) rfl (WF.mono (ssfn_ok) ?_))))))))))))
 rintro _ t42 n43 ⟨rfl, hn_s, hk_s⟩
 refine r_nil (k_seq (k_reg (m1 (z8 (z8 q5)) ?_)))
 obtain ⟨DL2, hDa, hDb, hDc, hDd⟩ : ∃ DL2, ((n_l + 1) + 1) < DL2 ∧ DL2 < c0 ∧ V ≠ DL2 ∧ (dl = .nslice ∧ dz = [] ∨ dl = .slice DL2 0 dz.length dz.length 1 false ∧ hv t42 DL2 = some (.row (ints (dS dz.length)) true)) := by
   rcases hOD.v with ⟨h1_, -, h2_⟩ | ⟨h1_, h2_⟩
   · exact ⟨((n_l + 1) + 1) + 1, by omega, by omega, by omega, .inl ⟨h1_, List.eq_nil_of_length_eq_zero (by omega)⟩⟩
   have hi1 : 1 < ns.length := Classical.byContradiction (fun h_ => by have h3_ := hdn (by omega); rw [h3_] at h1_; cases h1_)
   rw [show ns.length - 1 = dz.length by omega] at h1_ h2_
   exact ⟨DL, by omega, by omega, hvd, .inr ⟨h1_, (((hk_s _ (by omega) id).trans ((congrFun hh41 DL).trans (upd_ne _ _ _ _ (by omega)))).trans (hk_c _ (by omega) id)).trans h2_⟩⟩
 have hS6 : ST t42 n43 nx ((n_l + 1) + 1) V c0 DL2 (n_l + 1) vn vt p dl (.slice (n_l + 1) 0 ns.length ns.length 1 true) .nslice (dz.length + 1) 0 0 dz := by
   rw [← hll]
   exact ⟨(Keep.look hk_s (by omega) id (lS hh41)), (Keep.look hk_s (by omega) id (lN hh41 (Keep.look hk_c (by omega) id hVr))), (by rw [laS_zero]; exact (Keep.look hk_s (by omega) id (lN hh41 hc0))), hDd, by omega, by omega⟩
 refine r_call (w_callF (evs_cons eZ evs_nil)) rfl (WF.mono (follow_ok hS6) ?_)
 rintro _ t44 n45 ⟨rfl, hn_f, hk_f⟩
 refine r_nil (k_seq (k_seq (k_reg (m1 (z2 (z8 (z8 q5))) (rO (o_nilck eZ) (rO (o_faddr (off := 4) eZ) (rO (o_load eZ (Keep.look hk_f (by omega) id (Keep.look hk_s (by omega) id (lS hh41))) rfl) (rO (o_len_nslice eZ) (rO (o_mov ev_c) (r_nil (k_block (k_loop (fun mm Tz tz nz => Tz.get 1 = some (.ptr nx 0) ∧ Tz.get 5 = some (.ptr ((n_l + 1) + 1) 0) ∧ Tz.get 101 = some (.int .i64 ((0 : Nat) : Int)) ∧ Tz.get 102 = some (.int .i64 0) ∧ t44 = tz ∧ n45 = nz) (fun mm Tzz46 tz nz hI => ?_) 0 ⟨(z8 (z8 (z8 q1))), (z8 (z8 (z8 q5))), (z1 ds), ds, rfl, rfl⟩))))))))))))
 obtain ⟨qzz46_1, qzz46_5, qzz46_101, qzz46_102, rfl, rfl⟩ := hI
 refine k_seq (k_reg (rO (dec_f (o_lss (eV qzz46_102) (eV qzz46_101)) (by simp)) (r_nil (k_seq (k_cond_f eZ (k_exit (exK_same (k_seq (k_reg (m1 (z1 qzz46_5) (m1 ds (r_nil (k_ret ?_)))))))))))))
 exact ⟨_, ans_tmp ds, ((n_l + 1) + 1), V, c0, DL2, (n_l + 1), dl, _, rfl, by omega, by omega, hS6.keep (show Keep t42 t44 n43 (fun b => False) from Keep.trans (Keep.refl t42 n43 _) hk_f (by omega) (fun d _ h => h.elim)) (fun _ h => h.elim) (by omega), by omega, Keep.trans (Keep.trans (kU (Keep.trans (hkv) hk_c (by omega) (fun d _ h => h)) hh41) hk_s (by omega) (fun d _ h => h)) hk_f (by omega) (fun d _ h => h)⟩
end Go.Proofs.YtpjohgnhmjceiaaGreatDoor.WX

set_option linter.all false
set_option linter.unusedVariables false
set_option linter.unusedSectionVars false
set_option maxRecDepth 100000
open Go Go.Proofs.YtpjohgnhmjceiaaGreatDoor.AX Go.Proofs
namespace Go.Proofs.YtpjohgnhmjceiaaGreatDoor.WX
variable [Env]
def run__r0 : List Ins := [.o 3 (.box (.t 0)),
 .o 6 (.alloc [.nslice, .nslice, .nslice, .nslice]),
 .o 7 (.mov (kI 0))]
def run__r1 : List Ins := [.o 19 (.loadA 3 (.t 3)),
 .mv 20 1,
 .mv 21 2,
 .f 22 14 [(.t 19), (.t 20), (.t 21)],
 .mv 8 22]
def run__r2 : List Ins := [.mv 23 8,
 .o 24 (.bin .neq (.t 23) (kI 0))]
def run__r3 : List Ins := [.o 25 (.build [.nslice, .nslice, .nslice, .nslice] []),
 .mv 26 8,
 .x (.store 4 (.t 6) (.t 25)),
 .mv 7 26]
def run__r4 : List Ins := [.o 27 (.loadA 3 (.t 3)),
 .f 28 54 [(.t 27)],
 .mv 9 28]
def run__r5 : List Ins := [.mv 29 9,
 .f 30 55 [(.t 29)],
 .o 31 (.build [.nslice, .nslice, .nslice, .nslice] [(2, 1, (.t 30))]),
 .o 10 (.alloc [.nslice, .nslice, .nslice, .nslice]),
 .x (.store 4 (.t 10) (.t 31))]
def run__r6 : List Ins := [.o 32 (.faddr (.t 3) 1),
 .o 33 (.load (.t 32)),
 .o 34 (.len .slc (.t 33)),
 .o 35 (.mov (kI 0))]
def run__r7 : List Ins := [.o 36 (.bin .lss (.t 35) (.t 34))]
def run__r8 : List Ins := [.o 37 (.iaddr 1 (.t 33) (.t 35)),
 .o 38 (.load (.t 37)),
 .mv 12 38]
def run__r9 : List Ins := [.o 39 (.faddr (.t 10) 0),
 .o 40 (.load (.t 39)),
 .o 41 (.bslice 1 1 [(.str [])] [(0, 1, (.c (.str [])))]),
 .o 42 (.app 1 (.t 40) (.t 41)),
 .o 43 (.faddr (.t 10) 0),
 .x (.store 1 (.t 43) (.t 42))]
def run__r10 : List DIns := [⟨0, [], .o 44 (.faddr (.t 10) 1)⟩,
 ⟨1, [0], .o 45 (.load (.t 44))⟩,
 ⟨2, [], .o 46 (.faddr (.t 3) 0)⟩,
 ⟨3, [2], .o 47 (.load (.t 46))⟩,
 ⟨4, [], .mv 48 12⟩,
 ⟨5, [3, 4], .o 49 (.iaddr 8 (.t 47) (.t 48))⟩,
 ⟨6, [5], .o 50 (.faddr (.t 49) 2)⟩,
 ⟨7, [6], .o 51 (.load (.t 50))⟩,
 ⟨8, [7], .o 52 (.bslice 1 1 [(.int .i64 0)] [(0, 1, (.t 51))])⟩,
 ⟨9, [1, 8], .o 53 (.app 1 (.t 45) (.t 52))⟩,
 ⟨10, [0, 1, 2, 3, 4, 5, 6, 7, 8, 9], .o 54 (.faddr (.t 10) 1)⟩,
 ⟨11, [10, 9, 9, 0, 1, 2, 3, 4, 5, 6, 7, 8, 9], .x (.store 1 (.t 54) (.t 53))⟩]
def run__r11 : List Ins := [.o 55 (.bin .add (.t 35) (kI 1)),
 .mv 35 55]
def run__r12 : List Ins := [.mv 56 9,
 .f 57 55 [(.t 56)],
 .mv 13 57]
def run__r13 : List Ins := [.o 14 (.mov (kI 0)),
 .o 15 (.mov (kI 0))]
def run__r14 : List Ins := [.mv 58 14,
 .mv 59 2,
 .o 60 (.bin .leq (.t 58) (.t 59))]
def run__r15 : List Ins := [.mv 63 15,
 .o 64 (.bin .eql (.t 63) (kI 16384))]
def run__r16 : List Ins := [.o 65 (.build [.nslice, .nslice, .nslice, .nslice] []),
 .x (.store 4 (.t 6) (.t 65)),
 .o 7 (.mov (kI 2))]
def run__r17 : List Ins := [.mv 66 9,
 .o 67 (.nilck (.t 66)),
 .o 68 (.faddr (.t 67) 9),
 .o 69 (.load (.t 68)),
 .o 70 (.len .slc (.t 69)),
 .o 71 (.bin .gtr (.t 70) (kI 0)),
 .mv 72 71,
 .g 73 72 true (.mov (.t 9)),
 .g 74 72 true (.nilck (.t 73)),
 .g 75 72 true (.faddr (.t 74) 9),
 .g 76 72 true (.load (.t 75)),
 .g 77 72 true (.iaddr 3 (.t 76) (kI 0)),
 .g 78 72 true (.faddr (.t 77) 0),
 .g 79 72 true (.load (.t 78)),
 .g 80 72 true (.mov (.t 14)),
 .g 81 72 true (.bin .eql (.t 79) (.t 80)),
 .o 82 (.pick (.t 72) (.t 81) (.c (.bool false)))]
def run__r18 : List Ins := [.mv 83 9,
 .o 84 (.nilck (.t 83)),
 .o 85 (.faddr (.t 84) 9),
 .o 86 (.iface 111 (.t 85)),
 .f 87 56 [(.t 86)],
 .o 88 (.tassert 109 (.agg [(.int .i64 0), (.int .i64 0), (.str [])]) (.t 87) false),
 .o 16 (.alloc [(.int .i64 0), (.int .i64 0), (.str [])]),
 .x (.store 3 (.t 16) (.t 88))]
def run__r19 : List DIns := [⟨0, [], .mv 89 9⟩,
 ⟨1, [0], .o 90 (.nilck (.t 89))⟩,
 ⟨2, [1], .o 91 (.faddr (.t 90) 6)⟩,
 ⟨3, [2], .o 92 (.load (.t 91))⟩,
 ⟨4, [], .o 93 (.faddr (.t 16) 1)⟩,
 ⟨5, [4], .o 94 (.load (.t 93))⟩,
 ⟨6, [], .o 95 (.faddr (.t 16) 2)⟩,
 ⟨7, [6], .o 96 (.load (.t 95))⟩,
 ⟨8, [3, 5, 0, 1, 2, 3, 4, 5, 6, 7], .o 97 (.iaddr 1 (.t 92) (.t 94))⟩,
 ⟨9, [8, 7, 0, 1, 2, 3, 4, 5, 6, 7], .x (.store 1 (.t 97) (.t 96))⟩]
def run__r20 : List Ins := [.mv 98 1,
 .o 99 (.len .slc (.t 98)),
 .o 100 (.bin .gtr (.t 99) (kI 0)),
 .mv 101 100,
 .g 102 101 true (.mov (.t 1)),
 .g 103 101 true (.iaddr 3 (.t 102) (kI 0)),
 .g 104 101 true (.faddr (.t 103) 0),
 .g 105 101 true (.load (.t 104)),
 .g 106 101 true (.mov (.t 14)),
 .g 107 101 true (.bin .eql (.t 105) (.t 106)),
 .o 108 (.pick (.t 101) (.t 107) (.c (.bool false)))]
def run__r21 : List DIns := [⟨0, [], .mv 109 9⟩,
 ⟨1, [0], .o 110 (.nilck (.t 109))⟩,
 ⟨2, [1], .o 111 (.faddr (.t 110) 6)⟩,
 ⟨3, [2], .o 112 (.load (.t 111))⟩,
 ⟨4, [], .o 113 (.faddr (.t 3) 1)⟩,
 ⟨5, [4], .o 114 (.load (.t 113))⟩,
 ⟨6, [], .mv 115 1⟩,
 ⟨7, [6], .o 116 (.iaddr 3 (.t 115) (kI 0))⟩,
 ⟨8, [7], .o 117 (.faddr (.t 116) 1)⟩,
 ⟨9, [8], .o 118 (.load (.t 117))⟩,
 ⟨10, [5, 9], .o 119 (.iaddr 1 (.t 114) (.t 118))⟩,
 ⟨11, [10], .o 120 (.load (.t 119))⟩,
 ⟨12, [], .mv 121 1⟩,
 ⟨13, [12], .o 122 (.iaddr 3 (.t 121) (kI 0))⟩,
 ⟨14, [13], .o 123 (.faddr (.t 122) 2)⟩,
 ⟨15, [14], .o 124 (.load (.t 123))⟩,
 ⟨16, [3, 11, 0, 1, 2, 3, 4, 5, 6, 7, 8, 9, 10, 11, 12, 13, 14, 15], .o 125 (.iaddr 1 (.t 112) (.t 120))⟩,
 ⟨17, [16, 15, 0, 1, 2, 3, 4, 5, 6, 7, 8, 9, 10, 11, 12, 13, 14, 15], .x (.store 1 (.t 125) (.t 124))⟩]
def run__r22 : List Ins := [.mv 126 1,
 .o 127 (.cslice 3 (.t 126) (some (kI 1)) none none),
 .mv 1 127]
def run__r23 : List Ins := [.mv 128 9,
 .f 129 57 [(.t 128)]]
def run__r24 : List Ins := [.mv 130 9,
 .f 131 55 [(.t 130)],
 .o 132 (.len .slc (.t 131)),
 .o 133 (.mov (kI 0))]
def run__r25 : List Ins := [.o 134 (.bin .lss (.t 133) (.t 132))]
def run__r26 : List Ins := [.mv 135 133,
 .o 136 (.iaddr 1 (.t 131) (.t 133)),
 .o 137 (.load (.t 136)),
 .mv 17 135,
 .mv 18 137]
def run__r27 : List Ins := [.mv 138 18,
 .mv 139 13,
 .mv 140 17,
 .o 141 (.iaddr 1 (.t 139) (.t 140)),
 .o 142 (.load (.t 141)),
 .o 143 (.bin .neq (.t 138) (.t 142))]
def run__r28 : List Ins := [.o 144 (.faddr (.t 10) 3),
 .o 145 (.load (.t 144)),
 .mv 146 14,
 .mv 147 17,
 .mv 148 18,
 .o 149 (.build [(.int .i64 0), (.int .i64 0), (.str [])] [(0, 1, (.t 146)), (1, 1, (.t 147)), (2, 1, (.t 148))]),
 .o 150 (.bslice 3 1 [(.int .i64 0), (.int .i64 0), (.str [])] [(0, 3, (.t 149))]),
 .o 151 (.app 3 (.t 145) (.t 150)),
 .o 152 (.faddr (.t 10) 3),
 .x (.store 1 (.t 152) (.t 151))]
def run__r29 : List Ins := [.mv 153 13,
 .mv 154 17,
 .mv 155 18,
 .o 156 (.iaddr 1 (.t 153) (.t 154)),
 .x (.store 1 (.t 156) (.t 155))]
def run__r30 : List Ins := [.o 157 (.bin .add (.t 133) (kI 1)),
 .mv 133 157]
def run__r31 : List Ins := [.mv 158 9,
 .mv 159 14,
 .mv 160 2,
 .f 161 58 [(.t 158), (.t 159), (.t 160)],
 .o 162 (.not (.t 161))]
def run__r32 : List Ins := [.o 163 (.build [.nslice, .nslice, .nslice, .nslice] []),
 .x (.store 4 (.t 6) (.t 163)),
 .o 7 (.mov (kI 141))]
def run__r33 : List Ins := [.mv 164 2,
 .o 165 (.bin .add (.t 164) (kI 1)),
 .mv 14 165]
def run__r34 : List Ins := [.mv 166 9,
 .o 167 (.nilck (.t 166)),
 .o 168 (.faddr (.t 167) 9),
 .o 169 (.load (.t 168)),
 .o 170 (.len .slc (.t 169)),
 .o 171 (.bin .gtr (.t 170) (kI 0))]
def run__r35 : List Ins := [.mv 172 14,
 .mv 173 9,
 .o 174 (.nilck (.t 173)),
 .o 175 (.faddr (.t 174) 9),
 .o 176 (.load (.t 175)),
 .o 177 (.iaddr 3 (.t 176) (kI 0)),
 .o 178 (.faddr (.t 177) 0),
 .o 179 (.load (.t 178)),
 .o 180 (.mm false (.t 172) (.t 179)),
 .mv 14 180]
def run__r36 : List Ins := [.mv 181 1,
 .o 182 (.len .slc (.t 181)),
 .o 183 (.bin .gtr (.t 182) (kI 0))]
def run__r37 : List Ins := [.mv 184 14,
 .mv 185 1,
 .o 186 (.iaddr 3 (.t 185) (kI 0)),
 .o 187 (.faddr (.t 186) 0),
 .o 188 (.load (.t 187)),
 .o 189 (.mm false (.t 184) (.t 188)),
 .mv 14 189]
def run__r38 : List Ins := [.mv 61 15,
 .o 62 (.bin .add (.t 61) (kI 1)),
 .mv 15 62]
def run__r39 : List Ins := [.o 190 (.loadA 4 (.t 10)),
 .x (.store 4 (.t 6) (.t 190)),
 .o 7 (.mov (kI 0))]
def run__c : IC := (.seq (.reg run__r0) (.seq (.seq (.reg run__r1) (.seq (.reg run__r2) (.cond (.t 24) (.seq (.reg run__r3) .ret) .skip))) (.seq (.reg run__r4) (.seq (.reg run__r5) (.seq (.seq (.reg run__r6) (.block 0 (.loop (.seq (.reg run__r7) (.seq (.cond (.t 36) .skip (.exit 0)) (.seq (.block 1 (.seq (.reg run__r8) (.seq (.reg run__r9) (.draw run__r10)))) (.reg run__r11))))))) (.seq (.reg run__r12) (.seq (.seq (.reg run__r13) (.block 2 (.loop (.seq (.seq (.reg run__r14) (.cond (.t 60) .skip (.exit 2))) (.seq (.block 3 (.seq (.seq (.reg run__r15) (.cond (.t 64) (.seq (.reg run__r16) .ret) .skip)) (.seq (.block 4 (.loop (.seq (.seq (.reg run__r17) (.cond (.t 82) .skip (.exit 4))) (.block 5 (.seq (.reg run__r18) (.draw run__r19)))))) (.seq (.block 6 (.loop (.seq (.seq (.reg run__r20) (.cond (.t 108) .skip (.exit 6))) (.block 7 (.seq (.draw run__r21) (.reg run__r22)))))) (.seq (.reg run__r23) (.seq (.seq (.reg run__r24) (.block 8 (.loop (.seq (.reg run__r25) (.seq (.cond (.t 134) .skip (.exit 8)) (.seq (.block 9 (.seq (.reg run__r26) (.seq (.reg run__r27) (.cond (.t 143) (.seq (.reg run__r28) (.reg run__r29)) .skip)))) (.reg run__r30))))))) (.seq (.seq (.reg run__r31) (.cond (.t 162) (.seq (.reg run__r32) .ret) .skip)) (.seq (.reg run__r33) (.seq (.seq (.reg run__r34) (.cond (.t 171) (.reg run__r35) .skip)) (.seq (.reg run__r36) (.cond (.t 183) (.reg run__r37) .skip))))))))))) (.reg run__r38)))))) (.seq (.reg run__r39) .ret))))))))
theorem run__tab : tb 16 = some (.code 3 191 run__c [.cell 6 4 true, .tmp 7]) := by kernel_rfl
def Hid (p : Prop) : Prop := p
theorem hid {p : Prop} (h : p) : Hid p := h
theorem unhid {p : Prop} (h : Hid p) : p := h
def tS (t0 : Int) (dz : List Int) (i : Nat) : Int := t0 + (dz.take i).sum
def cS (t0 : Int) (dz : List Int) (k : Nat) : List Chg := (List.range k).map (fun i => ⟨tS t0 dz i, (i : Int), [49]⟩)
theorem tS_zero (t0 : Int) (dz : List Int) : tS t0 dz 0 = t0 := by simp [tS]
theorem tS_succ {t0 d : Int} {dz : List Int} {i : Nat} (h : dz[i]? = some d) : tS t0 dz (i + 1) = tS t0 dz i + d := by
 unfold tS
 rw [List.take_add_one, h]
 simp
 omega
theorem tS_lim {t0 : Int} {dz : List Int} (h : ∀ d ∈ dz, 1 ≤ d ∧ d ≤ 4096) (h0 : 0 ≤ t0 ∧ t0 ≤ 65535) : ∀ i, 0 ≤ tS t0 dz i ∧ tS t0 dz i ≤ 65535 + 4096 * (dz.length : Int) := by
 have hs : ∀ l : List Int, (∀ d ∈ l, 1 ≤ d ∧ d ≤ 4096) → 0 ≤ l.sum ∧ l.sum ≤ 4096 * (l.length : Int) := by
   intro l
   induction l with
   | nil => intro _; simp
   | cons a l ih => intro h; have h1 := h a (by simp); have h2 := ih (fun d hd => h d (by simp [hd])); simp; omega
 intro i
 have h1 := hs (dz.take i) (fun d hd => h d (List.mem_of_mem_take hd))
 have h2 : (dz.take i).length ≤ dz.length := by rw [List.length_take]; omega
 unfold tS
 omega
theorem cS_len (t0 : Int) (dz : List Int) (k : Nat) : (cS t0 dz k).length = k := by simp [cS]
theorem cS_get {t0 : Int} {dz : List Int} {k i : Nat} (h : i < k) : (cS t0 dz k)[i]? = some ⟨tS t0 dz i, (i : Int), [49]⟩ := by simp [cS, h]
theorem cS_succ (t0 : Int) (dz : List Int) (k : Nat) : flatC3 (cS t0 dz k) ++ [.int .i64 (tS t0 dz k), .int .i64 (k : Int), .str [49]] = flatC3 (cS t0 dz (k + 1)) := by
 simp [cS, List.range_succ, flatC3, ccells]
theorem LN.wide {ns : List Nd} {dz : List Int} (h : LN ns dz) {i : Nat} {x : Nd} (hx : ns[i]? = some x) : x.wide = 1 := by
 have hi : i < ns.length := (List.getElem?_eq_some_iff.1 hx).1
 cases i with
 | zero => rw [h.zero] at hx; cases hx; rfl
 | succ i =>
   have hl := h.len
   obtain ⟨d, hd⟩ := some_at (l := dz) (i := i) (by omega)
   rw [h.next i d hd] at hx; cases hx; rfl
theorem node_at {r : List AV} {o j : Nat} {x : Nd} {iv v : AV} (h : (r.drop o).take 8 = ncells x iv) (hj : (ncells x iv)[j]? = some v) : r[o + j]? = some v := by
 rw [← h, List.getElem?_take, List.getElem?_drop] at hj
 split at hj
 · exact hj
 · cases hj
theorem stim_P {t0 : Int} {ns : List Nd} {ts dz : List Int} (h : LN ns dz) (hl : ts.length = ns.length) (hg : ∀ i, i < ts.length → ts[i]? = some (i : Int)) (h0 : 0 ≤ t0 ∧ t0 ≤ 65535) : StimP ns ts [⟨t0, 0, [49]⟩] 1048576 := by
 have hll := h.len
 refine ⟨by decide, fun c hc => ?_, fun i a c ha hc => ?_⟩
 · simp at hc; subst hc
   refine ⟨⟨h0.1, by show t0 ≤ _; omega⟩, ⟨by show (0 : Int) ≤ 0; decide, by show (0 : Int) < _; omega⟩, (show isV [49] from ⟨by decide, by decide, by intro c hc; simp at hc; subst hc; unfold bitC; simp⟩), 0, _, ?_, h.zero, rfl, rfl⟩
   have := hg 0 (by omega)
   exact this
 · cases i <;> simp at hc
theorem o_cs1 {T : TA} {t : TB} {nx cb : Nat} {x : Opd} (hx : x.ev T = some (.slice cb 0 1 1 3 true)) : (IOp.cslice 3 x (some (kI 1)) none none).run T t nx = .ok (.slice cb 3 0 0 3 true) t nx := by
 simp only [IOp.run, hx]
 rfl
theorem o_minL {T : TA} {t : TB} {nx : Nat} {x y : Opd} {a b : Int} (hx : x.ev T = some (.int .i64 a)) (hy : y.ev T = some (.int .i64 b)) (h : b < a) : (IOp.mm false x y).run T t nx = .ok (.int .i64 b) t nx := by
 simp only [IOp.run, hx, hy, iLt_eq]
 rw [decide_eq_true h]
theorem LN.MayP_ {ns : List Nd} {ts dz : List Int} (h : LN ns dz) (hl : ts.length = ns.length) (hg : ∀ i, i < ts.length → ts[i]? = some (i : Int)) : MayP ns ts (ts.length : Int) ∧ LvN ns ∧ (∀ x ∈ ns, x.ins.length < 60000 ∧ (∀ c ∈ x.value, c < 256) ∧ x.value.length ≤ 9223372036854775807) := by
 have hll := h.len
 have hfew := h.few
 have two : ∀ (i : Nat) (x : Nd), ns[i]? = some x → (i = 0 ∧ x = ⟨2, 0, 1, [], [], 0, 0, 0⟩) ∨ ∃ j d, i = j + 1 ∧ j < dz.length ∧ (1 ≤ d ∧ d ≤ 4096) ∧ x = ⟨8, 0, 1, [(j : Int)], [], 0, 0, d⟩ := by
   intro i x hx
   have hi : i < ns.length := (List.getElem?_eq_some_iff.1 hx).1
   cases i with
   | zero => rw [h.zero] at hx; cases hx; exact .inl ⟨rfl, rfl⟩
   | succ i =>
     obtain ⟨d, hd⟩ := some_at (l := dz) (i := i) (by omega)
     rw [h.next i d hd] at hx; cases hx
     exact .inr ⟨i, d, rfl, by omega, h.lim d (List.mem_of_getElem? hd), rfl⟩
 have mem : ∀ x ∈ ns, ∃ i : Nat, ns[i]? = some x := fun x hx => by obtain ⟨i, hi, rfl⟩ := List.mem_iff_getElem.1 hx; exact ⟨i, List.getElem?_eq_getElem hi⟩
 have hwd : ∀ j, j < ns.length → wdN ns (j : Int) = 1 := fun j hj => by
   obtain ⟨x, hx⟩ := some_at (l := ns) (i := j) hj
   rw [wdN_at hx, h.wide hx]
 refine ⟨⟨by omega, rfl, fun x hx => ?_, fun k hk => ?_, fun i x hx => ⟨?_, fun hk => ?_⟩⟩, ⟨by omega, fun i x hx => ?_⟩, fun x hx => ?_⟩
 · obtain ⟨i, hi⟩ := mem x hx
   rcases two i x hi with ⟨-, rfl⟩ | ⟨j, d, rfl, hj, hd, rfl⟩
   · exact ⟨by decide, fun k hk => nomatch hk⟩
   · exact ⟨by show (1 : Int) ≤ 1 ∧ (1 : Int) ≤ 256; decide, fun k hk => by have hk2 : k ∈ [(j : Int)] := hk; simp at hk2; omega⟩
 · obtain ⟨i, hi, rfl⟩ := List.mem_iff_getElem.1 hk
   have h1 := hg i hi
   rw [List.getElem?_eq_getElem hi] at h1
   have h2 := Option.some.inj h1
   omega
 · rcases two i x hx with ⟨-, rfl⟩ | ⟨j, d, rfl, hj, hd, rfl⟩
   · exact ⟨⟨.inr rfl, .inr rfl, .inr ⟨rfl, rfl⟩, .inr rfl⟩, .inr (.inl ⟨rfl, rfl⟩)⟩
   · refine ⟨⟨.inr rfl, .inr rfl, .inr ⟨rfl, rfl⟩, .inl rfl⟩, .inr (.inr (.inr (.inr (.inr (.inr (.inr ⟨rfl, ?_, hd.1, by show d ≤ 1048576; omega⟩))))))⟩
     show [wdN ns (j : Int)] = [1]
     rw [hwd j (by omega)]
 · rcases two i x hx with ⟨rfl, rfl⟩ | ⟨j, d, rfl, hj, hd, rfl⟩
   · have hp : ts = (List.range ts.length).map (fun (i : Nat) => (i : Int)) := by
       apply List.ext_getElem?
       intro q
       by_cases hq : q < ts.length
       · rw [hg q hq]; simp [hq]
       · rw [List.getElem?_eq_none (by omega), List.getElem?_eq_none (by simp; omega)]
     rw [hp]
     obtain ⟨m, hm⟩ : ∃ m, ts.length = m + 1 := ⟨dz.length, by omega⟩
     rw [hm, List.range_succ_eq_map, List.map_cons, List.count_cons]
     have hz : (List.map (fun (i : Nat) => (i : Int)) (List.map Nat.succ (List.range m))).count ((0 : Nat) : Int) = 0 := List.count_eq_zero.2 (fun hc => by simp at hc; omega)
     rw [hz]; rfl
   · exact absurd hk (by show ¬ ((8 : Int) = 2); decide)
 · rcases two i x hx with ⟨-, rfl⟩ | ⟨j, d, rfl, hj, hd, rfl⟩
   · exact ⟨fun k hk => by simp [hangs] at hk, by decide, fun hk => absurd hk (by decide)⟩
   · exact ⟨fun k hk => by simp [hangs] at hk, by show 1 ≤ 3; decide, fun hk => absurd hk (by show ¬ ((8 : Int) = 7); decide)⟩
 · obtain ⟨i, hi⟩ := mem x hx
   rcases two i x hi with ⟨-, rfl⟩ | ⟨j, d, rfl, hj, hd, rfl⟩
   · exact ⟨by show 0 < 60000; decide, (fun c hc => absurd (show c ∈ ([] : List Nat) from hc) (by simp)), by show 0 ≤ 9223372036854775807; decide⟩
   · exact ⟨by show 1 < 60000; decide, (fun c hc => absurd (show c ∈ ([] : List Nat) from hc) (by simp)), by show 0 ≤ 9223372036854775807; decide⟩
theorem NL.up {t : TB} {bd bd' : Nat} {vn vt : AV} {ns : List Nd} {ts ds : List Int} (h : NL t bd vn vt ns ts ds) (hb : bd ≤ bd') : NL t bd' vn vt ns ts ds := ⟨h.hN.keep kR hb, h.hT.keep kR hb, h.ln, h.tl, h.tg⟩
theorem o_len_QE {T : TA} {t t0 : TB} {nx n0 D : Nat} {v : AV} {x : Opd} (h : QE t0 n0 D v) (hx : x.ev T = some v) : (IOp.len .slc x).run T t nx = .ok (.int .i64 0) t nx := by
 rcases h.2 with rfl | ⟨rfl, -⟩
 · exact o_len_nslice hx
 · exact o_len_slice hx
theorem cell4 {a b c d : AV} (h1 : isCell a = true) (h2 : isCell b = true) (h3 : isCell c = true) (h4 : isCell d = true) : allCell [a, b, c, d] = true := by
 rw [allCell_iff]
 intro z hz
 simp only [List.mem_cons, List.not_mem_nil, or_false] at hz
 rcases hz with rfl | rfl | rfl | rfl <;> assumption
structure CM (t : TB) (nw b0 WB LB P2 nB cb : Nat) (vn vt v1 v2 v3 lv : AV) (p t0 : Int) (n k : Nat) (ns : List Nd) (ts dz : List Int) : Prop where
 h0 : hv t b0 = some (.row [vn, vt, .int .i64 p] true)
 h6 : hv t (b0 + 1) = some (.row [.nslice, .nslice, .nslice, .nslice] true)
 hW : hv t WB = some (.row [v1, v2, v3, lv] true)
 hO : OL t nw LB lv k 3 (flatC3 (cS t0 dz k))
 hP : hv t P2 = some (.row (strs (vS n k)) true)
 hL : NL t nB vn vt ns ts dz
 hC : hv t cb = some (.row [.int .i64 t0, .int .i64 0, .str [49]] true)
 lt : cb < b0 ∧ b0 + 1 < nB ∧ nB + 2 < WB ∧ WB < P2 ∧ P2 < nw ∧ (LB = nB ∨ P2 < LB)
theorem CM.keep {t t' : TB} {nw nw' b0 WB LB P2 nB cb : Nat} {vn vt v1 v2 v3 lv : AV} {p t0 : Int} {n k : Nat} {ns : List Nd} {ts dz : List Int} {W : Nat → Prop} (h : CM t nw b0 WB LB P2 nB cb vn vt v1 v2 v3 lv p t0 n k ns ts dz) (hk : Keep t t' nw W) (hw : ∀ b, W b → nB < b ∧ b ≠ WB ∧ b ≠ P2 ∧ b ≠ LB) (hn : nw ≤ nw') : CM t' nw' b0 WB LB P2 nB cb vn vt v1 v2 v3 lv p t0 n k ns ts dz := by
 have l := h.lt
 refine ⟨(hk b0 (by omega) (fun e => by have := hw _ e; omega)).trans h.h0, (hk (b0 + 1) (by omega) (fun e => by have := hw _ e; omega)).trans h.h6, (hk WB (by omega) (fun e => (hw _ e).2.1 rfl)).trans h.hW, h.hO.keep hk (fun e => (hw _ e).2.2.2 rfl) hn, (hk P2 (by omega) (fun e => (hw _ e).2.2.1 rfl)).trans h.hP, h.hL.keep hk (by omega) (fun b hb e => by have := hw _ e; omega), (hk cb (by omega) (fun e => by have := hw _ e; omega)).trans h.hC, by omega⟩
theorem fin_mm {mm k n ke : Nat} {t0 now : Int} (h : (mm + 2 * k = 2 * n ∧ (k = 0 → now = t0)) ∨ (mm + 2 * k = 2 * n + 1 ∧ k = 0 ∧ now = 0)) (he : ke = k + 1) (hk : k < n) : 2 * n - 2 * ke < mm := by omega
theorem fin_mm0 {mm k n ke : Nat} {t0 now : Int} (h : (mm + 2 * k = 2 * n ∧ (k = 0 → now = t0)) ∨ (mm + 2 * k = 2 * n + 1 ∧ k = 0 ∧ now = 0)) (he : ke = 0) (hk : k = 0) (hz : now ≠ t0) : 2 * n - 2 * ke < mm := by omega
theorem fin_D {D D2 R P2 P3 LB LB2 nB ng : Nat} (h : nB + 2 ≤ D ∧ (D < R ∨ P2 < D) ∧ D ≠ LB) (hdd : D2 = D ∨ ng ≤ D2) (hlb : LB2 = LB ∨ P3 < LB2) (hl : LB2 < ng) (hp : P2 < P3) (hd : D < P3) (hq : P3 < ng) (hn : nB < ng) : nB + 2 ≤ D2 ∧ (D2 < R ∨ P2 < D2) ∧ D2 ≠ LB2 := by omega
theorem fin_C {b R LA D nB WB P2 LB2 LB P3 : Nat} (h : b = R ∨ b = LA ∨ b = D) (hR : nB + 2 < R) (hW : LA < WB) (hRL : R < LA) (h1 : nB + 2 ≤ D ∧ (D < R ∨ P2 < D) ∧ D ≠ LB) (hlb : LB2 = LB ∨ P3 < LB2) (h2 : WB < P2) (h3 : LB2 = nB ∨ P2 < LB2) (hD : D < P3) : nB < b ∧ b ≠ WB ∧ b ≠ P2 ∧ b ≠ LB2 := by omega

set_option maxHeartbeats 8000000 in
theorem run_ok {t : TB} {nx bd cb : Nat} {vn vt : AV} {dz : List Int} {ns : List Nd} {ts : List Int} (hL : NL t bd vn vt ns ts dz) (hb : bd ≤ nx) {t0 : Int} (h0 : 0 ≤ t0 ∧ t0 ≤ 65535) (hCr : hv t cb = some (.row [.int .i64 t0, .int .i64 0, .str [49]] true)) (hcb : cb < bd) : WF tb 16 [.agg [vn, vt, (.int .i64 ((ts.length : Nat) : Int))], (.slice cb 0 1 1 3 true), .int .i64 1048576] t nx (fun v t' nx' => ∃ (v1 v2 v3 lv : AV) (LB : Nat), v = .tup [.agg [v1, v2, v3, lv], .int .i64 0] ∧ allCell [v1, v2, v3, lv] = true ∧ nx ≤ LB ∧ OL t' nx' LB lv ns.length 3 (flatC3 (cS t0 dz ns.length)) ∧ nx ≤ nx' ∧ Keep t t' nx (fun _ => False)) := by
 obtain ⟨hM, hG, hlong⟩ := hL.ln.MayP_ hL.tl hL.tg
 have hll := hL.ln.len
 have htl := hL.tl
 have hfew := hL.ln.few
 have hlim := tS_lim hL.ln.lim h0
 have hcn := hL.hN.cell
 have hct := hL.hT.cell
 refine k_fun run__tab rfl ?_
 unfold run__c
 change WC _ _ (TA.put (some _) (TA.put (some _) (TA.put (some _) TA.e 0) 1) 2) _ _ _
 refine k_seq (k_reg (r_heap (o_box (eV (get_other rfl (get_other rfl get_same)))) rfl (fun t1 (hh2 : hv t1 = upd (hv t) nx (some (.row [vn, vt, (.int .i64 ((ts.length : Nat) : Int))] true))) => r_heap (o_alloc) rfl (fun t3 (hh4 : hv t3 = upd (hv t1) (nx + 1) (some (.row [.nslice, .nslice, .nslice, .nslice] true))) => rO (o_mov ev_c) (r_nil (k_seq (k_seq (k_reg (rO (o_loadA (n := 3) (eV (z2 ds)) (lN hh4 (lS hh2)) (leb rfl) rfl) (m1 (z4 (get_other rfl get_same)) (m1 (z1 (z4 get_same)) ?_)))))))))))
 have hCs : RowC t3 bd (.slice cb 0 1 1 3 true) [⟨t0, 0, [49]⟩] := .inr ⟨cb, 0, 1, true, true, _, rfl, hcb, (lN hh4 (lN hh2 hCr)), by show 0 + 1 * 3 ≤ 3; decide, rfl⟩
 refine r_call (w_callF (evs_cons (eV (z2 ds)) (evs_cons (eV (z1 ds)) (evs_cons eZ evs_nil)))) rfl (WF.mono (echeck_ok (hL.hN.keep (fun d hd hw => (show Keep t t3 nx (fun _ => False) from kU (kU kR hh2) hh4) d (by omega) hw) (Nat.le_refl bd)) (hL.hT.keep (fun d hd hw => (show Keep t t3 nx (fun _ => False) from kU (kU kR hh2) hh4) d (by omega) hw) (Nat.le_refl bd)) hCs (by omega) (by omega) (by omega) (by simp) hM.nets (fun c hc => by simp at hc; subst hc; exact ⟨by intro b hb; simp at hb; subst hb; decide, by show 1 < 9223372036854775808; decide⟩) hM hlong (fun t2 nx2 k2 h2 => lrun_ok ((hL.hN.keep (fun d hd hw => (show Keep t t3 nx (fun _ => False) from kU (kU kR hh2) hh4) d (by omega) hw) (Nat.le_refl bd)).keep (fun d hd hw => k2 d (by omega) hw) (Nat.le_refl bd)) ((hL.hT.keep (fun d hd hw => (show Keep t t3 nx (fun _ => False) from kU (kU kR hh2) hh4) d (by omega) hw) (Nat.le_refl bd)).keep (fun d hd hw => k2 d (by omega) hw) (Nat.le_refl bd)) (by omega) hG hM (by omega) hlong)) ?_)
 rintro _ t5 n6 ⟨rk, rfl, hrk1, hrk2, hn_c, hk_c⟩
 obtain rfl : rk = 0 := hrk2.2 (stim_P hL.ln hL.tl hL.tg h0)
 obtain ⟨nB, hnB⟩ : ∃ k, k = n6 := ⟨_, rfl⟩
 refine m1 ds (r_nil (k_seq (k_reg (m1 ds (rO (ndec_f (o_neq eZ ev_c) (by simp)) (r_nil (k_cond_f eZ (k_skip (k_seq (k_reg (rO (o_loadA (n := 3) (eV (z1 (z8 ds))) (Keep.look hk_c (by omega) id (lN hh4 (lS hh2))) (leb rfl) rfl) ?_)))))))))))
 have hLb : NL t5 bd vn vt ns ts dz := hL.keep (show Keep t t5 nx (fun _ => False) from Keep.trans (kU (kU kR hh2) hh4) hk_c (by omega) (fun d _ h => h)) hb (fun _ _ h => h)
 refine r_call (w_callF (evs_cons eZ evs_nil)) rfl (WF.mono (begun_ok hLb (by omega) hG hM hlong) ?_)
 rintro _ t7 n8 ⟨R, V, LA, DL, D, dlv, wv, rfl, hD1, hD2, hS, hn_b, hk_b⟩
 have hL2 : NL t7 n6 vn vt ns ts dz := (hL.keep (show Keep t t7 nx (fun _ => False) from Keep.trans (Keep.trans (kU (kU kR hh2) hh4) hk_c (by omega) (fun d _ h => h)) hk_b (by omega) (fun d _ h => h)) hb (fun _ _ h => h)).up (by omega)
 rw [← hll] at hS
 have hs := hS.hs
 have hRB : n6 + 2 < R := by omega
 refine m1 ds (r_nil (k_seq (k_reg (m1 ds (r_call (w_callF (evs_cons eZ evs_nil)) rfl (WF.mono (ports_ok (hS.keep (nx' := n8) (show Keep t7 t7 n8 (fun b => False) from Keep.refl t7 n8 _) (fun _ h => h.elim) (by omega)) (hL2.keep (show Keep t7 t7 n8 (fun b => False) from Keep.refl t7 n8 _) (by omega) (fun _ _ h => h)) (by omega)) ?_))))))
 rintro _ t9 n10 ⟨P1, rfl, hP1a, hP1b, hrP1, hn_P1, hk_P1⟩
 refine rO (o_build (fill_cons eZ rfl rfl fill_nil)) (r_heap (o_alloc) rfl (fun t11 (hh12 : hv t11 = upd (hv t9) n10 (some (.row [.nslice, .nslice, .nslice, .nslice] true))) => r_heap (o_store (n := 4) eZ (eV (z1 ds)) (lS hh12) rfl rfl (leb rfl)) rfl (fun t13 (hh14 : hv t13 = upd (hv t11) n10 (some (.row [.nslice, .nslice, (.slice P1 0 ns.length ns.length 1 false), .nslice] true))) => r_nil (k_seq (k_seq (k_reg (rO (o_faddr (off := 1) (eV (z1 (z8 (z8 ds))))) (rO (o_load eZ (lN hh14 (lN hh12 (Keep.look hk_P1 (by omega) id (Keep.look hk_b (by omega) id (Keep.look hk_c (by omega) id (lN hh4 (lS hh2))))))) rfl) (rO (o_len_I hL.hT eZ) (rO (o_mov ev_c) (r_nil (k_block ?_))))))))))))
 refine k_loop (fun mm Tv tv nv => ∃ (i a1 a2 : Nat) (v1 v2 : AV) (l1 l2 : List AV), i ≤ ts.length ∧ (Tv.get 1 = some (.slice cb 0 1 1 3 true) ∧ Tv.get 2 = some (.int .i64 1048576) ∧ Tv.get 3 = some (.ptr nx 0) ∧ Tv.get 6 = some (.ptr (nx + 1) 0) ∧ Tv.get 9 = some (.ptr R 0) ∧ Tv.get 10 = some (.ptr n10 0) ∧ Tv.get 33 = some vt ∧ Tv.get 34 = some (.int .i64 ((ts.length : Nat) : Int)) ∧ Tv.get 35 = some (.int .i64 ((i : Nat) : Int))) ∧ hv tv n10 = some (.row [v1, v2, (.slice P1 0 ns.length ns.length 1 false), .nslice] true) ∧ OL tv nv a1 v1 i 1 l1 ∧ OL tv nv a2 v2 i 1 l2 ∧ (a1 = n6 ∧ i = 0 ∨ n10 < a1) ∧ (a2 + 1 = D ∨ n10 < a2) ∧ a1 ≠ a2 ∧ hv tv (nx + 1) = some (.row [.nslice, .nslice, .nslice, .nslice] true) ∧ hv tv nx = some (.row [vn, vt, (.int .i64 ((ts.length : Nat) : Int))] true) ∧ hv tv cb = some (.row [.int .i64 t0, .int .i64 0, .str [49]] true) ∧ ST tv nv n6 R V LA DL D vn vt ((ts.length : Nat) : Int) dlv wv .nslice ns.length 0 0 dz ∧ NL tv n6 vn vt ns ts dz ∧ n10 + 1 ≤ nv ∧ Keep t tv nx (fun _ => False) ∧ mm + i = ts.length) (fun mm Tv tv nv hI => ?_) (ts.length) ⟨0, n6, D - 1, .nslice, .nslice, [], [], by omega, ⟨(z2 (z4 (z8 (z8 (get_other rfl get_same))))), (z2 (z4 (z8 (z8 get_same)))), (z1 (z4 (z8 (z8 ds)))), (z4 (z8 (z8 ds))), (z1 (z8 ds)), (z1 (z4 ds)), (z2 ds), (z1 ds), ds⟩, (lS hh14), ⟨by omega, .inl ⟨rfl, rfl, rfl⟩, rfl⟩, ⟨by omega, .inl ⟨rfl, rfl, rfl⟩, rfl⟩, .inl ⟨rfl, rfl⟩, .inl (by omega), by omega, (lN hh14 (lN hh12 (Keep.look hk_P1 (by omega) id (Keep.look hk_b (by omega) id (Keep.look hk_c (by omega) id (lS hh4)))))), (lN hh14 (lN hh12 (Keep.look hk_P1 (by omega) id (Keep.look hk_b (by omega) id (Keep.look hk_c (by omega) id (lN hh4 (lS hh2))))))), (lN hh14 (lN hh12 (Keep.look hk_P1 (by omega) id (Keep.look hk_b (by omega) id (Keep.look hk_c (by omega) id (lN hh4 (lN hh2 hCr))))))), (hS.keep (nx' := (n10 + 1)) (show Keep t7 t13 n8 (fun b => False) from Keep.upd (Keep.upd (Keep.trans (Keep.refl t7 n8 _) hk_P1 (by omega) (fun d _ h => h.elim)) hh12 (by first | exact .inl (by omega) | (right; first | exact rfl | (show _ ∨ _; omega) | omega))) hh14 (by first | exact .inl (by omega) | (right; first | exact rfl | (show _ ∨ _; omega) | omega))) (fun _ h => h.elim) (by omega)), (hL2.keep (show Keep t7 t13 n8 (fun b => False) from Keep.upd (Keep.upd (Keep.trans (Keep.refl t7 n8 _) hk_P1 (by omega) (fun d _ h => h.elim)) hh12 (by first | exact .inl (by omega) | (right; first | exact rfl | (show _ ∨ _; omega) | omega))) hh14 (by first | exact .inl (by omega) | (right; first | exact rfl | (show _ ∨ _; omega) | omega))) (by omega) (fun _ _ h => h)), by omega, kU (kU (Keep.trans (Keep.trans (Keep.trans (kU (kU kR hh2) hh4) hk_c (by omega) (fun d _ h => h)) hk_b (by omega) (fun d _ h => h)) hk_P1 (by omega) (fun d _ h => h)) hh12) hh14, rfl⟩
 obtain ⟨i, a1, a2, v1, v2, l1, l2, hi, ⟨q1, q2, q3, q6, q9, q10, q33, q34, q35⟩, hW, hO1, hO2, ha1, ha2, ha12, h6r, h0r, hcr, hS2, hL3, hnv, hkv, hmm⟩ := hI
 have hs2 := hS2.hs
 refine k_seq (k_reg (rO (o_lss (eV q35) (eV q34)) (r_nil (k_seq ?_))))
 refine k_if eZ (fun hc15 => ?_) (fun hc15 => ?_)
 · refine k_skip (k_seq (k_block (k_seq ?_)))
   obtain ⟨dT, oT, cT, exT, wrT, rT, hTe, hTd, hTr, hTg⟩ := RowI.at hL3.hT (hL3.tg i (by omega))
   obtain ⟨x, hx⟩ := some_at (l := ns) (i := i) (by omega)
   obtain ⟨dN, oN, cN, exN, wrN, rN, iv, hNe, hNd, hNr, hNl, hNg, hI, hic⟩ := RowN.at hL3.hN hx
   have ho1 := hO1.lt
   have ho2 := hO2.lt
   refine k_reg (rO (o_iaddrE (i := i) (eV (z1 q33)) hTe (eV (z1 q35)) (by omega)) (rO (o_load eZ hTr hTg) (m1 ds (r_nil (k_seq (k_reg (rO (o_faddr (off := 0) (eV (z4 q10))) (rO (o_load eZ hW rfl) (r_heap (o_bslice (fill_cons ev_c rfl rfl fill_nil)) rfl (fun t16 (hh17 : hv t16 = upd (hv tv) nv (some (.row [(.str [])] true))) => ?_))))))))))
   refine r_heap (o_appE (eV (z1 ds)) eZ ((hO1.keep (nx' := (nv + 1)) (show Keep tv t16 nv (fun b => False) from Keep.upd (Keep.refl tv nv _) hh17 (by first | exact .inl (by omega) | (right; first | exact rfl | (show _ ∨ _; omega) | omega))) (fun h => h) (by omega)).app (lS hh17) rfl rfl (by omega))) rfl (fun ta ⟨hO1b, hka⟩ => ?_)
   refine rO (o_faddr (off := 0) (eV (z8 q10))) (r_heap (o_store (n := 1) eZ (eV (z1 ds)) (Keep.look hka (by omega) (fun h_ => absurd (show n10 = a1 from h_) (by omega)) (lN hh17 hW)) rfl rfl (leb rfl)) rfl (fun t18 (hh19 : hv t18 = upd (hv ta) n10 (some (.row [(.slice (nv + 1) 0 (i + 1) (i + 1) 1 false), v2, (.slice P1 0 ns.length ns.length 1 false), .nslice] true))) => r_nil (k_draw (eO 0 rfl (o_faddr (off := 1) (eV (z2 (z8 q10)))) (eO 1 rfl (o_load eZ (lS hh19) rfl) (eO 2 rfl (o_faddr (off := 0) (eV (z4 (z8 q3)))) (eO 3 rfl (o_load eZ (lN hh19 (Keep.look hka (by omega) (fun h_ => absurd (show nx = a1 from h_) (by omega)) (lN hh17 h0r))) rfl) (eO 4 rfl (o_mov (eV (z2 (z8 ds)))) (eO 5 rfl (o_iaddrE (i := i) (eV (z1 ds)) hNe eZ (by omega)) (eO 6 rfl (o_faddr (off := 2) eZ) (eO 7 rfl (o_load eZ (lN hh19 (Keep.look hka (by omega) (fun h_ => absurd (show dN = a1 from h_) (by omega)) (lN hh17 hNr))) (node_at hNg rfl)) ?_)))))))))))
   refine d_heap (ix := 8) (pr := [7]) (d := (some 52)) (g := none) (F' := [(⟨2, [], .o 46 (.faddr (.t 3) 0)⟩, (.ptr nx 0)), (⟨1, [0], .o 45 (.load (.t 44))⟩, v2), (⟨0, [], .o 44 (.faddr (.t 10) 1)⟩, (.ptr n10 1))]) (o := (.bslice 1 1 [(.int .i64 0)] [(0, 1, (.t 51))])) (o_bslice (fill_cons eZ rfl rfl fill_nil)) rfl (by kernel_rfl) (by kernel_rfl) (by kernel_rfl) (by kernel_rfl) (fun t20 (hh21 : hv t20 = upd (hv t18) ((nv + 1) + 1) (some (.row [(.int .i64 x.wide)] true))) => ⟨?_, ?_⟩)
   · exact (all_cons_ (still_op rfl rfl (o_faddr (off := 0) (eV (z1 (z2 (z8 (z8 q3)))))) (aeq_flat rfl)) (all_cons_ (still_op rfl rfl (o_load (eV (z8 ds)) (lN hh21 (lS hh19)) rfl) (aeq_flat hO2.flat)) (all_cons_ (still_op rfl rfl (o_faddr (off := 1) (eV (z1 (z2 (z8 (z8 q10)))))) (aeq_flat rfl)) all_nil_)))
   refine d_heap (ix := 9) (pr := [1, 8]) (d := (some 53)) (g := none) (F' := [(⟨2, [], .o 46 (.faddr (.t 3) 0)⟩, (.ptr nx 0))]) (o := (.app 1 (.t 45) (.t 52))) (o_appE (eV (z1 (z2 (z4 ds)))) eZ ((hO2.keep (nx' := (((nv + 1) + 1) + 1)) (show Keep tv t20 nv (fun b => b = a1 ∨ b = n10) from Keep.upd (Keep.upd (Keep.trans (Keep.upd (Keep.refl tv nv _) hh17 (by first | exact .inl (by omega) | (right; first | exact rfl | (show _ ∨ _; omega) | omega))) hka (by omega) ((fun _ _ h => .inl h))) hh19 (by first | exact .inl (by omega) | (right; first | exact rfl | (show _ ∨ _; omega) | omega))) hh21 (by first | exact .inl (by omega) | (right; first | exact rfl | (show _ ∨ _; omega) | omega))) (by omega) (by omega)).app (lS hh21) rfl rfl (by omega))) rfl (by kernel_rfl) (by kernel_rfl) (by kernel_rfl) (by kernel_rfl) (fun tb ⟨hO2b, hkd⟩ => ⟨?_, ?_⟩)
   · exact (all_cons_ (still_op rfl rfl (o_faddr (off := 0) (eV (z4 (z8 (z8 q3))))) (aeq_flat rfl)) all_nil_)
   refine eO 10 rfl (o_faddr (off := 1) (eV (z4 (z8 (z8 q10))))) ?_
   refine d_heap (ix := 11) (pr := [10, 9, 9, 0, 1, 2, 3, 4, 5, 6, 7, 8, 9]) (d := none) (g := none) (F' := []) (o := (.store 1 (.t 54) (.t 53))) (o_store (n := 1) eZ (eV (z1 ds)) (Keep.look hkd (by omega) (fun h_ => absurd (show n10 = a2 from h_) (by omega)) (lN hh21 (lS hh19))) rfl rfl (leb rfl)) rfl (by kernel_rfl) (by kernel_rfl) (by kernel_rfl) (by kernel_rfl) (fun t22 (hh23 : hv t22 = upd (hv tb) n10 (some (.row [(.slice (nv + 1) 0 (i + 1) (i + 1) 1 false), (.slice (((nv + 1) + 1) + 1) 0 (i + 1) (i + 1) 1 false), (.slice P1 0 ns.length ns.length 1 false), .nslice] true))) => ⟨?_, ?_⟩)
   · exact all_nil_
   refine e_done (k_reg (rO (o_addN (a := i) (b := 1) (eV (z2 (z4 (z8 (z8 q35))))) ev_c (by omega)) (m1 ds (r_nil ?_))))
   have hKx := (show Keep tv t22 nv (fun b => b = a1 ∨ b = a2 ∨ b = n10) from Keep.upd (Keep.trans (Keep.upd (Keep.upd (Keep.trans (Keep.upd (Keep.refl tv nv _) hh17 (by first | exact .inl (by omega) | (right; first | exact rfl | (show _ ∨ _; omega) | omega))) hka (by omega) ((fun _ _ h => .inl h))) hh19 (by first | exact .inl (by omega) | (right; first | exact rfl | (show _ ∨ _; omega) | omega))) hh21 (by first | exact .inl (by omega) | (right; first | exact rfl | (show _ ∨ _; omega) | omega))) hkd (by omega) ((fun _ _ h => .inr (.inl h)))) hh23 (by first | exact .inl (by omega) | (right; first | exact rfl | (show _ ∨ _; omega) | omega)))
   exact ⟨ts.length - (i + 1), by omega, i + 1, _, _, _, _, _, _, by omega, ⟨(z8 (z8 (z8 q1))), (z8 (z8 (z8 q2))), (z8 (z8 (z8 q3))), (z8 (z8 (z8 q6))), (z8 (z8 (z8 q9))), (z8 (z8 (z8 q10))), (z8 (z8 (z8 q33))), (z8 (z8 (z8 q34))), ds⟩, (lS hh23), hO1b.keep (W := fun b => b = a2 ∨ b = n10) (show Keep ta t22 ((nv + 1) + 1) (fun b => b = a2 ∨ b = n10) from Keep.upd (Keep.trans (Keep.upd (Keep.upd (Keep.refl ta ((nv + 1) + 1) _) hh19 (by first | exact .inl (by omega) | (right; first | exact rfl | (show _ ∨ _; omega) | omega))) hh21 (by first | exact .inl (by omega) | (right; first | exact rfl | (show _ ∨ _; omega) | omega))) hkd (by omega) ((fun _ _ h => .inl h))) hh23 (by first | exact .inl (by omega) | (right; first | exact rfl | (show _ ∨ _; omega) | omega))) (by omega) (by omega), hO2b.keep (W := fun b => b = n10) (show Keep tb t22 ((((nv + 1) + 1) + 1) + 1) (fun b => b = n10) from Keep.upd (Keep.refl tb ((((nv + 1) + 1) + 1) + 1) _) hh23 (by first | exact .inl (by omega) | (right; first | exact rfl | (show _ ∨ _; omega) | omega))) (by omega) (by omega), .inr (by omega), .inr (by omega), by omega, (lN hh23 (Keep.look hkd (by omega) (fun h_ => absurd (show (nx + 1) = a2 from h_) (by omega)) (lN hh21 (lN hh19 (Keep.look hka (by omega) (fun h_ => absurd (show (nx + 1) = a1 from h_) (by omega)) (lN hh17 h6r)))))), (lN hh23 (Keep.look hkd (by omega) (fun h_ => absurd (show nx = a2 from h_) (by omega)) (lN hh21 (lN hh19 (Keep.look hka (by omega) (fun h_ => absurd (show nx = a1 from h_) (by omega)) (lN hh17 h0r)))))), (lN hh23 (Keep.look hkd (by omega) (fun h_ => absurd (show cb = a2 from h_) (by omega)) (lN hh21 (lN hh19 (Keep.look hka (by omega) (fun h_ => absurd (show cb = a1 from h_) (by omega)) (lN hh17 hcr)))))), hS2.keep hKx (fun b h_ => by have e_ : b = a1 ∨ b = a2 ∨ b = n10 := h_; omega) (by omega), hL3.keep hKx (by omega) (fun b hb_ h_ => by have e_ : b = a1 ∨ b = a2 ∨ b = n10 := h_; omega), by omega, kU (Keep.trans (kU (kU (Keep.trans (kU (hkv) hh17) hka (by omega) ((fun b hb h_ => absurd (show b = a1 from h_) (by omega)))) hh19) hh21) hkd (by omega) ((fun b hb h_ => absurd (show b = a2 from h_) (by omega)))) hh23, by omega⟩
 refine k_exit (exK_same (k_seq (k_reg (m1 (z1 q9) (r_call (w_callF (evs_cons eZ evs_nil)) rfl (WF.mono (ports_ok hS2 hL3 (by omega)) ?_))))))
 rintro _ t24 n25 ⟨P2, rfl, hP2a, hP2b, hrP2, hn_P2, hk_P2⟩
 refine m1 ds (r_nil (k_seq (k_seq (k_reg (rO (o_mov ev_c) (rO (o_mov ev_c) (r_nil (k_block ?_))))))))
 have hs2 := hS2.hs
 have hLAW : LA < n10 := by omega
 refine k_loop (fun mm Tw tw nw => ∃ (k c j D LB : Nat) (sv qv lv : AV) (now : Int), (Tw.get 1 = some sv ∧ Tw.get 2 = some (.int .i64 1048576) ∧ Tw.get 3 = some (.ptr nx 0) ∧ Tw.get 6 = some (.ptr (nx + 1) 0) ∧ Tw.get 9 = some (.ptr R 0) ∧ Tw.get 10 = some (.ptr n10 0) ∧ Tw.get 13 = some (.slice P2 0 ns.length ns.length 1 false) ∧ Tw.get 14 = some (.int .i64 now) ∧ Tw.get 15 = some (.int .i64 ((c : Nat) : Int))) ∧ k ≤ ns.length ∧ ((k = 0 ∧ sv = (.slice cb 0 1 1 3 true)) ∨ (0 < k ∧ sv = (.slice cb 3 0 0 3 true))) ∧ ST tw nw n6 R V LA DL D vn vt ((ts.length : Nat) : Int) dlv wv qv ns.length k j dz ∧ CM tw nw nx n10 LB P2 n6 cb vn vt v1 v2 (.slice P1 0 ns.length ns.length 1 false) lv ((ts.length : Nat) : Int) t0 ns.length k ns ts dz ∧ ((k = 0 ∧ (now = t0 ∨ now = 0 ∧ c = 0)) ∨ (0 < k ∧ k < ns.length ∧ now = tS t0 dz k) ∨ (k = ns.length ∧ now = 1048577)) ∧ ((0 < k ∧ k < ns.length ∧ qv = .slice D 0 1 1 3 false ∧ hv tw D = some (.row [.int .i64 (tS t0 dz k), .int .i64 ((k : Nat) : Int), .str [49]] true)) ∨ ((k = 0 ∨ k = ns.length) ∧ QE tw nw D qv)) ∧ ((k < ns.length ∧ j = k) ∨ (k = ns.length ∧ j + 1 = k)) ∧ c ≤ k + 1 ∧ (n6 + 2 ≤ D ∧ (D < R ∨ P2 < D) ∧ D ≠ LB) ∧ nx ≤ nw ∧ Keep t tw nx (fun _ => False) ∧ ((mm + 2 * k = 2 * ns.length ∧ (k = 0 → now = t0)) ∨ (mm + 2 * k = 2 * ns.length + 1 ∧ k = 0 ∧ now = 0))) (fun mm Tw tw nw hI => ?_) (2 * ns.length + 1) ⟨0, 0, 0, D, n6, (.slice cb 0 1 1 3 true), .nslice, .nslice, 0, ⟨(z2 (z4 q1)), (z2 (z4 q2)), (z2 (z4 q3)), (z2 (z4 q6)), (z2 (z4 q9)), (z2 (z4 q10)), (z2 ds), (z1 ds), ds⟩, by omega, .inl ⟨rfl, rfl⟩, hS2.keep (show Keep tv t24 nv (fun _ => False) from Keep.trans kR hk_P2 (Nat.le_refl _) (fun _ _ h => h.elim)) (fun _ h => h.elim) (by omega), ⟨(Keep.look hk_P2 (by omega) id h0r), (Keep.look hk_P2 (by omega) id h6r), (Keep.look hk_P2 (by omega) id hW), ⟨by omega, .inl ⟨rfl, rfl, rfl⟩, rfl⟩, hrP2, hL3.keep (show Keep tv t24 nv (fun _ => False) from Keep.trans kR hk_P2 (Nat.le_refl _) (fun _ _ h => h.elim)) (by omega) (fun _ _ h => h), (Keep.look hk_P2 (by omega) id hcr), by omega⟩, .inl ⟨rfl, .inr ⟨rfl, rfl⟩⟩, .inr ⟨.inl rfl, ⟨by omega, .inl rfl⟩⟩, .inl ⟨by omega, rfl⟩, by omega, by omega, by omega, Keep.trans (hkv) hk_P2 (by omega) (fun d _ h => h), .inr ⟨rfl, rfl, rfl⟩⟩
 obtain ⟨k, c, j, D, LB, sv, qv, lv, now, ⟨q1, q2, q3, q6, q9, q10, q13, q14, q15⟩, hkn, hsv, hS3, hCM, hnow, hq, hj, hck, hDD, hnw, hkw, hmm⟩ := hI
 have hs3 := hS3.hs
 have hlt := hCM.lt
 have hTk := hlim k
 have hkq : (0 < k ∧ k < ns.length) ∨ k = 0 ∨ k = ns.length := by omega
 replace hmm := hid hmm
 as_aux_lemma =>
   refine k_seq (k_seq (k_reg (m1 q14 (m1 (z1 q2) (rO (o_leq (eV (z1 ds)) eZ) (r_nil ?_))))))
   refine k_in eZ (fun hc26 => ?_) (fun hc26 => ?_)
   · refine k_skip (k_seq (k_block (k_seq (k_seq (k_reg (m1 (z1 (z2 q15)) (rO (o_eql eZ ev_c) (r_nil ?_))))))))
     refine k_if eZ (fun hc27 => ?_) (fun hc27 => ?_)
     · refine k_seq ?_
       exfalso; omega
     refine k_skip (k_seq ?_)
     have hkl : k < ns.length := by omega
     refine k_cut (fun T_ t_ n_ => ∃ (k1 : Nat) (qv1 : AV), (T_.get 1 = some sv ∧ T_.get 2 = some (.int .i64 1048576) ∧ T_.get 3 = some (.ptr nx 0) ∧ T_.get 6 = some (.ptr (nx + 1) 0) ∧ T_.get 9 = some (.ptr R 0) ∧ T_.get 10 = some (.ptr n10 0) ∧ T_.get 13 = some (.slice P2 0 ns.length ns.length 1 false) ∧ T_.get 14 = some (.int .i64 now) ∧ T_.get 15 = some (.int .i64 ((c : Nat) : Int))) ∧ ((0 < k ∧ k1 = k + 1) ∨ (k = 0 ∧ k1 = 0)) ∧ ST t_ n_ n6 R V LA DL D vn vt ((ts.length : Nat) : Int) dlv wv qv1 ns.length k1 j dz ∧ QE t_ n_ D qv1 ∧ CM t_ n_ nx n10 LB P2 n6 cb vn vt v1 v2 (.slice P1 0 ns.length ns.length 1 false) lv ((ts.length : Nat) : Int) t0 ns.length k ns ts dz ∧ nx ≤ n_ ∧ Keep t t_ nx (fun _ => False)) ?_ ?_
     · skip
       as_aux_lemma =>
         refine k_block (k_loop (fun mm Td td nd => ∃ (k1 : Nat) (qv1 : AV), (Td.get 1 = some sv ∧ Td.get 2 = some (.int .i64 1048576) ∧ Td.get 3 = some (.ptr nx 0) ∧ Td.get 6 = some (.ptr (nx + 1) 0) ∧ Td.get 9 = some (.ptr R 0) ∧ Td.get 10 = some (.ptr n10 0) ∧ Td.get 13 = some (.slice P2 0 ns.length ns.length 1 false) ∧ Td.get 14 = some (.int .i64 now) ∧ Td.get 15 = some (.int .i64 ((c : Nat) : Int))) ∧ ((k = k1 ∧ qv = qv1 ∧ ((0 < k ∧ qv1 = .slice D 0 1 1 3 false ∧ hv td D = some (.row [.int .i64 (tS t0 dz k), .int .i64 ((k : Nat) : Int), .str [49]] true)) ∨ (k = 0 ∧ QE td nd D qv1))) ∨ (0 < k ∧ k1 = k + 1 ∧ QE td nd D qv1)) ∧ ST td nd n6 R V LA DL D vn vt ((ts.length : Nat) : Int) dlv wv qv1 ns.length k1 j dz ∧ CM td nd nx n10 LB P2 n6 cb vn vt v1 v2 (.slice P1 0 ns.length ns.length 1 false) lv ((ts.length : Nat) : Int) t0 ns.length k ns ts dz ∧ nx ≤ nd ∧ Keep t td nx (fun _ => False) ∧ mm + k1 = k + 1) (fun mm Td td nd hI => ?_) (1) ⟨k, qv, ⟨(z1 (z4 q1)), (z1 (z4 q2)), (z1 (z4 q3)), (z1 (z4 q6)), (z1 (z4 q9)), (z1 (z4 q10)), (z1 (z4 q13)), (z1 (z4 q14)), (z1 (z4 q15))⟩, .inl ⟨rfl, rfl, hq.elim (fun h => .inl ⟨h.1, h.2.2.1, h.2.2.2⟩) (fun h => .inr ⟨by omega, h.2⟩)⟩, hS3, hCM, by omega, hkw, by omega⟩)
         obtain ⟨k1, qv1, ⟨u1, u2, u3, u6, u9, u10, u13, u14, u15⟩, hf, hS4, hCM4, hnd, hkd, hmd⟩ := hI
         refine k_seq (k_seq ?_)
         have hs4 := hS4.hs
         have hlt4 := hCM4.lt
         rcases hf with ⟨rfl, rfl, hfa | ⟨hfz, hQE⟩⟩ | ⟨hfz, hfk, hQE⟩
         · skip
           as_aux_lemma =>
             obtain ⟨hfa1, hfa2, hfa3⟩ := hfa
             rw [hfa2] at hS4
             have hfa : 0 < k ∧ True := ⟨hfa1, trivial⟩
             refine k_reg (m1 u9 (rO (o_nilck eZ) (rO (o_faddr (off := 9) eZ) (rO (o_load eZ hS4.hR rfl) (rO (o_len_slice eZ) (rO (dec_t (o_gtr eZ ev_c) (by simp)) (m1 ds (r_op (o_mov (eV (z1 (z2 (z4 u9))))) (want_on ds) (r_op (o_nilck eZ) (want_on (z1 ds)) (r_op (o_faddr (off := 9) eZ) (want_on (z2 ds)) (r_op (o_load eZ hS4.hR rfl) (want_on (z1 (z2 ds))) (r_op (o_iaddr (i := 0) eZ ev_c (by omega)) (want_on (z4 ds)) (r_op (o_faddr (off := 0) eZ) (want_on (z1 (z4 ds))) (r_op (o_load eZ hfa3 rfl) (want_on (z2 (z4 ds))) (r_op (o_mov (eV (z2 (z4 (z8 u14))))) (want_on (z1 (z2 (z4 ds)))) (r_op (o_eql (eV (z1 ds)) eZ) (want_on (z8 ds)) (rO (o_pick_t (eV (z1 (z8 ds))) eZ) (r_nil ?_))))))))))))))))))
             refine k_if eZ (fun hc28 => ?_) (fun hc28 => ?_)
             · refine k_skip (k_block (k_seq (k_reg (m1 (z1 (z8 (z8 u9))) (rO (o_nilck eZ) (rO (o_faddr (off := 9) eZ) (rO (o_iface eZ) (r_call (w_callF (evs_cons eZ evs_nil)) rfl (WF.mono (dhpop_ok (D := D) hS4.hR (by omega) hfa3 (by omega) (by omega)) ?_)))))))))
               rintro _ t29 n30 ⟨rfl, hR5, hD5, hn_p, hk_p⟩
               refine rO (o_tassert eZ) (r_heap (o_alloc) rfl (fun t31 (hh32 : hv t31 = upd (hv t29) n30 (some (.row [(.int .i64 0), (.int .i64 0), (.str [])] true))) => r_heap (o_store (n := 3) eZ (eV (z1 ds)) (lS hh32) rfl rfl (leb rfl)) rfl (fun t33 (hh34 : hv t33 = upd (hv t31) n30 (some (.row [(.int .i64 (tS t0 dz k)), (.int .i64 ((k : Nat) : Int)), (.str [49])] true))) => r_nil (k_draw (eO 0 rfl (o_mov (eV (z1 (z8 (z8 (z8 u9)))))) (eO 1 rfl (o_nilck eZ) (eO 2 rfl (o_faddr (off := 6) eZ) (eO 3 rfl (o_load eZ (lN hh34 (lN hh32 hR5)) rfl) (eO 4 rfl (o_faddr (off := 1) (eV (z1 (z4 ds)))) (eO 5 rfl (o_load eZ (lS hh34) rfl) (eO 6 rfl (o_faddr (off := 2) (eV (z1 (z2 (z4 ds))))) (eO 7 rfl (o_load eZ (lS hh34) rfl) (eO 8 rfl (o_iaddr (i := k) (eV (z4 ds)) (eV (z2 ds)) (by omega)) ?_)))))))))))))
               refine d_heap (ix := 9) (pr := [8, 7, 0, 1, 2, 3, 4, 5, 6, 7]) (d := none) (g := none) (F' := []) (o := (.store 1 (.t 97) (.t 96))) (o_storeS (o := 0 + k * 1) eZ (eV (z1 ds)) (lN hh34 (lN hh32 (Keep.look hk_p (by omega) (fun h_ => absurd (show V = R ∨ V = D from h_) (by omega)) hS4.hV))) (by rw [vS_len]; omega)) rfl (by kernel_rfl) (by kernel_rfl) (by kernel_rfl) (by kernel_rfl) (fun tv_35 hv_36 => ⟨?_, ?_⟩)
               · exact all_nil_
               refine e_done ?_
               have hKp := (show Keep td tv_35 nd (fun b => b = R ∨ b = D ∨ b = V) from Keep.upd (Keep.upd (Keep.upd (Keep.trans (Keep.refl td nd _) hk_p (by omega) ((fun _ _ h => h.elim .inl (fun h => .inr (.inl h))))) hh32 (by first | exact .inl (by omega) | (right; first | exact rfl | (show _ ∨ _; omega) | omega))) hh34 (by first | exact .inl (by omega) | (right; first | exact rfl | (show _ ∨ _; omega) | omega))) hv_36 (by first | exact .inl (by omega) | (right; first | exact rfl | (show _ ∨ _; omega) | omega)))
               exact ⟨0, by omega, k + 1, .slice D 0 0 1 3 false, ⟨(z1 (z2 (z8 (z8 (z8 (z8 u1)))))), (z1 (z2 (z8 (z8 (z8 (z8 u2)))))), (z1 (z2 (z8 (z8 (z8 (z8 u3)))))), (z1 (z2 (z8 (z8 (z8 (z8 u6)))))), (z1 (z2 (z8 (z8 (z8 (z8 u9)))))), (z1 (z2 (z8 (z8 (z8 (z8 u10)))))), (z1 (z2 (z8 (z8 (z8 (z8 u13)))))), (z1 (z2 (z8 (z8 (z8 (z8 u14)))))), (z1 (z2 (z8 (z8 (z8 (z8 u15))))))⟩, .inr ⟨hfa.1, rfl, ⟨by omega, .inr ⟨rfl, _, (lN hv_36 (lN hh34 (lN hh32 hD5))), rfl⟩⟩⟩, ⟨(lN hv_36 (lN hh34 (lN hh32 hR5))), (by have h_ := (lS hv_36); rw [show 0 + k * 1 = k by omega, vS_set (by omega)] at h_; exact h_), (lN hv_36 (lN hh34 (lN hh32 (Keep.look hk_p (by omega) (fun h_ => absurd (show LA = R ∨ LA = D from h_) (by omega)) hS4.hLA)))), hS4.hDL.elim .inl (fun h => .inr ⟨h.1, (hKp DL (by omega) (by omega)).trans h.2⟩), by omega, hS4.hn⟩, hCM4.keep hKp (fun b h_ => by have e_ : b = R ∨ b = D ∨ b = V := h_; omega) (by omega), by omega, kU (kU (kU (Keep.trans (hkd) hk_p (by omega) ((fun b hb h_ => by have e_ : b = R ∨ b = D := h_; omega))) hh32) hh34) hv_36, by omega⟩
             refine k_exit (exK_same ?_)
             exfalso; omega
         · skip
           as_aux_lemma =>
             refine k_reg (m1 u9 (rO (o_nilck eZ) (rO (o_faddr (off := 9) eZ) (rO (o_load eZ hS4.hR rfl) (rO (o_len_QE hQE eZ) (rO (dec_f (o_gtr eZ ev_c) (by simp)) (m1 ds (r_off (wN ds) (r_off (wN (z1 ds)) (r_off (wN (z2 ds)) (r_off (wN (z1 (z2 ds))) (r_off (wN (z4 ds)) (r_off (wN (z1 (z4 ds))) (r_off (wN (z2 (z4 ds))) (r_off (wN (z1 (z2 (z4 ds)))) (r_off (wN (z8 ds)) (rO (o_pick_f (eV (z1 (z8 ds))) ev_c) (r_nil (k_cond_f eZ (k_exit (exK_same ?_)))))))))))))))))))))
             exact ⟨_, _, ⟨(z1 (z8 (z8 u1))), (z1 (z8 (z8 u2))), (z1 (z8 (z8 u3))), (z1 (z8 (z8 u6))), (z1 (z8 (z8 u9))), (z1 (z8 (z8 u10))), (z1 (z8 (z8 u13))), (z1 (z8 (z8 u14))), (z1 (z8 (z8 u15)))⟩, by omega, hS4, hQE, hCM4, by omega, hkd⟩
         as_aux_lemma =>
           refine k_reg (m1 u9 (rO (o_nilck eZ) (rO (o_faddr (off := 9) eZ) (rO (o_load eZ hS4.hR rfl) (rO (o_len_QE hQE eZ) (rO (dec_f (o_gtr eZ ev_c) (by simp)) (m1 ds (r_off (wN ds) (r_off (wN (z1 ds)) (r_off (wN (z2 ds)) (r_off (wN (z1 (z2 ds))) (r_off (wN (z4 ds)) (r_off (wN (z1 (z4 ds))) (r_off (wN (z2 (z4 ds))) (r_off (wN (z1 (z2 (z4 ds)))) (r_off (wN (z8 ds)) (rO (o_pick_f (eV (z1 (z8 ds))) ev_c) (r_nil (k_cond_f eZ (k_exit (exK_same ?_)))))))))))))))))))))
           exact ⟨_, _, ⟨(z1 (z8 (z8 u1))), (z1 (z8 (z8 u2))), (z1 (z8 (z8 u3))), (z1 (z8 (z8 u6))), (z1 (z8 (z8 u9))), (z1 (z8 (z8 u10))), (z1 (z8 (z8 u13))), (z1 (z8 (z8 u14))), (z1 (z8 (z8 u15)))⟩, by omega, hS4, hQE, hCM4, by omega, hkd⟩
     as_aux_lemma =>
       rintro T_2 t_2 n_2 ⟨k1, qv1, ⟨s1, s2, s3, s6, s9, s10, s13, s14, s15⟩, hk1, hS4, hQ4, hCM4, hn4, hk4⟩
       clear hq hkq hs3 hlt hS3 hCM
       have hs4 := hS4.hs
       have hlt4 := hCM4.lt
       refine k_seq ?_
       refine k_cut (fun T_ t_ n_ => ∃ (k2 : Nat) (sv2 : AV), (T_.get 1 = some sv2 ∧ T_.get 2 = some (.int .i64 1048576) ∧ T_.get 3 = some (.ptr nx 0) ∧ T_.get 6 = some (.ptr (nx + 1) 0) ∧ T_.get 9 = some (.ptr R 0) ∧ T_.get 10 = some (.ptr n10 0) ∧ T_.get 13 = some (.slice P2 0 ns.length ns.length 1 false) ∧ T_.get 14 = some (.int .i64 now) ∧ T_.get 15 = some (.int .i64 ((c : Nat) : Int))) ∧ ((k2 = k + 1 ∧ now = tS t0 dz k ∧ sv2 = (.slice cb 3 0 0 3 true)) ∨ (k2 = 0 ∧ k = 0 ∧ now ≠ t0 ∧ sv2 = (.slice cb 0 1 1 3 true))) ∧ ST t_ n_ n6 R V LA DL D vn vt ((ts.length : Nat) : Int) dlv wv qv1 ns.length k2 j dz ∧ QE t_ n_ D qv1 ∧ CM t_ n_ nx n10 LB P2 n6 cb vn vt v1 v2 (.slice P1 0 ns.length ns.length 1 false) lv ((ts.length : Nat) : Int) t0 ns.length k ns ts dz ∧ nx ≤ n_ ∧ Keep t t_ nx (fun _ => False)) ?_ ?_
       · skip
         as_aux_lemma =>
           refine k_block (k_loop (fun mm Te te ne => ∃ (k2 : Nat) (sv2 : AV), (Te.get 1 = some sv2 ∧ Te.get 2 = some (.int .i64 1048576) ∧ Te.get 3 = some (.ptr nx 0) ∧ Te.get 6 = some (.ptr (nx + 1) 0) ∧ Te.get 9 = some (.ptr R 0) ∧ Te.get 10 = some (.ptr n10 0) ∧ Te.get 13 = some (.slice P2 0 ns.length ns.length 1 false) ∧ Te.get 14 = some (.int .i64 now) ∧ Te.get 15 = some (.int .i64 ((c : Nat) : Int))) ∧ ((k1 = k2 ∧ k = 0 ∧ k1 = 0 ∧ sv2 = (.slice cb 0 1 1 3 true)) ∨ (0 < k2 ∧ k2 = k + 1 ∧ (k = 0 → now = t0) ∧ sv2 = (.slice cb 3 0 0 3 true))) ∧ ST te ne n6 R V LA DL D vn vt ((ts.length : Nat) : Int) dlv wv qv1 ns.length k2 j dz ∧ QE te ne D qv1 ∧ CM te ne nx n10 LB P2 n6 cb vn vt v1 v2 (.slice P1 0 ns.length ns.length 1 false) lv ((ts.length : Nat) : Int) t0 ns.length k ns ts dz ∧ nx ≤ ne ∧ Keep t te nx (fun _ => False) ∧ mm + k2 = k + 1) (fun mm Te te ne hI => ?_) ((k + 1 - k1)) ⟨k1, sv, ⟨s1, s2, s3, s6, s9, s10, s13, s14, s15⟩, hsv.elim (fun h => .inl ⟨rfl, h.1, by omega, h.2⟩) (fun h => .inr ⟨by omega, by omega, fun h_ => by omega, h.2⟩), hS4, hQ4, hCM4, by omega, hk4, by omega⟩)
           obtain ⟨k2, sv2, ⟨x1, x2, x3, x6, x9, x10, x13, x14, x15⟩, hf6, hS6, hQ6, hCM6, hne, hke, hme⟩ := hI
           refine k_seq (k_seq ?_)
           have hs6 := hS6.hs
           have hlt6 := hCM6.lt
           have hT0 := tS_zero t0 dz
           rcases hf6 with ⟨hf1, hf2, hf3, hsve⟩ | ⟨hf1, hf2, hf3, hsve⟩
           · skip
             as_aux_lemma =>
               have hsv0 := hsve
               subst hsv0
               have hkz : k2 = 0 := by omega
               subst hkz
               refine k_reg (m1 x1 (rO (o_len_slice eZ) (rO (dec_t (o_gtr eZ ev_c) (by simp)) (m1 ds (r_op (o_mov (eV (z4 x1))) (want_on ds) (r_op (o_iaddr (i := 0) eZ ev_c (by omega)) (want_on (z1 ds)) (r_op (o_faddr (off := 0) eZ) (want_on (z2 ds)) (r_op (o_load eZ hCM6.hC rfl) (want_on (z1 (z2 ds))) (r_op (o_mov (eV (z8 x14))) (want_on (z4 ds)) (r_op (o_eql (eV (z1 ds)) eZ) (want_on (z1 (z4 ds))) (rO (o_pick_t (eV (z2 (z4 ds))) eZ) (r_nil ?_))))))))))))
               refine k_if eZ (fun hc37 => ?_) (fun hc37 => ?_)
               · refine k_skip (k_block (k_seq (k_draw (eO 0 rfl (o_mov (eV (z1 (z2 (z8 x9))))) (eO 1 rfl (o_nilck eZ) (eO 2 rfl (o_faddr (off := 6) eZ) (eO 3 rfl (o_load eZ hS6.hR rfl) (eO 4 rfl (o_faddr (off := 1) (eV (z1 (z2 (z4 (z8 x3)))))) (eO 5 rfl (o_load eZ hCM6.h0 rfl) (eO 6 rfl (o_mov (eV (z1 (z8 (z8 x1))))) (eO 7 rfl (o_iaddr (i := 0) eZ ev_c (by omega)) (eO 8 rfl (o_faddr (off := 1) eZ) (eO 9 rfl (o_load eZ hCM6.hC rfl) ?_)))))))))))))
                 obtain ⟨dT, oT, cT, exT, wrT, rT, hTe, hTd, hTr, hTg⟩ := RowI.at hCM6.hL.hT (hCM6.hL.tg 0 (by omega))
                 refine eO 10 rfl (o_iaddrE (i := 0) (eV (z4 ds)) hTe eZ (by omega)) (eO 11 rfl (o_load eZ hTr hTg) (eO 12 rfl (o_mov (eV (z1 (z2 (z4 (z8 (z8 x1))))))) (eO 13 rfl (o_iaddr (i := 0) eZ ev_c (by omega)) (eO 14 rfl (o_faddr (off := 2) eZ) (eO 15 rfl (o_load eZ hCM6.hC rfl) (eO 16 rfl (o_iaddr (i := 0) (eV (z4 (z8 ds))) (eV (z4 ds)) (by omega)) ?_))))))
                 refine d_heap (ix := 17) (pr := [16, 15, 0, 1, 2, 3, 4, 5, 6, 7, 8, 9, 10, 11, 12, 13, 14, 15]) (d := none) (g := none) (F' := []) (o := (.store 1 (.t 125) (.t 124))) (o_storeS (o := 0 + 0 * 1) eZ (eV (z1 ds)) hS6.hV (by rw [vS_len]; omega)) rfl (by kernel_rfl) (by kernel_rfl) (by kernel_rfl) (by kernel_rfl) (fun tv_38 hv_39 => ⟨?_, ?_⟩)
                 · exact all_nil_
                 refine e_done (k_reg (m1 (z1 (z4 (z8 (z8 (z8 x1))))) (rO (o_cs1 eZ) (m1 ds (r_nil ?_)))))
                 have hKp := (show Keep te tv_38 ne (fun b => b = V) from Keep.upd (Keep.refl te ne _) hv_39 (by first | exact .inl (by omega) | (right; first | exact rfl | (show _ ∨ _; omega) | omega)))
                 exact ⟨0, by omega, 1, _, ⟨ds, (z8 (z8 (z8 (z8 x2)))), (z8 (z8 (z8 (z8 x3)))), (z8 (z8 (z8 (z8 x6)))), (z8 (z8 (z8 (z8 x9)))), (z8 (z8 (z8 (z8 x10)))), (z8 (z8 (z8 (z8 x13)))), (z8 (z8 (z8 (z8 x14)))), (z8 (z8 (z8 (z8 x15))))⟩, .inr ⟨by omega, by omega, fun _ => by omega, rfl⟩, ⟨(lN hv_39 hS6.hR), (by have h_ := (lS hv_39); rw [show 0 + 0 * 1 = 0 from rfl, vS_set (by omega)] at h_; exact h_), (lN hv_39 hS6.hLA), hS6.hDL.elim .inl (fun h => .inr ⟨h.1, (hKp DL (by omega) (by omega)).trans h.2⟩), by omega, hS6.hn⟩, hQ6.keep hKp (by omega) (by omega), hCM6.keep hKp (fun b h_ => by have e_ : b = V := h_; omega) (by omega), by omega, kU (hke) hv_39, by omega⟩
               refine k_exit (exK_same ?_)
               exact ⟨_, _, ⟨(z1 (z2 (z8 x1))), (z1 (z2 (z8 x2))), (z1 (z2 (z8 x3))), (z1 (z2 (z8 x6))), (z1 (z2 (z8 x9))), (z1 (z2 (z8 x10))), (z1 (z2 (z8 x13))), (z1 (z2 (z8 x14))), (z1 (z2 (z8 x15)))⟩, .inr ⟨by omega, by omega, by omega, hsve⟩, hS6, hQ6, hCM6, by omega, hke⟩
           as_aux_lemma =>
             have hsv0 := hsve
             subst hsv0
             have hfb : tS t0 dz k = tS t0 dz k := rfl
             refine k_reg (m1 x1 (rO (o_len_slice eZ) (rO (dec_f (o_gtr eZ ev_c) (by simp)) (m1 ds (r_off (wN ds) (r_off (wN (z1 ds)) (r_off (wN (z2 ds)) (r_off (wN (z1 (z2 ds))) (r_off (wN (z4 ds)) (r_off (wN (z1 (z4 ds))) (rO (o_pick_f (eV (z2 (z4 ds))) ev_c) (r_nil (k_cond_f eZ (k_exit (exK_same ?_)))))))))))))))
             exact ⟨_, _, ⟨(z1 (z2 (z8 x1))), (z1 (z2 (z8 x2))), (z1 (z2 (z8 x3))), (z1 (z2 (z8 x6))), (z1 (z2 (z8 x9))), (z1 (z2 (z8 x10))), (z1 (z2 (z8 x13))), (z1 (z2 (z8 x14))), (z1 (z2 (z8 x15)))⟩, .inl ⟨by omega, Or.elim (Nat.eq_zero_or_pos k) (fun hk0 => by rw [hk0, tS_zero]; exact hf3 hk0) (fun hk0 => by omega), hsve⟩, hS6, hQ6, hCM6, by omega, hke⟩
       as_aux_lemma =>
         clear hS4 hQ4 hCM4 hk4 hlt4 hs4 hk1 hsv
         rintro T_3 t_3 n_3 ⟨k2, sv2, ⟨p1, p2, p3, p6, p9, p10, p13, p14, p15⟩, hk2, hS4, hQ4, hCM4, hn4, hk4⟩
         have hs4 := hS4.hs
         have hlt4 := hCM4.lt
         have hk2l : k2 = k + 1 ∨ (k2 = 0 ∧ k = 0) := by omega
         have hn5 : 0 ≤ now ∧ now ≤ 400000 := by omega
         have hkj5 : (k2 = 0 ∧ j = 0) ∨ k2 = j + 1 := by omega
         replace hnow := hid hnow
         replace hj := hid hj
         have hkT : k2 = k + 1 → now = tS t0 dz k := fun h_ => hk2.elim (fun h => h.2.1) (fun h => absurd h.1 (by omega))
         replace hk2 := hid hk2
         refine k_seq (k_reg (m1 p9 (r_call (w_callF (evs_cons eZ evs_nil)) rfl (WF.mono (settle_ok hS4) ?_))))
         rintro _ t40 n41 ⟨rfl, hn_s, hk_s⟩
         refine r_nil (k_seq (k_seq (k_reg (m1 (z2 p9) (r_call (w_callF (evs_cons eZ evs_nil)) rfl (WF.mono (ports_ok (hS4.keep (nx' := n41) (show Keep t_3 t40 n_3 (fun b => False) from Keep.trans (Keep.refl t_3 n_3 _) hk_s (by omega) (fun d _ h => h.elim)) (fun _ h => h.elim) (by omega)) (hCM4.hL.keep (show Keep t_3 t40 n_3 (fun b => False) from Keep.trans (Keep.refl t_3 n_3 _) hk_s (by omega) (fun d _ h => h.elim)) (by omega) (fun _ _ h => h)) (by omega)) ?_))))))
         rintro _ t42 n43 ⟨P3, rfl, hP3a, hP3b, hrP3, hn_P3, hk_P3⟩
         refine rO (o_len_slice eZ) (rO (o_mov ev_c) (r_nil (k_block ?_)))
         have hLBn := hCM4.hO.lt
         have hPP : P2 < P3 ∧ LB < P3 ∧ LA < P3 ∧ D < P3 := by omega
         refine k_loop (fun mm Tg tg ng => ∃ (i ke LB2 : Nat) (lv2 : AV), i ≤ ns.length ∧ (Tg.get 1 = some sv2 ∧ Tg.get 2 = some (.int .i64 1048576) ∧ Tg.get 3 = some (.ptr nx 0) ∧ Tg.get 6 = some (.ptr (nx + 1) 0) ∧ Tg.get 9 = some (.ptr R 0) ∧ Tg.get 10 = some (.ptr n10 0) ∧ Tg.get 13 = some (.slice P2 0 ns.length ns.length 1 false) ∧ Tg.get 14 = some (.int .i64 now) ∧ Tg.get 15 = some (.int .i64 ((c : Nat) : Int)) ∧ Tg.get 131 = some (.slice P3 0 ns.length ns.length 1 false) ∧ Tg.get 132 = some (.int .i64 ((ns.length : Nat) : Int)) ∧ Tg.get 133 = some (.int .i64 ((i : Nat) : Int))) ∧ ((ke = k ∧ (k2 = k + 1 → i ≤ k)) ∨ (k2 = k + 1 ∧ ke = k + 1 ∧ k < i)) ∧ (LB2 = LB ∨ P3 < LB2) ∧ ST tg ng n6 R V LA DL D vn vt ((ts.length : Nat) : Int) dlv wv qv1 ns.length k2 j dz ∧ QE tg ng D qv1 ∧ CM tg ng nx n10 LB2 P2 n6 cb vn vt v1 v2 (.slice P1 0 ns.length ns.length 1 false) lv2 ((ts.length : Nat) : Int) t0 ns.length ke ns ts dz ∧ hv tg P3 = some (.row (strs (vS ns.length k2)) true) ∧ P3 < ng ∧ nx ≤ ng ∧ Keep t tg nx (fun _ => False) ∧ mm + i = ns.length) (fun mm Tg tg ng hI => ?_) (ns.length) ⟨0, k, LB, lv, by omega, ⟨(z2 (z4 p1)), (z2 (z4 p2)), (z2 (z4 p3)), (z2 (z4 p6)), (z2 (z4 p9)), (z2 (z4 p10)), (z2 (z4 p13)), (z2 (z4 p14)), (z2 (z4 p15)), (z2 ds), (z1 ds), ds⟩, .inl ⟨rfl, fun _ => by omega⟩, .inl rfl, hS4.keep (show Keep t_3 t42 n_3 (fun b => False) from Keep.trans (Keep.trans (Keep.refl t_3 n_3 _) hk_s (by omega) (fun d _ h => h.elim)) hk_P3 (by omega) (fun d _ h => h.elim)) (fun _ h => h.elim) (by omega), hQ4.keep (show Keep t_3 t42 n_3 (fun b => False) from Keep.trans (Keep.trans (Keep.refl t_3 n_3 _) hk_s (by omega) (fun d _ h => h.elim)) hk_P3 (by omega) (fun d _ h => h.elim)) (fun h => h) (by omega), hCM4.keep (show Keep t_3 t42 n_3 (fun b => False) from Keep.trans (Keep.trans (Keep.refl t_3 n_3 _) hk_s (by omega) (fun d _ h => h.elim)) hk_P3 (by omega) (fun d _ h => h.elim)) (fun _ h => h.elim) (by omega), hrP3, by omega, by omega, Keep.trans (Keep.trans (hk4) hk_s (by omega) (fun d _ h => h)) hk_P3 (by omega) (fun d _ h => h), by omega⟩
         obtain ⟨i, ke, LB2, lv2, hi, ⟨y1, y2, y3, y6, y9, y10, y13, y14, y15, y131, y132, y133⟩, hke2, hlb, hS7, hQ7, hC7, hr3, hP3n, hng, hkg, hmg⟩ := hI
         clear hs4 hlt4
         have hs7 := hS7.hs
         have hlt7 := hC7.lt
         as_aux_lemma =>
           refine k_seq (k_reg (rO (o_lss (eV y133) (eV y132)) (r_nil (k_seq ?_))))
           refine k_if eZ (fun hc44 => ?_) (fun hc44 => ?_)
           · refine k_skip (k_seq (k_block (k_seq ?_)))
             rcases (show (i < k2 ∧ i < ke) ∨ (k2 = k + 1 ∧ ke = k ∧ i = k) ∨ (k2 ≤ i ∧ ke ≤ i) by omega) with hc1 | hc1 | hc1
             · skip
               as_aux_lemma =>
                 refine k_reg (m1 (z1 y133) (rO (o_iaddr (i := i) (eV (z2 y131)) (eV (z2 y133)) (by omega)) ?_))
                 refine rO (o_load eZ hr3 (by simp only [Nat.zero_add, Nat.mul_one]; exact strs_get (vS_one (by omega) (by omega)))) ?_
                 refine m1 (z2 ds) (m1 (z1 ds) (r_nil (k_seq (k_reg (m1 ds (m1 (z1 (z2 (z4 y13))) (m1 (z1 (z2 ds)) (rO (o_iaddr (i := i) (eV (z1 ds)) eZ (by omega)) ?_))))))))
                 refine rO (o_load eZ hC7.hP (by simp only [Nat.zero_add, Nat.mul_one]; exact strs_get (vS_one (by omega) (by omega)))) ?_
                 refine rO (ndec_f (o_str_neq (eV (z4 ds)) eZ) (by decide)) (r_nil (k_cond_f eZ (k_skip (k_reg (rO (o_addN (a := i) (b := 1) (eV (z4 (z8 y133))) ev_c (by omega)) (m1 ds (r_nil ?_)))))))
                 have hKx := (show Keep tg tg ng (fun b => False) from Keep.refl tg ng _)
                 exact ⟨ns.length - (i + 1), by omega, i + 1, ke, LB2, lv2, by omega, ⟨(z2 (z4 (z8 y1))), (z2 (z4 (z8 y2))), (z2 (z4 (z8 y3))), (z2 (z4 (z8 y6))), (z2 (z4 (z8 y9))), (z2 (z4 (z8 y10))), (z2 (z4 (z8 y13))), (z2 (z4 (z8 y14))), (z2 (z4 (z8 y15))), (z2 (z4 (z8 y131))), (z2 (z4 (z8 y132))), ds⟩, by omega, hlb, hS7.keep hKx (fun _ h => h.elim) (by omega), hQ7.keep hKx (fun h => h) (by omega), hC7.keep hKx (fun _ h => h.elim) (by omega), hr3, by omega, by omega, hkg, by omega⟩
             · skip
               as_aux_lemma =>
                 refine k_reg (m1 (z1 y133) (rO (o_iaddr (i := i) (eV (z2 y131)) (eV (z2 y133)) (by omega)) ?_))
                 refine rO (o_load eZ hr3 (by simp only [Nat.zero_add, Nat.mul_one]; exact strs_get (vS_one (by omega) (by omega)))) ?_
                 refine m1 (z2 ds) (m1 (z1 ds) (r_nil (k_seq (k_reg (m1 ds (m1 (z1 (z2 (z4 y13))) (m1 (z1 (z2 ds)) (rO (o_iaddr (i := i) (eV (z1 ds)) eZ (by omega)) ?_))))))))
                 refine rO (o_load eZ hC7.hP (by simp only [Nat.zero_add, Nat.mul_one]; exact strs_get (vS_x (by omega) (by omega)))) ?_
                 refine rO (ndec_t (o_str_neq (eV (z4 ds)) eZ) (by decide)) (r_nil (k_cond_t eZ (k_seq (k_reg (rO (o_faddr (off := 3) (eV (z4 (z8 y10)))) (rO (o_load eZ hC7.hW rfl) (m1 (z2 (z4 (z8 y14))) (m1 (z2 (z8 ds)) (m1 (z2 (z8 ds)) (rO (o_build (fill_cons (eV (z2 ds)) rfl rfl (fill_cons (eV (z1 ds)) rfl rfl (fill_cons eZ rfl rfl fill_nil)))) (r_heap (o_bslice (fill_cons eZ rfl rfl fill_nil)) rfl (fun t45 (hh46 : hv t45 = upd (hv tg) ng (some (.row [(.int .i64 now), (.int .i64 ((i : Nat) : Int)), (.str [49])] true))) => ?_))))))))))))
                 refine r_heap (o_appE (eV (z1 (z4 ds))) eZ ((hC7.hO.keep (nx' := (ng + 1)) (show Keep tg t45 ng (fun b => False) from Keep.upd (Keep.refl tg ng _) hh46 (by first | exact .inl (by omega) | (right; first | exact rfl | (show _ ∨ _; omega) | omega))) (fun h => h) (by omega)).app (lS hh46) rfl rfl (by omega))) rfl (fun ta ⟨hO8, hka⟩ => ?_)
                 refine rO (o_faddr (off := 3) (eV (z4 (z8 (z8 y10))))) (r_heap (o_store (n := 1) eZ (eV (z1 ds)) (Keep.look hka (by omega) (fun h_ => absurd (show n10 = LB2 from h_) (by omega)) (lN hh46 hC7.hW)) rfl rfl (leb rfl)) rfl (fun t47 (hh48 : hv t47 = upd (hv ta) n10 (some (.row [v1, v2, (.slice P1 0 ns.length ns.length 1 false), (.slice (ng + 1) 0 (ke + 1) (ke + 1) 3 false)] true))) => r_nil (k_reg (m1 (z2 (z4 (z8 (z8 y13)))) (m1 (z2 (z8 (z8 ds))) (m1 (z2 (z8 (z8 ds))) (rO (o_iaddr (i := i) (eV (z2 ds)) (eV (z1 ds)) (by omega)) ?_)))))))
                 refine r_heap (o_storeS (o := 0 + i * 1) eZ (eV (z1 ds)) (lN hh48 (Keep.look hka (by omega) (fun h_ => absurd (show P2 = LB2 from h_) (by omega)) (lN hh46 hC7.hP))) (by rw [vS_len]; omega)) rfl (fun tv_49 hv_50 => ?_)
                 refine r_nil (k_reg (rO (o_addN (a := i) (b := 1) (eV (z1 (z2 (z8 (z8 (z8 y133)))))) ev_c (by omega)) (m1 ds (r_nil ?_))))
                 have hKx := (show Keep tg tv_49 ng (fun b => b = LB2 ∨ b = n10 ∨ b = P2) from Keep.upd (Keep.upd (Keep.trans (Keep.upd (Keep.refl tg ng _) hh46 (by first | exact .inl (by omega) | (right; first | exact rfl | (show _ ∨ _; omega) | omega))) hka (by omega) ((fun _ _ h => .inl h))) hh48 (by first | exact .inl (by omega) | (right; first | exact rfl | (show _ ∨ _; omega) | omega))) hv_50 (by first | exact .inl (by omega) | (right; first | exact rfl | (show _ ∨ _; omega) | omega)))
                 exact ⟨ns.length - (i + 1), by omega, i + 1, k + 1, (ng + 1), _, by omega, ⟨(z1 (z4 (z8 (z8 (z8 y1))))), (z1 (z4 (z8 (z8 (z8 y2))))), (z1 (z4 (z8 (z8 (z8 y3))))), (z1 (z4 (z8 (z8 (z8 y6))))), (z1 (z4 (z8 (z8 (z8 y9))))), (z1 (z4 (z8 (z8 (z8 y10))))), (z1 (z4 (z8 (z8 (z8 y13))))), (z1 (z4 (z8 (z8 (z8 y14))))), (z1 (z4 (z8 (z8 (z8 y15))))), (z1 (z4 (z8 (z8 (z8 y131))))), (z1 (z4 (z8 (z8 (z8 y132))))), ds⟩, .inr ⟨by omega, rfl, by omega⟩, .inr (by omega), hS7.keep hKx (fun b h_ => by have e_ : b = LB2 ∨ b = n10 ∨ b = P2 := h_; omega) (by omega), hQ7.keep hKx (by omega) (by omega), ⟨(lN hv_50 (lN hh48 (Keep.look hka (by omega) (fun h_ => absurd (show nx = LB2 from h_) (by omega)) (lN hh46 hC7.h0)))), (lN hv_50 (lN hh48 (Keep.look hka (by omega) (fun h_ => absurd (show (nx + 1) = LB2 from h_) (by omega)) (lN hh46 hC7.h6)))), (lN hv_50 (lS hh48)), (by have h_ := hO8.keep (nx' := ((ng + 1) + 1)) (W := fun b => b = n10 ∨ b = P2) (show Keep ta tv_49 ((ng + 1) + 1) (fun b => b = n10 ∨ b = P2) from Keep.upd (Keep.upd (Keep.refl ta ((ng + 1) + 1) _) hh48 (by first | exact .inl (by omega) | (right; first | exact rfl | (show _ ∨ _; omega) | omega))) hv_50 (by first | exact .inl (by omega) | (right; first | exact rfl | (show _ ∨ _; omega) | omega))) (by omega) (by omega); rw [show ke = k by omega, show i = k by omega, show now = tS t0 dz k from hkT (by omega), cS_succ] at h_; rw [show ke + 1 = k + 1 by omega]; exact h_), (by have h_ := (lS hv_50); rw [show ke = k by omega, show 0 + i * 1 = k by omega, vS_set (by omega)] at h_; exact h_), hC7.hL.keep hKx (by omega) (fun b hb_ h_ => by have e_ : b = LB2 ∨ b = n10 ∨ b = P2 := h_; omega), (lN hv_50 (lN hh48 (Keep.look hka (by omega) (fun h_ => absurd (show cb = LB2 from h_) (by omega)) (lN hh46 hC7.hC)))), by omega⟩, (lN hv_50 (lN hh48 (Keep.look hka (by omega) (fun h_ => absurd (show P3 = LB2 from h_) (by omega)) (lN hh46 hr3)))), by omega, by omega, kU (kU (Keep.trans (kU (hkg) hh46) hka (by omega) ((fun b hb h_ => by have e_ : b = LB2 := h_; omega))) hh48) hv_50, by omega⟩
             as_aux_lemma =>
               refine k_reg (m1 (z1 y133) (rO (o_iaddr (i := i) (eV (z2 y131)) (eV (z2 y133)) (by omega)) ?_))
               refine rO (o_load eZ hr3 (by simp only [Nat.zero_add, Nat.mul_one]; exact strs_get (vS_x (by omega) (by omega)))) ?_
               refine m1 (z2 ds) (m1 (z1 ds) (r_nil (k_seq (k_reg (m1 ds (m1 (z1 (z2 (z4 y13))) (m1 (z1 (z2 ds)) (rO (o_iaddr (i := i) (eV (z1 ds)) eZ (by omega)) ?_))))))))
               refine rO (o_load eZ hC7.hP (by simp only [Nat.zero_add, Nat.mul_one]; exact strs_get (vS_x (by omega) (by omega)))) ?_
               refine rO (ndec_f (o_str_neq (eV (z4 ds)) eZ) (by decide)) (r_nil (k_cond_f eZ (k_skip (k_reg (rO (o_addN (a := i) (b := 1) (eV (z4 (z8 y133))) ev_c (by omega)) (m1 ds (r_nil ?_)))))))
               have hKx := (show Keep tg tg ng (fun b => False) from Keep.refl tg ng _)
               exact ⟨ns.length - (i + 1), by omega, i + 1, ke, LB2, lv2, by omega, ⟨(z2 (z4 (z8 y1))), (z2 (z4 (z8 y2))), (z2 (z4 (z8 y3))), (z2 (z4 (z8 y6))), (z2 (z4 (z8 y9))), (z2 (z4 (z8 y10))), (z2 (z4 (z8 y13))), (z2 (z4 (z8 y14))), (z2 (z4 (z8 y15))), (z2 (z4 (z8 y131))), (z2 (z4 (z8 y132))), ds⟩, by omega, hlb, hS7.keep hKx (fun _ h => h.elim) (by omega), hQ7.keep hKx (fun h => h) (by omega), hC7.keep hKx (fun _ h => h.elim) (by omega), hr3, by omega, by omega, hkg, by omega⟩
           refine k_exit (exK_same (k_seq (k_seq (k_reg (m1 (z1 y9) (m1 (z2 y14) (m1 (z1 (z2 y2)) ?_)))))))
           have hkee : ke = k2 := by omega
           subst hkee
           refine r_call (w_callF (evs_cons (eV (z2 ds)) (evs_cons (eV (z1 ds)) (evs_cons eZ evs_nil)))) rfl (WF.mono (send_ok hS7 hC7.hL (by omega) hn5 hkj5 (by omega) hQ7) ?_)
           rintro _ t51 n52 ⟨rfl, j2, D2, qv2, hS9, hdd, halt, hn_z, hk_z⟩
           have hs9 := hS9.hs
           have hCf := hC7.keep hk_z (fun b h_ => fin_C h_ hRB hLAW (Nat.lt_trans hs7.2.1 hs7.2.2.2.1) hDD hlb hlt7.2.2.2.1 hlt7.2.2.2.2.2 hPP.2.2.2) hn_z
           refine rO (o_not eZ) (r_nil (k_cond_f eZ (k_skip (k_seq (k_reg (m1 (z2 (z4 y2)) (rO (o_add eZ ev_c (by omega) (by omega)) (m1 ds (r_nil (k_seq (k_seq ?_)))))))))))
           rcases halt with ⟨ha1, hQ9, ha2⟩ | ⟨ha1, ha2, ha3, d, hd, hqe, hrD⟩
           · skip
             as_aux_lemma =>
               refine k_reg (m1 (z1 (z8 y9)) (rO (o_nilck eZ) (rO (o_faddr (off := 9) eZ) (rO (o_load eZ hS9.hR rfl) (rO (o_len_QE hQ9 eZ) (rO (dec_f (o_gtr eZ ev_c) (by simp)) (r_nil (k_cond_f eZ (k_skip (k_seq ?_))))))))))
               rcases unhid hk2 with ⟨hz1, hz2, hz3⟩ | ⟨hz1, hz2, hz4, hz3⟩
               · skip
                 as_aux_lemma =>
                   subst hz3
                   refine k_reg (m1 (z1 (z2 (z4 (z8 y1)))) (rO (o_len_slice eZ) (rO (dec_f (o_gtr eZ ev_c) (by simp)) (r_nil (k_cond_f eZ (k_skip (k_reg (m1 (z2 (z8 (z8 y15))) (rO (o_addN (a := c) (b := 1) eZ ev_c (by omega)) (m1 ds (r_nil ?_)))))))))))
                   have hmm := unhid hmm
                   have hLB7 := hC7.hO.lt
                   have hDn := fin_D hDD hdd hlb hLB7 hPP.1 hPP.2.2.2 hP3n (by clear hmm hDD hdd hlb hkj5; omega)
                   have hMM := fin_mm (ke := ke) hmm hz1 hkl
                   have hc5 : c + 1 ≤ ke + 1 := by clear hmm hDD hdd hlb hkj5 hDn; omega
                   clear hmm hDD hdd hlb
                   have hKf : Keep t t51 nx (fun _ => False) := Keep.trans (hkg) hk_z (by omega) ((fun b hb h_ => by have e_ : b = R ∨ b = LA ∨ b = D := h_; omega))
                   have hjf0 : ke = j2 + 1 ∧ ke = ns.length := by clear hDn; have h2_ := ha2; omega
                   have hjf : (ke < ns.length ∧ j2 = ke) ∨ (ke = ns.length ∧ j2 + 1 = ke) := .inr ⟨hjf0.2, hjf0.1.symm⟩
                   clear hkj5
                   exact ⟨2 * ns.length - 2 * ke, hMM, ke, c + 1, j2, D2, LB2, _, _, lv2, _, ⟨(z1 (z4 (z8 (z8 y1)))), (z1 (z4 (z8 (z8 y2)))), (z1 (z4 (z8 (z8 y3)))), (z1 (z4 (z8 (z8 y6)))), (z1 (z4 (z8 (z8 y9)))), (z1 (z4 (z8 (z8 y10)))), (z1 (z4 (z8 (z8 y13)))), (z4 (z8 ds)), ds⟩, by clear hDn hjf; omega, .inr ⟨by clear hDn hjf; omega, rfl⟩, hS9, hCf, .inr (.inr ⟨hjf0.2, rfl⟩), .inr ⟨.inr hjf0.2, hQ9⟩, hjf, hc5, hDn, by clear hDn hjf; omega, hKf, .inl ⟨by clear hDn hjf; omega, fun h_ => by clear hDn hjf; first | rfl | omega⟩⟩
               as_aux_lemma =>
                 subst hz3
                 refine k_reg (m1 (z1 (z2 (z4 (z8 y1)))) (rO (o_len_slice eZ) (rO (dec_t (o_gtr eZ ev_c) (by simp)) (r_nil (k_cond_t eZ (k_reg (m1 (z1 (z8 ds)) (m1 (z1 (z2 (z8 (z8 y1)))) (rO (o_iaddr (i := 0) eZ ev_c (by omega)) (rO (o_faddr (off := 0) eZ) (rO (o_load eZ (Keep.look hk_z (by omega) (fun h_ => absurd (show cb = R ∨ cb = LA ∨ cb = D from h_) (by omega)) hC7.hC) rfl) (rO (o_minL (eV (z4 ds)) eZ (by omega)) (m1 ds (r_nil (k_reg (m1 (z1 (z8 (z8 (z8 y15)))) (rO (o_addN (a := c) (b := 1) eZ ev_c (by omega)) (m1 ds (r_nil ?_)))))))))))))))))))
                 have hmm := unhid hmm
                 have hLB7 := hC7.hO.lt
                 have hDn := fin_D hDD hdd hlb hLB7 hPP.1 hPP.2.2.2 hP3n (by clear hmm hDD hdd hlb hkj5; omega)
                 have hMM := fin_mm0 (ke := ke) hmm hz1 hz2 hz4
                 have hnow := unhid hnow
                 have hc0 : c = 0 := by clear hmm hDD hdd hlb hkj5 hDn; rcases hnow with ⟨-, h_ | ⟨-, h_⟩⟩ | ⟨h_, -⟩ | ⟨h_, -⟩; exact absurd h_ hz4; exact h_; omega; omega
                 have hc5 : c + 1 ≤ ke + 1 := by clear hnow hmm hDD hdd hlb hkj5 hDn; omega
                 clear hnow
                 clear hmm hDD hdd hlb
                 have hKf : Keep t t51 nx (fun _ => False) := Keep.trans (hkg) hk_z (by omega) ((fun b hb h_ => by have e_ : b = R ∨ b = LA ∨ b = D := h_; omega))
                 have hjf : (ke < ns.length ∧ j2 = ke) ∨ (ke = ns.length ∧ j2 + 1 = ke) := .inl (by clear hDn; omega)
                 clear hkj5
                 exact ⟨2 * ns.length - 2 * ke, hMM, ke, c + 1, j2, D2, LB2, _, _, lv2, _, ⟨(z4 (z8 (z8 (z8 y1)))), (z4 (z8 (z8 (z8 y2)))), (z4 (z8 (z8 (z8 y3)))), (z4 (z8 (z8 (z8 y6)))), (z4 (z8 (z8 (z8 y9)))), (z4 (z8 (z8 (z8 y10)))), (z4 (z8 (z8 (z8 y13)))), (z1 (z2 ds)), ds⟩, by clear hDn hjf; omega, .inl ⟨hz1, rfl⟩, hS9, hCf, .inl ⟨hz1, .inl rfl⟩, .inr ⟨.inl hz1, hQ9⟩, hjf, hc5, hDn, by clear hDn hjf; omega, hKf, .inl ⟨by clear hDn hjf; omega, fun h_ => by clear hDn hjf; first | rfl | omega⟩⟩
           as_aux_lemma =>
             subst hqe
             have hdl := hC7.hL.ln.lim d (List.mem_of_getElem? hd)
             refine k_reg (m1 (z1 (z8 y9)) (rO (o_nilck eZ) (rO (o_faddr (off := 9) eZ) (rO (o_load eZ hS9.hR rfl) (rO (o_len_slice eZ) (rO (dec_t (o_gtr eZ ev_c) (by simp)) (r_nil (k_cond_t eZ (k_reg (m1 (z2 (z4 ds)) (m1 (z8 (z8 y9)) (rO (o_nilck eZ) (rO (o_faddr (off := 9) eZ) (rO (o_load eZ hS9.hR rfl) (rO (o_iaddr (i := 0) eZ ev_c (by omega)) (rO (o_faddr (off := 0) eZ) (rO (o_load eZ hrD rfl) (rO (o_minL (eV (z1 (z2 (z4 ds)))) eZ (by omega)) (m1 ds (r_nil (k_seq ?_)))))))))))))))))))))
             rcases unhid hk2 with ⟨hz1, hz2, hz3⟩ | ⟨hz1, hz2, hz4, hz3⟩
             · skip
               as_aux_lemma =>
                 subst hz3
                 refine k_reg (m1 (z1 (z8 (z8 (z8 y1)))) (rO (o_len_slice eZ) (rO (dec_f (o_gtr eZ ev_c) (by simp)) (r_nil (k_cond_f eZ (k_skip (k_reg (m1 (z4 (z8 (z8 (z8 y15)))) (rO (o_addN (a := c) (b := 1) eZ ev_c (by omega)) (m1 ds (r_nil ?_)))))))))))
                 have hmm := unhid hmm
                 have hLB7 := hC7.hO.lt
                 have hDn := fin_D hDD hdd hlb hLB7 hPP.1 hPP.2.2.2 hP3n (by clear hmm hDD hdd hlb hkj5; omega)
                 have hMM := fin_mm (ke := ke) hmm hz1 hkl
                 have hc5 : c + 1 ≤ ke + 1 := by clear hmm hDD hdd hlb hkj5 hDn; omega
                 clear hmm hDD hdd hlb
                 have hKf : Keep t t51 nx (fun _ => False) := Keep.trans (hkg) hk_z (by omega) ((fun b hb h_ => by have e_ : b = R ∨ b = LA ∨ b = D := h_; omega))
                 have hkl2 : ke < ns.length := by clear hDn; omega
                 obtain ⟨kk, hkk⟩ : ∃ kk, ke = kk + 1 := ⟨ke - 1, by clear hDn; omega⟩
                 have hTn : now + d = tS t0 dz ke := by rw [hkk, tS_succ (show dz[kk]? = some d from by rw [show kk = j by clear hDn; omega]; exact hd), show kk = k by clear hDn; omega, hz2]
                 rw [hTn] at hrD
                 have hjf : (ke < ns.length ∧ j2 = ke) ∨ (ke = ns.length ∧ j2 + 1 = ke) := .inl ⟨hkl2, ha2.symm⟩
                 clear hkj5
                 exact ⟨2 * ns.length - 2 * ke, hMM, ke, c + 1, j2, D2, LB2, _, _, lv2, _, ⟨(z1 (z2 (z4 (z8 (z8 (z8 y1)))))), (z1 (z2 (z4 (z8 (z8 (z8 y2)))))), (z1 (z2 (z4 (z8 (z8 (z8 y3)))))), (z1 (z2 (z4 (z8 (z8 (z8 y6)))))), (z1 (z2 (z4 (z8 (z8 (z8 y9)))))), (z1 (z2 (z4 (z8 (z8 (z8 y10)))))), (z1 (z2 (z4 (z8 (z8 (z8 y13)))))), (z2 (z4 ds)), ds⟩, by clear hDn hjf; omega, .inr ⟨by clear hDn hjf; omega, rfl⟩, hS9, hCf, .inr (.inl ⟨by clear hDn hjf; omega, hkl2, hTn⟩), .inl ⟨by clear hDn hjf; omega, hkl2, rfl, hrD⟩, hjf, hc5, hDn, by clear hDn hjf; omega, hKf, .inl ⟨by clear hDn hjf; omega, fun h_ => by clear hDn hjf; first | rfl | omega⟩⟩
             exfalso; omega
   refine k_exit (exK_same (k_seq ?_))
   obtain rfl : k = ns.length := by omega
   have hc1_ := hO1.cell
   have hc2_ := hO2.cell
   refine k_reg (rO (o_loadA (n := 4) (eV (z1 (z2 q10))) hCM.hW (leb rfl) rfl) (r_heap (o_store (n := 4) (eV (z4 q6)) eZ hCM.h6 rfl (cell4 hc1_ hc2_ rfl hCM.hO.cell) (leb rfl)) rfl (fun t53 (hh54 : hv t53 = upd (hv tw) (nx + 1) (some (.row [v1, v2, (.slice P1 0 ns.length ns.length 1 false), lv] true))) => rO (o_mov ev_c) (r_nil (k_ret ?_)))))
   exact ⟨_, ans_two (res_cell (z2 (z4 q6)) (lS hh54) (leb rfl) rfl (res_tmp ds res_nil)), v1, v2, _, lv, LB, rfl, cell4 hc1_ hc2_ rfl hCM.hO.cell, by omega, hCM.hO.keep (show Keep tw t53 nw (fun b => b = nx + 1) from Keep.upd (Keep.refl tw nw _) hh54 (by first | exact .inl (by omega) | (right; first | exact rfl | (show _ ∨ _; omega) | omega))) (by omega) (by omega), by omega, kU (hkw) hh54⟩
end Go.Proofs.YtpjohgnhmjceiaaGreatDoor.WX

set_option linter.all false
set_option linter.unusedVariables false
set_option linter.unusedSectionVars false
set_option maxRecDepth 100000
open Go Go.Proofs.YtpjohgnhmjceiaaGreatDoor.AX Go.Proofs
namespace Go.Proofs.YtpjohgnhmjceiaaGreatDoor.WX
variable [Env]
def law_r0 : List Ins := [.o 4 (.mov (.c (.bool false)))]
def law_r1 : List Ins := [.o 13 (.build [(.int .i64 0), (.int .i64 0), (.int .i64 0), .nslice, (.str []), (.int .i64 0), (.int .i64 0), (.int .i64 0)] [(0, 1, (kI 2)), (2, 1, (kI 1))]),
 .o 14 (.bslice 8 1 [(.int .i64 0), (.int .i64 0), (.int .i64 0), .nslice, (.str []), (.int .i64 0), (.int .i64 0), (.int .i64 0)] [(0, 8, (.t 13))]),
 .o 15 (.bslice 1 1 [(.int .i64 0)] [(0, 1, (kI 0))]),
 .o 16 (.build [.nslice, .nslice, (.int .i64 0)] [(0, 1, (.t 14)), (1, 1, (.t 15))]),
 .o 5 (.alloc [.nslice, .nslice, (.int .i64 0)]),
 .x (.store 3 (.t 5) (.t 16))]
def law_r2 : List Ins := [.mv 17 1,
 .o 18 (.bin .and (.t 17) (kI 65535)),
 .mv 6 18]
def law_r3 : List Ins := [.mv 19 6,
 .mv 7 19]
def law_r4 : List Ins := [.o 8 (.mov (kI 0))]
def law_r5 : List Ins := [.mv 20 8,
 .mv 21 0,
 .o 22 (.len .slc (.t 21)),
 .o 23 (.bin .lss (.t 20) (.t 22)),
 .mv 24 23,
 .g 25 24 true (.mov (.t 8)),
 .g 26 24 true (.bin .lss (.t 25) (kI 60)),
 .o 27 (.pick (.t 24) (.t 26) (.c (.bool false)))]
def law_r6 : List Ins := [.mv 30 0,
 .mv 31 8,
 .o 32 (.iaddr 1 (.t 30) (.t 31)),
 .o 33 (.load (.t 32)),
 .o 34 (.bin .and (.t 33) (kI 4095)),
 .o 35 (.bin .add (kI 1) (.t 34)),
 .mv 9 35]
def law_r7 : List Ins := [.o 36 (.faddr (.t 5) 0),
 .o 37 (.load (.t 36)),
 .mv 38 8,
 .o 39 (.bslice 1 1 [(.int .i64 0)] [(0, 1, (.t 38))]),
 .mv 40 9,
 .o 41 (.build [(.int .i64 0), (.int .i64 0), (.int .i64 0), .nslice, (.str []), (.int .i64 0), (.int .i64 0), (.int .i64 0)] [(0, 1, (kI 8)), (2, 1, (kI 1)), (3, 1, (.t 39)), (7, 1, (.t 40))]),
 .o 42 (.bslice 8 1 [(.int .i64 0), (.int .i64 0), (.int .i64 0), .nslice, (.str []), (.int .i64 0), (.int .i64 0), (.int .i64 0)] [(0, 8, (.t 41))]),
 .o 43 (.app 8 (.t 37) (.t 42)),
 .o 44 (.faddr (.t 5) 0),
 .x (.store 1 (.t 44) (.t 43))]
def law_r8 : List Ins := [.o 45 (.faddr (.t 5) 1),
 .o 46 (.load (.t 45)),
 .mv 47 8,
 .o 48 (.bin .add (.t 47) (kI 1)),
 .o 49 (.bslice 1 1 [(.int .i64 0)] [(0, 1, (.t 48))]),
 .o 50 (.app 1 (.t 46) (.t 49)),
 .o 51 (.faddr (.t 5) 1),
 .x (.store 1 (.t 51) (.t 50))]
def law_r9 : List Ins := [.mv 28 8,
 .o 29 (.bin .add (.t 28) (kI 1)),
 .mv 8 29]
def law_r10 : List Ins := [.o 52 (.faddr (.t 5) 1),
 .o 53 (.load (.t 52)),
 .o 54 (.len .slc (.t 53)),
 .o 55 (.faddr (.t 5) 2),
 .x (.store 1 (.t 55) (.t 54))]
def law_r11 : List Ins := [.o 57 (.loadA 3 (.t 5)),
 .mv 58 6,
 .o 59 (.build [(.int .i64 0), (.int .i64 0), (.str [])] [(0, 1, (.t 58)), (2, 1, (.c (.str [49])))]),
 .o 60 (.bslice 3 1 [(.int .i64 0), (.int .i64 0), (.str [])] [(0, 3, (.t 59))]),
 .f 61 16 [(.t 57), (.t 60), (kI 1048576)],
 .mv 56 61,
 .o 62 (.extr (.t 56) 0),
 .o 63 (.extr (.t 56) 1),
 .o 10 (.alloc [.nslice, .nslice, .nslice, .nslice]),
 .x (.store 4 (.t 10) (.t 62)),
 .mv 11 63]
def law_r12 : List Ins := [.mv 64 11,
 .o 65 (.bin .neq (.t 64) (kI 0)),
 .mv 66 65,
 .g 67 66 false (.faddr (.t 10) 3),
 .g 68 66 false (.load (.t 67)),
 .g 69 66 false (.len .slc (.t 68)),
 .g 70 66 false (.faddr (.t 5) 1),
 .g 71 66 false (.load (.t 70)),
 .g 72 66 false (.len .slc (.t 71)),
 .g 73 66 false (.bin .neq (.t 69) (.t 72)),
 .o 74 (.pick (.t 66) (.c (.bool true)) (.t 73))]
def law_r13 : List Ins := [.o 4 (.mov (.c (.bool false)))]
def law_r14 : List Ins := [.o 12 (.mov (kI 0))]
def law_r15 : List Ins := [.mv 75 12,
 .o 76 (.faddr (.t 10) 3),
 .o 77 (.load (.t 76)),
 .o 78 (.len .slc (.t 77)),
 .o 79 (.bin .lss (.t 75) (.t 78))]
def law_r16 : List Ins := [.mv 82 12,
 .o 83 (.bin .gtr (.t 82) (kI 0))]
def law_r17 : List Ins := [.mv 84 7,
 .o 85 (.faddr (.t 5) 0),
 .o 86 (.load (.t 85)),
 .mv 87 12,
 .o 88 (.iaddr 8 (.t 86) (.t 87)),
 .o 89 (.faddr (.t 88) 7),
 .o 90 (.load (.t 89)),
 .o 91 (.bin .add (.t 84) (.t 90)),
 .mv 7 91]
def law_r18 : List Ins := [.o 92 (.faddr (.t 10) 3),
 .o 93 (.load (.t 92)),
 .mv 94 12,
 .o 95 (.iaddr 3 (.t 93) (.t 94)),
 .o 96 (.loadA 3 (.t 95)),
 .mv 97 7,
 .mv 98 12,
 .o 99 (.build [(.int .i64 0), (.int .i64 0), (.str [])] [(0, 1, (.t 97)), (1, 1, (.t 98)), (2, 1, (.c (.str [49])))]),
 .o 100 (.eqv true (.agg [(0, .int), (1, .int), (2, .str)]) (.t 96) (.t 99))]
def law_r19 : List Ins := [.o 4 (.mov (.c (.bool false)))]
def law_r20 : List Ins := [.mv 80 12,
 .o 81 (.bin .add (.t 80) (kI 1)),
 .mv 12 81]
def law_r21 : List Ins := [.f 101 17 [],
 .mv 4 101]
def law_c : IC := (.seq (.reg law_r0) (.seq (.reg law_r1) (.seq (.reg law_r2) (.seq (.reg law_r3) (.seq (.seq (.reg law_r4) (.block 0 (.loop (.seq (.seq (.reg law_r5) (.cond (.t 27) .skip (.exit 0))) (.seq (.block 1 (.seq (.reg law_r6) (.seq (.reg law_r7) (.reg law_r8)))) (.reg law_r9)))))) (.seq (.reg law_r10) (.seq (.reg law_r11) (.seq (.seq (.reg law_r12) (.cond (.t 74) (.seq (.reg law_r13) .ret) .skip)) (.seq (.seq (.reg law_r14) (.block 2 (.loop (.seq (.seq (.reg law_r15) (.cond (.t 79) .skip (.exit 2))) (.seq (.block 3 (.seq (.seq (.reg law_r16) (.cond (.t 83) (.reg law_r17) .skip)) (.seq (.reg law_r18) (.cond (.t 100) (.seq (.reg law_r19) .ret) .skip)))) (.reg law_r20)))))) (.seq (.reg law_r21) .ret))))))))))
theorem law_tab : tb 5 = some (.code 2 102 law_c [.tmp 4]) := by kernel_rfl
theorem o_and_eq {T : TA} {t : TB} {nx m r : Nat} {x y : Opd} {a : Int} (hx : x.ev T = some (.int .i64 a)) (hy : y.ev T = some (.int .i64 (m : Int))) (h2 : bitsF .and .i64 a (m : Int) = some (r : Int)) : (IOp.bin .and x y).run T t nx = .ok (.int .i64 (r : Int)) t nx := by
 refine o_bin hx hy rfl (by decide) (by decide) (v := .int .i64 (r : Int)) ?_
 show (bitsF .and .i64 a (m : Int)).map (AV.int .i64) = _
 rw [h2]; rfl
/-- The nodes that are made, and their rows. -/
def nL (dz : List Int) : Nat → List Nd
 | 0 => [⟨2, 0, 1, [], [], 0, 0, 0⟩]
 | i + 1 => nL dz i ++ [⟨8, 0, 1, [(i : Int)], [], 0, 0, (dz[i]?).getD 0⟩]
theorem nL_len (dz : List Int) : ∀ i, (nL dz i).length = i + 1
 | 0 => rfl
 | i + 1 => by rw [nL, List.length_append, nL_len dz i]; rfl
theorem nL_snoc {dz : List Int} {d : Int} : ∀ i, i ≤ dz.length → nL (dz ++ [d]) i = nL dz i
 | 0, _ => rfl
 | i + 1, h => by
   rw [nL, nL, nL_snoc i (by omega), List.getElem?_append_left (by omega)]
theorem nL_zero (dz : List Int) : ∀ i, (nL dz i)[0]? = some ⟨2, 0, 1, [], [], 0, 0, 0⟩
 | 0 => rfl
 | i + 1 => by rw [nL, List.getElem?_append_left (by rw [nL_len]; omega)]; exact nL_zero dz i
theorem nL_next {dz : List Int} : ∀ (m i : Nat) (d : Int), i < m → dz[i]? = some d → (nL dz m)[i + 1]? = some ⟨8, 0, 1, [(i : Int)], [], 0, 0, d⟩
 | 0, i, d, h, _ => by omega
 | m + 1, i, d, h, hd => by
   rw [nL]
   by_cases e : i < m
   · rw [List.getElem?_append_left (by rw [nL_len]; omega)]; exact nL_next m i d e hd
   · obtain rfl : i = m := by omega
     rw [List.getElem?_append_right (by rw [nL_len]; omega), nL_len, Nat.sub_self, hd]; rfl
theorem nL_LN {dz : List Int} (h1 : dz.length ≤ 60) (h2 : ∀ d ∈ dz, 1 ≤ d ∧ d ≤ 4096) : LN (nL dz dz.length) dz :=
 ⟨nL_len _ _, nL_zero _ _, fun i d hd => nL_next _ i d (List.getElem?_eq_some_iff.1 hd).1 hd, h1, h2⟩
def rS (n : Nat) : List Int := (List.range n).map (fun (i : Nat) => (i : Int))
theorem rS_len (n : Nat) : (rS n).length = n := by simp [rS]
theorem rS_get {n i : Nat} (h : i < n) : (rS n)[i]? = some (i : Int) := by simp [rS, h]
theorem rS_succ (n : Nat) : ints (rS n) ++ [.int .i64 (n : Int)] = ints (rS (n + 1)) := by simp [rS, List.range_succ, ints, i64]
theorem o_same3 {T : TA} {t : TB} {nx : Nat} {x y : Opd} {a b : Int} {s : List Nat} (hx : x.ev T = some (.agg [.int .i64 a, .int .i64 b, .str s])) (hy : y.ev T = some (.agg [.int .i64 a, .int .i64 b, .str s])) : (IOp.eqv true (.agg [(0, .int), (1, .int), (2, .str)]) x y).run T t nx = .ok (.bool false) t nx := by
 have c : ∀ z : Int, cellEq .int (.int .i64 z) (.int .i64 z) = some true := fun z => by
   show (match Nat.beq (kN .i64) (kN .i64) with | true => some (iEq z z) | false => none) = _
   rw [iEq_eq]; simp
 have c2 : cellEq .str (.str s) (.str s) = some true := by
   show some (sEq s s) = some true
   rw [sEq_self]
 have e : eqA (.agg [(0, .int), (1, .int), (2, .str)]) (.agg [.int .i64 a, .int .i64 b, .str s]) (.agg [.int .i64 a, .int .i64 b, .str s]) = some true := by
   show (match cellEq .int (.int .i64 a) (.int .i64 a) with | some true => (match cellEq .int (.int .i64 b) (.int .i64 b) with | some true => (match cellEq .str (.str s) (.str s) with | some true => some true | some false => some false | none => none) | some false => some false | none => none) | some false => some false | none => none) = some true
   rw [c, c, c2]
 simp only [IOp.run, hx, hy, e]
 rfl
theorem app_gen2 {t : TB} {nx sz d n e : Nat} {l cs : List AV} {ex ex' : Bool} (hr : hv t d = some (.row l true)) (hl : l.length = n * sz) (he : hv t e = some (.row cs true)) (hc : allCell cs = true) (hcs : cs.length = sz) (hs : (n + 1) * sz ≤ 65536) :
   ∃ t', appendA sz (.slice d 0 n n sz ex) (.slice e 0 1 1 sz ex') t nx = .ok (.slice nx 0 (n + 1) (n + 1) sz false) t' (nx + 1) ∧ (hv t' nx = some (.row (l ++ cs) true) ∧ Keep t t' nx (fun b => b = d)) := by
 have hsrc : srcCells (.slice e 0 1 1 sz ex') 1 sz t = some cs := by
   rw [src_row (k := 1) he (by omega), Nat.one_mul]
   congr 1
   exact whole hcs
 obtain ⟨t', h1, t1, h2, h3⟩ := app_any (t := t) (nx := nx) (sz := sz) (k := 1) (b := d) (o := 0) (n := n) (ex := ex) (y := .slice e 0 1 1 sz ex') rfl hsrc hc hr (by omega) (by decide) hs
 refine ⟨t', h1, ?_, Keep.upd (Keep.ne kR h2 (.inr rfl)) h3 (.inl (Nat.le_refl _))⟩
 rw [lS h3, show (l.drop 0).take (n * sz) = l from whole hl]
/-- A list of its own that is full, in the block d. -/
structure OF (t : TB) (nx d : Nat) (v : AV) (n sz : Nat) (l : List AV) : Prop where
 lt : d < nx
 v : ∃ ex, v = .slice d 0 n n sz ex
 row : hv t d = some (.row l true)
 len : l.length = n * sz
theorem OF.keep {t t' : TB} {nx nx' d n sz : Nat} {v : AV} {l : List AV} {W : Nat → Prop} (h : OF t nx d v n sz l) (hk : Keep t t' nx W) (hw : ¬ W d) (hn : nx ≤ nx') : OF t' nx' d v n sz l :=
 ⟨Nat.lt_of_lt_of_le h.lt hn, h.v, (hk d h.lt hw).trans h.row, h.len⟩
theorem OF.app {t : TB} {nx d n sz e : Nat} {v : AV} {l cs : List AV} {ex : Bool} (h : OF t nx d v n sz l) (he : hv t e = some (.row cs true)) (hc : allCell cs = true) (hcs : cs.length = sz) (hs : (n + 1) * sz ≤ 65536) :
   ∃ t', appendA sz v (.slice e 0 1 1 sz ex) t nx = .ok (.slice nx 0 (n + 1) (n + 1) sz false) t' (nx + 1) ∧ (OF t' (nx + 1) nx (.slice nx 0 (n + 1) (n + 1) sz false) (n + 1) sz (l ++ cs) ∧ Keep t t' nx (fun b => b = d)) := by
 obtain ⟨h1, ⟨ex0, rfl⟩, h3, h4⟩ := h
 obtain ⟨t', h5, h6, h7⟩ := app_gen2 (ex := ex0) (ex' := ex) h3 h4 he hc hcs hs
 exact ⟨t', h5, ⟨Nat.lt_succ_self _, ⟨_, rfl⟩, h6, by rw [List.length_append, h4, hcs, Nat.succ_mul]⟩, h7⟩
theorem OF.cell {t : TB} {nx d n sz : Nat} {v : AV} {l : List AV} (h : OF t nx d v n sz l) : isCell v = true := by
 obtain ⟨ex, rfl⟩ := h.v; rfl
theorem o_len_OF {T : TA} {t t0 : TB} {nx n0 d n sz : Nat} {v : AV} {l : List AV} {x : Opd} (h : OF t0 n0 d v n sz l) (hx : x.ev T = some v) : (IOp.len .slc x).run T t nx = .ok (.int .i64 ((n : Nat) : Int)) t nx := by
 obtain ⟨ex, rfl⟩ := h.v
 exact o_len_slice hx
/-- The inputs' rows of nodes: of their own, apart from a b c. -/
def IVs (t : TB) (nx a b c : Nat) (ns : List Nd) (ivs : List AV) : Prop := ivs.length = ns.length ∧ ∀ (i : Nat) (x : Nd) (iv : AV), ns[i]? = some x → ivs[i]? = some iv → (iv = .nslice ∧ x.ins = []) ∨ ∃ d ex, iv = .slice d 0 x.ins.length x.ins.length 1 ex ∧ d < nx ∧ d ≠ a ∧ d ≠ b ∧ d ≠ c ∧ hv t d = some (.row (ints x.ins) true)
theorem IVs.keep {t t' : TB} {nx nx' a b c a' b' : Nat} {ns : List Nd} {ivs : List AV} {W : Nat → Prop} (h : IVs t nx a b c ns ivs) (hk : Keep t t' nx W) (hw : ∀ d, W d → d = a ∨ d = b ∨ d = c) (ha : a' = a ∨ nx ≤ a') (hb : b' = b ∨ nx ≤ b') (hn : nx ≤ nx') : IVs t' nx' a' b' c ns ivs := by
 refine ⟨h.1, fun i x iv h1 h2 => ?_⟩
 rcases h.2 i x iv h1 h2 with h3 | ⟨d, ex, e1, e2, e3, e4, e5, e6⟩
 · exact .inl h3
 · exact .inr ⟨d, ex, e1, by omega, by omega, by omega, e5, (hk d e2 (fun e => by have := hw d e; omega)).trans e6⟩
theorem IVs.snoc {t : TB} {nx a b c d : Nat} {ns : List Nd} {ivs : List AV} {x : Nd} {ex : Bool} {k : Int} (h : IVs t nx a b c ns ivs) (hi : x.ins = [k]) (hd : d < nx ∧ d ≠ a ∧ d ≠ b ∧ d ≠ c) (hr : hv t d = some (.row [.int .i64 k] true)) : IVs t nx a b c (ns ++ [x]) (ivs ++ [.slice d 0 1 1 1 ex]) := by
 have hl := h.1
 refine ⟨by simp [hl], fun i y iv h1 h2 => ?_⟩
 by_cases hlt : i < ns.length
 · rw [List.getElem?_append_left hlt] at h1
   rw [List.getElem?_append_left (by omega)] at h2
   exact h.2 i y iv h1 h2
 · have hle : i < (ns ++ [x]).length := (List.getElem?_eq_some_iff.1 h1).1
   obtain rfl : i = ns.length := by simp at hle; omega
   rw [List.getElem?_append_right (Nat.le_refl _), Nat.sub_self] at h1
   rw [List.getElem?_append_right (by omega), show ns.length - ivs.length = 0 by omega] at h2
   simp at h1 h2
   subst h1 h2
   refine .inr ⟨d, ex, by rw [hi]; rfl, hd.1, hd.2.1, hd.2.2.1, hd.2.2.2, ?_⟩
   rw [hi]; exact hr
theorem flatN_snoc : ∀ {ns : List Nd} {ivs : List AV} {x : Nd} {iv : AV}, ivs.length = ns.length → flatN ns ivs ++ ncells x iv = flatN (ns ++ [x]) (ivs ++ [iv])
 | [], [], x, iv, _ => by simp [flatN]
 | a :: ns, [], x, iv, h => by simp at h
 | [], b :: ivs, x, iv, h => by simp at h
 | a :: ns, b :: ivs, x, iv, h => by
   have := flatN_snoc (ns := ns) (ivs := ivs) (x := x) (iv := iv) (by simpa using h)
   show ncells a b ++ flatN ns ivs ++ ncells x iv = ncells a b ++ flatN (ns ++ [x]) (ivs ++ [iv])
   rw [List.append_assoc, this]
theorem NL.of {t : TB} {nx d1 d2 a b c : Nat} {v1 v2 : AV} {dz : List Int} {ivs : List AV} (h1 : OF t nx d1 v1 (dz.length + 1) 8 (flatN (nL dz dz.length) ivs)) (h2 : OF t nx d2 v2 (dz.length + 1) 1 (ints (rS (dz.length + 1)))) (hi : IVs t nx a b c (nL dz dz.length) ivs) (hf : dz.length ≤ 60) (hd : ∀ d ∈ dz, 1 ≤ d ∧ d ≤ 4096) : NL t nx v1 v2 (nL dz dz.length) (rS (dz.length + 1)) dz := by
 obtain ⟨a1, ⟨ex1, rfl⟩, a3, a4⟩ := h1
 obtain ⟨b1, ⟨ex2, rfl⟩, b3, b4⟩ := h2
 have hl := nL_len dz dz.length
 refine ⟨.inr ⟨d1, 0, dz.length + 1, ex1, true, _, ivs, by rw [hl], a1, a3, by rw [hl, a4]; omega, whole (by rw [hl]; exact a4), hi.1, fun i x iv e1 e2 => ?_⟩, .inr ⟨d2, 0, dz.length + 1, ex2, true, _, by rw [rS_len], b1, b3, by rw [rS_len, b4]; omega, whole (by rw [rS_len, b4]; omega)⟩, nL_LN hf hd, by rw [rS_len, hl], fun i h => rS_get (by rw [rS_len] at h; exact h)⟩
 rcases hi.2 i x iv e1 e2 with ⟨rfl, h3⟩ | ⟨d, ex, rfl, h3, -, -, -, h4⟩
 · exact .inl ⟨rfl, h3⟩
 · exact .inr ⟨d, 0, _, ex, true, _, rfl, h3, h4, by rw [ints_len]; omega, by rw [← ints_len x.ins]; exact whole rfl⟩
theorem nL_step {dz : List Int} {d : Int} : nL (dz ++ [d]) (dz.length + 1) = nL dz dz.length ++ [⟨8, 0, 1, [(dz.length : Int)], [], 0, 0, d⟩] := by
 rw [nL, nL_snoc dz.length (Nat.le_refl _)]
 simp
theorem cS_row {t0 : Int} {dz : List Int} {n i : Nat} {r : List AV} (hr : r = flatC3 (cS t0 dz n)) (hl : r.length = n * 3) (h : i < n) : (r.drop (0 + i * 3)).take 3 = [.int .i64 (tS t0 dz i), .int .i64 ((i : Nat) : Int), .str [49]] := by
 have := rowC_all (r := r) (o := 0) (cs := cS t0 dz n) (by rw [cS_len, List.drop_zero, ← hr]; exact List.take_of_length_le (by omega)) (cS_get h)
 exact this

set_option maxHeartbeats 8000000 in
theorem law_ok {t : TB} {nx bd : Nat} {lv : AV} {zs : List Int} {n : Int} (hZ : RowI t bd lv zs) (hb : bd ≤ nx) (hzl : zs.length < 9223372036854775808) : WF tb 5 [lv, .int .i64 n] t nx (fun v t' nx' => v = .bool true) := by
 obtain ⟨T0, hT0, hbits⟩ := land_F n 65535 (by decide)
 have h0 : (0 : Int) ≤ (T0 : Int) ∧ (T0 : Int) ≤ 65535 := by omega
 refine k_fun law_tab rfl ?_
 unfold law_c
 change WC _ _ (TA.put (some _) (TA.put (some _) TA.e 0) 1) _ _ _
 refine k_seq (k_reg (rO (o_mov ev_c) (r_nil (k_seq (k_reg (rO (o_build (fill_cons ev_c rfl rfl (fill_cons ev_c rfl rfl fill_nil))) (r_heap (o_bslice (fill_cons eZ rfl rfl fill_nil)) rfl (fun t1 (hh2 : hv t1 = upd (hv t) nx (some (.row [(.int .i64 2), (.int .i64 0), (.int .i64 1), .nslice, (.str []), (.int .i64 0), (.int .i64 0), (.int .i64 0)] true))) => r_heap (o_bslice (fill_cons ev_c rfl rfl fill_nil)) rfl (fun t3 (hh4 : hv t3 = upd (hv t1) (nx + 1) (some (.row [(.int .i64 0)] true))) => rO (o_build (fill_cons (eV (z1 ds)) rfl rfl (fill_cons eZ rfl rfl fill_nil))) (r_heap (o_alloc) rfl (fun t5 (hh6 : hv t5 = upd (hv t3) ((nx + 1) + 1) (some (.row [.nslice, .nslice, (.int .i64 0)] true))) => r_heap (o_store (n := 3) eZ (eV (z1 ds)) (lS hh6) rfl rfl (leb rfl)) rfl (fun t7 (hh8 : hv t7 = upd (hv t5) ((nx + 1) + 1) (some (.row [(.slice nx 0 1 1 8 true), (.slice (nx + 1) 0 1 1 1 true), (.int .i64 0)] true))) => r_nil (k_seq (k_reg (m1 (z1 (z2 (z4 get_same))) (rO (o_and_eq (m := 65535) eZ ev_c hbits) (m1 ds (r_nil (k_seq (k_reg (m1 ds (m1 ds (r_nil (k_seq (k_seq (k_reg (rO (o_mov ev_c) (r_nil (k_block ?_)))))))))))))))))))))))))))))
 refine k_loop (fun mm Tv tv nv => ∃ (a1 a2 : Nat) (v1 v2 : AV) (dz : List Int) (ivs : List AV), dz.length ≤ zs.length ∧ dz.length ≤ 60 ∧ (Tv.get 0 = some lv ∧ Tv.get 5 = some (.ptr ((nx + 1) + 1) 0) ∧ Tv.get 6 = some (.int .i64 ((T0 : Nat) : Int)) ∧ Tv.get 7 = some (.int .i64 ((T0 : Nat) : Int)) ∧ Tv.get 8 = some (.int .i64 ((dz.length : Nat) : Int))) ∧ (∀ d ∈ dz, 1 ≤ d ∧ d ≤ 4096) ∧ hv tv ((nx + 1) + 1) = some (.row [v1, v2, .int .i64 0] true) ∧ OF tv nv a1 v1 (dz.length + 1) 8 (flatN (nL dz dz.length) ivs) ∧ OF tv nv a2 v2 (dz.length + 1) 1 (ints (rS (dz.length + 1))) ∧ IVs tv nv a1 a2 ((nx + 1) + 1) (nL dz dz.length) ivs ∧ (nx ≤ a1 ∧ nx ≤ a2 ∧ a1 ≠ a2 ∧ a1 ≠ ((nx + 1) + 1) ∧ a2 ≠ ((nx + 1) + 1)) ∧ RowI tv bd lv zs ∧ nx + 3 ≤ nv ∧ mm + dz.length = 60) (fun mm Tv tv nv hI => ?_) (60) ⟨nx, nx + 1, .slice nx 0 1 1 8 true, .slice (nx + 1) 0 1 1 1 true, [], [.nslice], by simp, by simp, ⟨(z1 (z4 (z8 (get_other rfl get_same)))), (z1 (z2 (z4 ds))), (z1 (z2 ds)), (z1 ds), ds⟩, (fun d hd => nomatch hd), (lS hh8), ⟨by omega, ⟨true, rfl⟩, (lN hh8 (lN hh6 (lN hh4 (lS hh2)))), rfl⟩, ⟨by omega, ⟨true, rfl⟩, (lN hh8 (lN hh6 (lS hh4))), rfl⟩, ⟨rfl, fun i x iv h1 h2 => by cases i with | zero => (simp [nL] at h1 h2; subst h1 h2; exact .inl ⟨rfl, rfl⟩) | succ i => simp [nL] at h1⟩, by omega, hZ.keep (fun d hd hw => (show Keep t t7 nx (fun _ => False) from kU (kU (kU (kU kR hh2) hh4) hh6) hh8) d (by omega) hw) (Nat.le_refl _), by omega, rfl⟩
 obtain ⟨a1, a2, v1, v2, dz, ivs, hi1, hi2, ⟨q0, q5, q6, q7, q8⟩, hdz, hB, hO1, hO2, hI, haa, hZv, hnv, hmm⟩ := hI
 refine k_seq (k_seq ?_)
 refine k_cut (fun T_ t_ n_ => tv = t_ ∧ nv = n_ ∧ T_.get 27 = some (.bool (decide (dz.length < zs.length ∧ dz.length < 60))) ∧ T_.get 0 = some lv ∧ T_.get 5 = some (.ptr ((nx + 1) + 1) 0) ∧ T_.get 6 = some (.int .i64 ((T0 : Nat) : Int)) ∧ T_.get 7 = some (.int .i64 ((T0 : Nat) : Int)) ∧ T_.get 8 = some (.int .i64 ((dz.length : Nat) : Int))) ?_ ?_
 · refine k_reg (m1 q8 (m1 (z1 q0) (rO (o_len_I hZv eZ) ?_)))
   by_cases hs16 : (((dz.length : Nat) : Int) < ((zs.length : Nat) : Int))
   · refine rO (dec_t (o_lss (eV (z2 ds)) eZ) hs16) (m1 ds (r_op (o_mov (eV (z1 (z4 q8)))) (want_on ds) (r_op (o_lss eZ ev_c) (want_on (z1 ds)) (rO (o_pick_t (eV (z2 ds)) eZ) (r_nil ?_)))))
     exact ⟨rfl, rfl, bd_ ⟨fun _ => by omega, fun _ => by omega⟩ ds, (z8 q0), (z8 q5), (z8 q6), (z8 q7), (z8 q8)⟩
   refine rO (dec_f (o_lss (eV (z2 ds)) eZ) hs16) (m1 ds (r_off (wN ds) (r_off (wN (z1 ds)) (rO (o_pick_f (eV (z2 ds)) ev_c) (r_nil ?_)))))
   exact ⟨rfl, rfl, bf_ (by omega) ds, (z8 q0), (z8 q5), (z8 q6), (z8 q7), (z8 q8)⟩
 rintro T9 _ _ ⟨rfl, rfl, q10, q11, q12, q13, q14, q15⟩
 refine k_if (eV q10) (fun hc17 => ?_) (fun hc17 => ?_)
 · refine k_skip (k_seq (k_block (k_seq ?_)))
   obtain ⟨z, hz⟩ := some_at (l := zs) (i := dz.length) (by omega)
   obtain ⟨dT, oT, cT, exT, wrT, rT, hTe, hTd, hTr, hTg⟩ := RowI.at hZv hz
   have ho1 := hO1.lt
   have ho2 := hO2.lt
   refine k_reg (m1 q11 (m1 (z1 q15) (rO (o_iaddrE (i := dz.length) (eV (z1 ds)) hTe eZ (by omega)) (rO (o_load eZ hTr hTg) (r_ex (o_and (m := 4095) eZ ev_c (by decide)) rfl ?_)))))
   rintro _ ⟨r18, rfl, hr19⟩
   refine rO (o_addN (a := 1) (b := r18) ev_c eZ (by omega)) (m1 ds (r_nil (k_seq (k_reg (rO (o_faddr (off := 0) (eV (z1 (z2 (z4 q12))))) (rO (o_load eZ hB rfl) (m1 (z1 (z8 q15)) (r_heap (o_bslice (fill_cons eZ rfl rfl fill_nil)) rfl (fun t20 (hh21 : hv t20 = upd (hv tv) nv (some (.row [(.int .i64 ((dz.length : Nat) : Int))] true))) => m1 (z4 ds) (rO (o_build (fill_cons ev_c rfl rfl (fill_cons ev_c rfl rfl (fill_cons (eV (z1 ds)) rfl rfl (fill_cons eZ rfl rfl fill_nil))))) (r_heap (o_bslice (fill_cons eZ rfl rfl fill_nil)) rfl (fun t22 (hh23 : hv t22 = upd (hv t20) (nv + 1) (some (.row [(.int .i64 8), (.int .i64 0), (.int .i64 1), (.slice nv 0 1 1 1 true), (.str []), (.int .i64 0), (.int .i64 0), (.int .i64 ((1 + r18 : Nat) : Int))] true))) => ?_))))))))))))
   refine r_heap (o_appE (eV (z1 (z4 ds))) eZ ((hO1.keep (nx' := ((nv + 1) + 1)) (show Keep tv t22 nv (fun b => False) from Keep.upd (Keep.upd (Keep.refl tv nv _) hh21 (by first | exact .inl (by omega) | (right; first | exact rfl | (show _ ∨ _; omega) | omega))) hh23 (by first | exact .inl (by omega) | (right; first | exact rfl | (show _ ∨ _; omega) | omega))) (fun h => h) (by omega)).app (lS hh23) rfl rfl (by omega))) rfl (fun ta ⟨hO1b, hka⟩ => ?_)
   refine rO (o_faddr (off := 0) (eV (z1 (z2 (z4 (z8 q12)))))) (r_heap (o_store (n := 1) eZ (eV (z1 ds)) (Keep.look hka (by omega) (fun h_ => absurd (show ((nx + 1) + 1) = a1 from h_) (by omega)) (lN hh23 (lN hh21 hB))) rfl rfl (leb rfl)) rfl (fun t24 (hh25 : hv t24 = upd (hv ta) ((nx + 1) + 1) (some (.row [(.slice ((nv + 1) + 1) 0 (dz.length + 1 + 1) (dz.length + 1 + 1) 8 false), v2, (.int .i64 0)] true))) => r_nil (k_reg (rO (o_faddr (off := 1) (eV (z1 (z8 (z8 q12))))) (rO (o_load eZ (lS hh25) rfl) (m1 (z1 (z2 (z8 (z8 q15)))) (rO (o_addN (a := dz.length) (b := 1) eZ ev_c (by omega)) (r_heap (o_bslice (fill_cons eZ rfl rfl fill_nil)) rfl (fun t26 (hh27 : hv t26 = upd (hv t24) (((nv + 1) + 1) + 1) (some (.row [(.int .i64 ((dz.length + 1 : Nat) : Int))] true))) => ?_)))))))))
   refine r_heap (o_appE (eV (z1 (z2 ds))) eZ ((hO2.keep (nx' := ((((nv + 1) + 1) + 1) + 1)) (show Keep tv t26 nv (fun b => b = a1 ∨ b = ((nx + 1) + 1)) from Keep.upd (Keep.upd (Keep.trans (Keep.upd (Keep.upd (Keep.refl tv nv _) hh21 (by first | exact .inl (by omega) | (right; first | exact rfl | (show _ ∨ _; omega) | omega))) hh23 (by first | exact .inl (by omega) | (right; first | exact rfl | (show _ ∨ _; omega) | omega))) hka (by omega) ((fun _ _ h => .inl h))) hh25 (by first | exact .inl (by omega) | (right; first | exact rfl | (show _ ∨ _; omega) | omega))) hh27 (by first | exact .inl (by omega) | (right; first | exact rfl | (show _ ∨ _; omega) | omega))) (by omega) (by omega)).app (lS hh27) rfl rfl (by omega))) rfl (fun tb ⟨hO2b, hkd⟩ => ?_)
   refine rO (o_faddr (off := 1) (eV (z1 (z2 (z4 (z8 (z8 q12))))))) (r_heap (o_store (n := 1) eZ (eV (z1 ds)) (Keep.look hkd (by omega) (fun h_ => absurd (show ((nx + 1) + 1) = a2 from h_) (by omega)) (lN hh27 (lS hh25))) rfl rfl (leb rfl)) rfl (fun t28 (hh29 : hv t28 = upd (hv tb) ((nx + 1) + 1) (some (.row [(.slice ((nv + 1) + 1) 0 (dz.length + 1 + 1) (dz.length + 1 + 1) 8 false), (.slice ((((nv + 1) + 1) + 1) + 1) 0 (dz.length + 1 + 1) (dz.length + 1 + 1) 1 false), (.int .i64 0)] true))) => r_nil (k_reg (m1 (z1 (z8 (z8 (z8 q15)))) (rO (o_addN (a := dz.length) (b := 1) eZ ev_c (by omega)) (m1 ds (r_nil ?_)))))))
   have hKx := (show Keep tv t28 nv (fun b => b = a1 ∨ b = a2 ∨ b = ((nx + 1) + 1)) from Keep.upd (Keep.trans (Keep.upd (Keep.upd (Keep.trans (Keep.upd (Keep.upd (Keep.refl tv nv _) hh21 (by first | exact .inl (by omega) | (right; first | exact rfl | (show _ ∨ _; omega) | omega))) hh23 (by first | exact .inl (by omega) | (right; first | exact rfl | (show _ ∨ _; omega) | omega))) hka (by omega) ((fun _ _ h => .inl h))) hh25 (by first | exact .inl (by omega) | (right; first | exact rfl | (show _ ∨ _; omega) | omega))) hh27 (by first | exact .inl (by omega) | (right; first | exact rfl | (show _ ∨ _; omega) | omega))) hkd (by omega) ((fun _ _ h => .inr (.inl h)))) hh29 (by first | exact .inl (by omega) | (right; first | exact rfl | (show _ ∨ _; omega) | omega)))
   have hlen : (dz ++ [(((1 + r18) : Nat) : Int)]).length = dz.length + 1 := by simp
   refine ⟨60 - (dz.length + 1), by omega, ((nv + 1) + 1), ((((nv + 1) + 1) + 1) + 1), .slice ((nv + 1) + 1) 0 (dz.length + 1 + 1) (dz.length + 1 + 1) 8 false, .slice ((((nv + 1) + 1) + 1) + 1) 0 (dz.length + 1 + 1) (dz.length + 1 + 1) 1 false, dz ++ [(((1 + r18) : Nat) : Int)], ivs ++ [.slice nv 0 1 1 1 true], ?_⟩
   rw [hlen, nL_step]
   exact ⟨by omega, by omega, ⟨(z4 (z8 (z8 (z8 q11)))), (z4 (z8 (z8 (z8 q12)))), (z4 (z8 (z8 (z8 q13)))), (z4 (z8 (z8 (z8 q14)))), ds⟩, (fun e he => (List.mem_append.1 he).elim (hdz e) (fun h_ => by simp at h_; omega)), (lS hh29), (by rw [← flatN_snoc hI.1]; exact hO1b.keep (W := fun b => b = a2 ∨ b = ((nx + 1) + 1)) (show Keep ta t28 (((nv + 1) + 1) + 1) (fun b => b = a2 ∨ b = ((nx + 1) + 1)) from Keep.upd (Keep.trans (Keep.upd (Keep.upd (Keep.refl ta (((nv + 1) + 1) + 1) _) hh25 (by first | exact .inl (by omega) | (right; first | exact rfl | (show _ ∨ _; omega) | omega))) hh27 (by first | exact .inl (by omega) | (right; first | exact rfl | (show _ ∨ _; omega) | omega))) hkd (by omega) ((fun _ _ h => .inl h))) hh29 (by first | exact .inl (by omega) | (right; first | exact rfl | (show _ ∨ _; omega) | omega))) (by omega) (by omega)), (by rw [← rS_succ]; exact hO2b.keep (W := fun b => b = ((nx + 1) + 1)) (show Keep tb t28 (((((nv + 1) + 1) + 1) + 1) + 1) (fun b => b = ((nx + 1) + 1)) from Keep.upd (Keep.refl tb (((((nv + 1) + 1) + 1) + 1) + 1) _) hh29 (by first | exact .inl (by omega) | (right; first | exact rfl | (show _ ∨ _; omega) | omega))) (by omega) (by omega)), (hI.keep (nx' := (((((nv + 1) + 1) + 1) + 1) + 1)) (a' := ((nv + 1) + 1)) (b' := ((((nv + 1) + 1) + 1) + 1)) hKx (fun b h_ => by have e_ : b = a1 ∨ b = a2 ∨ b = ((nx + 1) + 1) := h_; omega) (by omega) (by omega) (by omega)).snoc rfl (by omega) (lN hh29 (Keep.look hkd (by omega) (fun h_ => absurd (show nv = a2 from h_) (by omega)) (lN hh27 (lN hh25 (Keep.look hka (by omega) (fun h_ => absurd (show nv = a1 from h_) (by omega)) (lN hh23 (lS hh21))))))), by omega, hZv.keep (fun b hb_ _ => hKx b (by omega) (fun h_ => by have e_ : b = a1 ∨ b = a2 ∨ b = ((nx + 1) + 1) := h_; omega)) (Nat.le_refl _), by omega, by omega⟩
 refine k_exit (exK_same (k_seq ?_))
 have ho1 := hO1.lt
 have ho2 := hO2.lt
 refine k_reg (rO (o_faddr (off := 1) (eV q12)) (rO (o_load eZ hB rfl) (rO (o_len_OF hO2 eZ) (rO (o_faddr (off := 2) (eV (z1 (z2 q12)))) (r_heap (o_store (n := 1) eZ (eV (z1 ds)) hB rfl rfl (leb rfl)) rfl (fun t30 (hh31 : hv t30 = upd (hv tv) ((nx + 1) + 1) (some (.row [v1, v2, (.int .i64 (((dz.length + 1) : Nat) : Int))] true))) => r_nil (k_seq (k_reg (rO (o_loadA (n := 3) (eV (z1 (z4 q12))) (lS hh31) (leb rfl) rfl) (m1 (z2 (z4 q13)) (rO (o_build (fill_cons eZ rfl rfl (fill_cons ev_c rfl rfl fill_nil))) (r_heap (o_bslice (fill_cons eZ rfl rfl fill_nil)) rfl (fun t32 (hh33 : hv t32 = upd (hv t30) nv (some (.row [(.int .i64 ((T0 : Nat) : Int)), (.int .i64 0), (.str [49])] true))) => ?_)))))))))))))
 have hNL : NL t32 (nv + 1) v1 v2 (nL dz dz.length) (rS (dz.length + 1)) dz := NL.of (hO1.keep (nx' := (nv + 1)) (show Keep tv t32 nv (fun b => b = ((nx + 1) + 1)) from Keep.upd (Keep.upd (Keep.refl tv nv _) hh31 (by first | exact .inl (by omega) | (right; first | exact rfl | (show _ ∨ _; omega) | omega))) hh33 (by first | exact .inl (by omega) | (right; first | exact rfl | (show _ ∨ _; omega) | omega))) (by omega) (by omega)) (hO2.keep (nx' := (nv + 1)) (show Keep tv t32 nv (fun b => b = ((nx + 1) + 1)) from Keep.upd (Keep.upd (Keep.refl tv nv _) hh31 (by first | exact .inl (by omega) | (right; first | exact rfl | (show _ ∨ _; omega) | omega))) hh33 (by first | exact .inl (by omega) | (right; first | exact rfl | (show _ ∨ _; omega) | omega))) (by omega) (by omega)) (hI.keep (nx' := (nv + 1)) (a' := a1) (b' := a2) (show Keep tv t32 nv (fun b => b = ((nx + 1) + 1)) from Keep.upd (Keep.upd (Keep.refl tv nv _) hh31 (by first | exact .inl (by omega) | (right; first | exact rfl | (show _ ∨ _; omega) | omega))) hh33 (by first | exact .inl (by omega) | (right; first | exact rfl | (show _ ∨ _; omega) | omega))) (fun b h_ => .inr (.inr h_)) (.inl rfl) (.inl rfl) (by omega)) hi2 hdz
 have hnl := nL_len dz dz.length
 have hlim := tS_lim hdz h0
 refine r_call (w_callF (evs_cons (eV (z1 (z2 ds))) (evs_cons eZ (evs_cons ev_c evs_nil)))) rfl (WF.mono ((by have h_ := run_ok (cb := nv) hNL (Nat.le_refl _) h0 (lS hh33) (by omega); rw [rS_len] at h_; exact h_)) ?_)
 rintro _ t34 n35 ⟨w1, w2, w3, lq, LB, rfl, hcell, hLB, hOL, hn_r, hk_r⟩
 have hNL2 := hNL.keep hk_r (Nat.le_refl _) (fun _ _ h => h)
 refine m1 ds (rO (o_extr eZ rfl) (rO (o_extr (eV (z1 ds)) rfl) (r_heap (o_alloc) rfl (fun t36 (hh37 : hv t36 = upd (hv t34) n35 (some (.row [.nslice, .nslice, .nslice, .nslice] true))) => r_heap (o_store (n := 4) eZ (eV (z2 ds)) (lS hh37) rfl hcell (leb rfl)) rfl (fun t38 (hh39 : hv t38 = upd (hv t36) n35 (some (.row [w1, w2, w3, lq] true))) => m1 (z2 ds) (r_nil (k_seq (k_seq (k_reg (m1 ds (rO (ndec_f (o_neq eZ ev_c) (by simp)) (m1 ds (r_op (o_faddr (off := 3) (eV (z1 (z4 ds)))) (want_on ds) (r_op (o_load eZ (lS hh39) rfl) (want_on (z1 ds)) (r_op (o_len_OL hOL eZ) (want_on (z2 ds)) (r_op (o_faddr (off := 1) (eV (z2 (z4 (z8 (z8 q12)))))) (want_on (z1 (z2 ds))) (r_op (o_load eZ (lN hh39 (lN hh37 (Keep.look hk_r (by omega) id (lN hh33 (lS hh31))))) rfl) (want_on (z4 ds)) (r_op (o_len_OF hO2 eZ) (want_on (z1 (z4 ds))) (r_op (o_neq (eV (z1 (z2 ds))) eZ) (want_on (z2 (z4 ds))) (rO (o_pick_f (eV (z1 (z2 (z4 ds)))) eZ) (r_nil ?_)))))))))))))))))))))
 refine k_in eZ (fun hc40 => ?_) (fun hc40 => ?_)
 · refine k_seq ?_
   exfalso; omega
 refine k_skip (k_seq (k_seq (k_reg (rO (o_mov ev_c) (r_nil (k_block ?_))))))
 have hNL3 := hNL2.keep (show Keep t34 t38 n35 (fun b => False) from Keep.upd (Keep.upd (Keep.refl t34 n35 _) hh37 (by first | exact .inl (by omega) | (right; first | exact rfl | (show _ ∨ _; omega) | omega))) hh39 (by first | exact .inl (by omega) | (right; first | exact rfl | (show _ ∨ _; omega) | omega))) (by omega) (fun b hb_ h_ => by omega)
 have hOL3 := hOL.keep (nx' := (n35 + 1)) (show Keep t34 t38 n35 (fun b => False) from Keep.upd (Keep.upd (Keep.refl t34 n35 _) hh37 (by first | exact .inl (by omega) | (right; first | exact rfl | (show _ ∨ _; omega) | omega))) hh39 (by first | exact .inl (by omega) | (right; first | exact rfl | (show _ ∨ _; omega) | omega))) (fun h => h) (by omega)
 refine k_loop (fun mz Tz tz nz => ∃ (i : Nat) (sm : Int), i ≤ dz.length + 1 ∧ (Tz.get 5 = some (.ptr ((nx + 1) + 1) 0) ∧ Tz.get 10 = some (.ptr n35 0) ∧ Tz.get 7 = some (.int .i64 sm) ∧ Tz.get 12 = some (.int .i64 ((i : Nat) : Int))) ∧ sm = tS T0 dz (i - 1) ∧ mz + i = dz.length + 1 ∧ t38 = tz ∧ (n35 + 1) = nz) (fun mz Tz tz nz hI_ => ?_) (dz.length + 1) ⟨0, T0, by omega, ⟨(z4 (z8 (z8 (z8 q12)))), (z2 (z4 (z8 ds))), (z4 (z8 (z8 (z8 q14)))), ds⟩, (tS_zero _ _).symm, rfl, rfl, rfl⟩
 obtain ⟨i, sm, hi, ⟨u5, u10, u7, u12⟩, hsm, hmz, rfl, rfl⟩ := hI_
 refine k_seq (k_seq (k_reg (m1 u12 (rO (o_faddr (off := 3) (eV (z1 u10))) (rO (o_load eZ (lS hh39) rfl) (rO (o_len_OL hOL eZ) (rO (o_lss (eV (z1 (z2 ds))) eZ) (r_nil ?_))))))))
 refine k_if eZ (fun hc41 => ?_) (fun hc41 => ?_)
 · refine k_skip (k_seq (k_block (k_seq (k_seq (k_reg (m1 (z1 (z4 u12)) (rO (o_gtr eZ ev_c) (r_nil ?_))))))))
   refine k_if eZ (fun hc42 => ?_) (fun hc42 => ?_)
   · obtain ⟨d, hd⟩ := some_at (l := dz) (i := i - 1) (by omega)
     have hdl := hdz d (List.mem_of_getElem? hd)
     have hx := hNL3.ln.next (i - 1) d hd
     rw [show i - 1 + 1 = i by omega] at hx
     obtain ⟨dN, oN, cN, exN, wrN, rN, iv, hNe, hNd, hNr, hNl, hNg, hI2, hic⟩ := RowN.at hNL3.hN hx
     have hTi := hlim (i - 1)
     refine k_reg (m1 (z1 (z2 (z4 u7))) (rO (o_faddr (off := 0) (eV (z8 u5))) (rO (o_load eZ (lN hh39 (lN hh37 (Keep.look hk_r (by omega) id (lN hh33 (lS hh31))))) rfl) (m1 (z2 (z8 u12)) (rO (o_iaddrE (i := i) (eV (z1 ds)) hNe eZ (by omega)) (rO (o_faddr (off := 7) eZ) (rO (o_load eZ hNr (node_at (v := .int .i64 d) hNg rfl)) (rO (o_add (eV (z2 (z4 ds))) eZ (by omega) (by omega)) (m1 ds (r_nil (k_seq ?_)))))))))))
     have hsum : (sm + d) = tS T0 dz i := by have h_ := tS_succ (t0 := T0) hd; rw [show i - 1 + 1 = i by omega] at h_; rw [h_, hsm]
     obtain ⟨hle, hlr⟩ : lq = .slice LB 0 (nL dz dz.length).length (nL dz dz.length).length 3 false ∧ hv t38 LB = some (.row (flatC3 (cS T0 dz (nL dz dz.length).length)) true) := hOL3.v.elim (fun h => absurd h.2.2 (by omega)) id
     refine k_reg (rO (o_faddr (off := 3) (eV (z8 (z8 u10)))) (rO (o_load eZ (lS hh39) rfl) (m1 (z2 (z8 (z8 u12))) (rO (o_iaddrE (i := i) (eV (z1 ds)) hle eZ (by omega)) ?_))))
     refine rO (o_loadA (n := 3) eZ hlr (by have h_ := hOL3.len; omega) (show _ = [(.int .i64 (sm + d)), (.int .i64 ((i : Nat) : Int)), (.str [49])] from by rw [hsum]; exact cS_row rfl hOL3.len (by omega))) ?_
     refine m1 (z1 (z4 ds)) (m1 (z2 (z4 (z8 (z8 u12)))) (rO (o_build (fill_cons (eV (z1 ds)) rfl rfl (fill_cons eZ rfl rfl (fill_cons ev_c rfl rfl fill_nil)))) (rO (o_same3 (eV (z1 (z2 ds))) eZ) (r_nil (k_cond_f eZ (k_skip (k_reg (m1 (z1 (z8 (z8 (z8 u12)))) (rO (o_addN (a := i) (b := 1) eZ ev_c (by omega)) (m1 ds (r_nil ?_)))))))))))
     exact ⟨dz.length + 1 - (i + 1), by omega, i + 1, (sm + d), by omega, ⟨(z4 (z8 (z8 (z8 u5)))), (z4 (z8 (z8 (z8 u10)))), (z4 (z8 ds)), ds⟩, (by rw [Nat.add_sub_cancel]; exact hsum), by omega, rfl, rfl⟩
   refine k_skip (k_seq ?_)
   have hi0 : i = 0 := by omega
   have hsum : sm = tS T0 dz i := by rw [hsm, hi0]
   obtain ⟨hle, hlr⟩ : lq = .slice LB 0 (nL dz dz.length).length (nL dz dz.length).length 3 false ∧ hv t38 LB = some (.row (flatC3 (cS T0 dz (nL dz dz.length).length)) true) := hOL3.v.elim (fun h => absurd h.2.2 (by omega)) id
   refine k_reg (rO (o_faddr (off := 3) (eV (z1 (z2 (z4 u10))))) (rO (o_load eZ (lS hh39) rfl) (m1 (z1 (z8 u12)) (rO (o_iaddrE (i := i) (eV (z1 ds)) hle eZ (by omega)) ?_))))
   refine rO (o_loadA (n := 3) eZ hlr (by have h_ := hOL3.len; omega) (show _ = [(.int .i64 sm), (.int .i64 ((i : Nat) : Int)), (.str [49])] from by rw [hsum]; exact cS_row rfl hOL3.len (by omega))) ?_
   refine m1 (z4 (z8 u7)) (m1 (z1 (z4 (z8 u12))) (rO (o_build (fill_cons (eV (z1 ds)) rfl rfl (fill_cons eZ rfl rfl (fill_cons ev_c rfl rfl fill_nil)))) (rO (o_same3 (eV (z1 (z2 ds))) eZ) (r_nil (k_cond_f eZ (k_skip (k_reg (m1 (z8 (z8 u12)) (rO (o_addN (a := i) (b := 1) eZ ev_c (by omega)) (m1 ds (r_nil ?_)))))))))))
   exact ⟨dz.length + 1 - (i + 1), by omega, i + 1, sm, by omega, ⟨(z1 (z2 (z8 (z8 u5)))), (z1 (z2 (z8 (z8 u10)))), (z1 (z2 (z8 (z8 u7)))), ds⟩, (by rw [Nat.add_sub_cancel]; exact hsum), by omega, rfl, rfl⟩
 refine k_exit (exK_same (k_seq (k_reg (r_call (w_callF evs_nil) rfl (WF.mono ((k_prim (Q := fun v t' nx' => v = .bool true) awake0_tab rfl rfl)) ?_)))))
 rintro _ t43 n44 rfl
 refine m1 ds (r_nil (k_ret ?_))
 exact ⟨_, ans_tmp ds, rfl⟩
end Go.Proofs.YtpjohgnhmjceiaaGreatDoor.WX

